-- printed by this session's own program (wip/tools/pp.py: the kit's print.py with changes); Lean checks it
import Derived.Test.YtkgogglnipdcfaaQFnScoresx0
import Derived.Test.YtkgogglnipdcfaaQFnScoresx1
import Derived.Test.YtkgogglnipdcfaaQFnScoresx5
import Derived.Test.YtkgogglnipdcfaaQFnScoresx6
import Derived.Test.YtkgogglnipdcfaaQFnScoresx7
import Derived.Test.YtkgogglnipdcfaaQFnScoresx8
import Derived.Test.YtkgogglnipdcfaaQFnScoresx9
import Derived.Test.YtkgogglnipdcfaaQFnScoresx10
import Derived.Test.YtkgogglnipdcfaaQFnScoresx11
namespace Go.Proofs.Ytkgogglnipdcfaa.QFnScores
open Go.RowKit Go.Proofs.YtkgogglnipdcfaaW.PrintWords Go.Proofs.YtkgogglnipdcfaaW.PrintLast Go.Proofs.YtkgogglnipdcfaaW.PrintMore
attribute [local go_sem] max2_int min2_int max_two min_two max_three min_three max_four min_four strLss strGtr strLeq strGeq   -- for this text's walks alone
set_option linter.unusedVariables false
set_option linter.unusedSimpArgs false

attribute [local go_sem high] eqA85
/-! ### laws_FnScores: function 11 -/
mutual
def laws_FnScores.j0 : Nat → List Int → Int → Int → List (S85) → List (S91) → List (S110) → Bool → Bool → Option (Bool)
  | 0, _, _, _, _, _, _, _, _ => none
  | k + 1, x1, x5, x6, x7, x8, x9, x10, x78 => if x78 = true then (some false) else (if x10 = true then (laws_FnScores.l0 k x1 x5 x6 x7 x8 x9 ([] : List (S85)) (wrap64 ((x7.length : Int) - 1))) else (laws_FnScores.j7 k x1))
def laws_FnScores.j7 : Nat → List Int → Option (Bool)
  | 0, _ => none
  | k + 1, x1 => (spec_DrawAddTallies.f k x1).bind fun bt604 => ((impl_AddTallies.f k bt604.1 bt604.2).bind fun bt610 => ((spec_AddTallies.f k bt604.1 bt604.2).bind fun bt614 => ((spec_DrawDebitsFor.f k x1).bind fun bt618 => ((impl_DebitsFor.f k bt618.1 bt618.2.1 bt618.2.2).bind fun bt623 => ((spec_DebitsFor.f k bt618.1 bt618.2.1 bt618.2.2).bind fun bt627 => (if (bt610.2 != bt614.2) = true then (laws_FnScores.j8 k bt623.1 bt627.1 true) else ((laws_sameTallies.f k bt610.1 bt614.1).bind fun t631 => (if t631 = true then (if (bt623.2 != bt627.2) = true then (laws_FnScores.j8 k bt623.1 bt627.1 true) else (laws_FnScores.j8 k bt623.1 bt627.1 ((bt623.1.length : Int) != (bt627.1.length : Int)))) else (laws_FnScores.j8 k bt623.1 bt627.1 true)))))))))
def laws_FnScores.j8 : Nat → List (S85) → List (S85) → Bool → Option (Bool)
  | 0, _, _, _ => none
  | k + 1, x36, x38, x242 => if x242 = true then (some false) else (laws_FnScores.l4 k x36 x38 (x36.length : Int) 0)
def laws_FnScores.l4 : Nat → List (S85) → List (S85) → Int → Int → Option (Bool)
  | 0, _, _, _, _ => none
  | k + 1, x36, x38, x244, x245 => if x245 < x244 then (if 0 ≤ x245 then (if x245 < (x36.length : Int) then (if x245 < (x38.length : Int) then (if (!(((rd_T85 x36 x245).f0) == ((rd_T85 x38 x245).f0)) || (!(((rd_T85 x36 x245).f1) == ((rd_T85 x38 x245).f1)) || (!(((rd_T85 x36 x245).f2) == ((rd_T85 x38 x245).f2))))) = true then (some false) else (laws_FnScores.l4 k x36 x38 x244 (wrap64 (x245 + 1)))) else (none)) else (none)) else (none)) else (some true)
def laws_FnScores.l0 : Nat → List Int → Int → Int → List (S85) → List (S91) → List (S110) → List (S85) → Int → Option (Bool)
  | 0, _, _, _, _, _, _, _, _ => none
  | k + 1, x1, x5, x6, x7, x8, x9, x13, x15 => if x15 ≥ 0 then (if 0 ≤ x15 then (if x15 < (x7.length : Int) then (if x13.length < 5864062014805 then (laws_FnScores.l0 k x1 x5 x6 x7 x8 x9 (x13 ++ [(⟨(rd_T85 x7 x15).f0, (rd_T85 x7 x15).f1, (rd_T85 x7 x15).f2⟩ : S85)]) (wrap64 (x15 - 1))) else (none)) else (none)) else (none)) else (laws_FnScores.l1 k x1 x5 x6 x8 x9 x13 ([] : List (S91)) (wrap64 ((x8.length : Int) - 1)))
def laws_FnScores.l1 : Nat → List Int → Int → Int → List (S91) → List (S110) → List (S85) → List (S91) → Int → Option (Bool)
  | 0, _, _, _, _, _, _, _, _ => none
  | k + 1, x1, x5, x6, x8, x9, x13, x14, x16 => if x16 ≥ 0 then (if 0 ≤ x16 then (if x16 < (x8.length : Int) then (if x14.length < 3518437208883 then (laws_FnScores.l1 k x1 x5 x6 x8 x9 x13 (x14 ++ [(⟨(rd_T91 x8 x16).f0, (⟨(rd_T91 x8 x16).f1.f0, (rd_T91 x8 x16).f1.f1, (rd_T91 x8 x16).f1.f2⟩ : S85), (rd_T91 x8 x16).f2⟩ : S91)]) (wrap64 (x16 - 1))) else (none)) else (none)) else (none)) else ((impl_TallyOf.f k x5 x6 x13 x14).bind fun bt588 => (if bt588.2 = true then ((laws_sameTallies.f k bt588.1 x9).bind fun t592 => (if t592 = true then (if (x9.length : Int) = x5 then ((impl_GoodTallies.f k x9).bind fun t593 => (laws_FnScores.j3 k x1 x6 x8 x9 (!t593))) else (laws_FnScores.j3 k x1 x6 x8 x9 true)) else (laws_FnScores.j3 k x1 x6 x8 x9 true))) else (laws_FnScores.j3 k x1 x6 x8 x9 true)))
def laws_FnScores.j3 : Nat → List Int → Int → List (S91) → List (S110) → Bool → Option (Bool)
  | 0, _, _, _, _, _ => none
  | k + 1, x1, x6, x8, x9, x134 => if x134 = true then (some false) else (laws_FnScores.l2 k x1 x6 x8 x9 (x9.length : Int) 0)
def laws_FnScores.l2 : Nat → List Int → Int → List (S91) → List (S110) → Int → Int → Option (Bool)
  | 0, _, _, _, _, _, _ => none
  | k + 1, x1, x6, x8, x9, x136, x137 => if x137 < x136 then (if 0 ≤ x137 then (if x137 < (x9.length : Int) then ((impl_DebitsFor.f k x6 x8 x137).bind fun bt596 => (if bt596.2 = true then (laws_FnScores.j5 k x1 x6 x8 x9 x137 bt596.1 x136 x137 ((bt596.1.length : Int) != ((rd_T110 x9 x137).f2))) else (laws_FnScores.j5 k x1 x6 x8 x9 x137 bt596.1 x136 x137 true))) else (none)) else (none)) else (laws_FnScores.j7 k x1)
def laws_FnScores.j5 : Nat → List Int → Int → List (S91) → List (S110) → Int → List (S85) → Int → Int → Bool → Option (Bool)
  | 0, _, _, _, _, _, _, _, _, _ => none
  | k + 1, x1, x6, x8, x9, x19, x21, x136, x137, x157 => if x157 = true then (some false) else (laws_FnScores.l3 k x1 x6 x8 x9 x19 x21 x136 x137 (x21.length : Int) 0)
def laws_FnScores.l3 : Nat → List Int → Int → List (S91) → List (S110) → Int → List (S85) → Int → Int → Int → Int → Option (Bool)
  | 0, _, _, _, _, _, _, _, _, _, _ => none
  | k + 1, x1, x6, x8, x9, x19, x21, x136, x137, x159, x160 => if x160 < x159 then (if 0 ≤ x160 then (if x160 < (x21.length : Int) then ((impl_IsProved.f k x6 x8 ((rd_T85 x21 x160).f0) ((rd_T85 x21 x160).f1) ((rd_T85 x21 x160).f2)).bind fun bt602 => (if bt602.2 = true then (if bt602.1 = true then (if ((rd_T85 x21 x160).f0) = x19 then (laws_FnScores.l3 k x1 x6 x8 x9 x19 x21 x136 x137 x159 (wrap64 (x160 + 1))) else (some false)) else (some false)) else (some false))) else (none)) else (none)) else (laws_FnScores.l2 k x1 x6 x8 x9 x136 (wrap64 (x137 + 1)))
end
def laws_FnScores.f (k : Nat) (l0 : List Int) (l1 : List Int) : Option (Bool) := if (wrap64 ((l0.length : Int) + (l1.length : Int))) > 1048576 then (some true) else ((spec_DrawTallyOf.f k l0).bind fun bt563 => ((impl_TallyOf.f k bt563.1 bt563.2.1 bt563.2.2.1 bt563.2.2.2).bind fun bt571 => ((spec_TallyOf.f k bt563.1 bt563.2.1 bt563.2.2.1 bt563.2.2.2).bind fun bt575 => (if (bt571.2 != bt575.2) = true then (laws_FnScores.j0 k l1 bt563.1 bt563.2.1 bt563.2.2.1 bt563.2.2.2 bt571.1 bt571.2 true) else ((laws_sameTallies.f k bt571.1 bt575.1).bind fun t579 => (laws_FnScores.j0 k l1 bt563.1 bt563.2.1 bt563.2.2.1 bt563.2.2.2 bt571.1 bt571.2 (!t579)))))))
theorem laws_FnScores.mono_l : ∀ k, (∀ y0 y1 y2 y3 y4 y5 y6 y7, LeO (laws_FnScores.j0 k y0 y1 y2 y3 y4 y5 y6 y7) (laws_FnScores.j0 (k + 1) y0 y1 y2 y3 y4 y5 y6 y7)) ∧ (∀ y0, LeO (laws_FnScores.j7 k y0) (laws_FnScores.j7 (k + 1) y0)) ∧ (∀ y0 y1 y2, LeO (laws_FnScores.j8 k y0 y1 y2) (laws_FnScores.j8 (k + 1) y0 y1 y2)) ∧ (∀ y0 y1 y2 y3, LeO (laws_FnScores.l4 k y0 y1 y2 y3) (laws_FnScores.l4 (k + 1) y0 y1 y2 y3)) ∧ (∀ y0 y1 y2 y3 y4 y5 y6 y7, LeO (laws_FnScores.l0 k y0 y1 y2 y3 y4 y5 y6 y7) (laws_FnScores.l0 (k + 1) y0 y1 y2 y3 y4 y5 y6 y7)) ∧ (∀ y0 y1 y2 y3 y4 y5 y6 y7, LeO (laws_FnScores.l1 k y0 y1 y2 y3 y4 y5 y6 y7) (laws_FnScores.l1 (k + 1) y0 y1 y2 y3 y4 y5 y6 y7)) ∧ (∀ y0 y1 y2 y3 y4, LeO (laws_FnScores.j3 k y0 y1 y2 y3 y4) (laws_FnScores.j3 (k + 1) y0 y1 y2 y3 y4)) ∧ (∀ y0 y1 y2 y3 y4 y5, LeO (laws_FnScores.l2 k y0 y1 y2 y3 y4 y5) (laws_FnScores.l2 (k + 1) y0 y1 y2 y3 y4 y5)) ∧ (∀ y0 y1 y2 y3 y4 y5 y6 y7 y8, LeO (laws_FnScores.j5 k y0 y1 y2 y3 y4 y5 y6 y7 y8) (laws_FnScores.j5 (k + 1) y0 y1 y2 y3 y4 y5 y6 y7 y8)) ∧ (∀ y0 y1 y2 y3 y4 y5 y6 y7 y8 y9, LeO (laws_FnScores.l3 k y0 y1 y2 y3 y4 y5 y6 y7 y8 y9) (laws_FnScores.l3 (k + 1) y0 y1 y2 y3 y4 y5 y6 y7 y8 y9))
 | 0 => ⟨fun _ _ _ _ _ _ _ _ r h => by simp [laws_FnScores.j0] at h, fun _ r h => by simp [laws_FnScores.j7] at h, fun _ _ _ r h => by simp [laws_FnScores.j8] at h, fun _ _ _ _ r h => by simp [laws_FnScores.l4] at h, fun _ _ _ _ _ _ _ _ r h => by simp [laws_FnScores.l0] at h, fun _ _ _ _ _ _ _ _ r h => by simp [laws_FnScores.l1] at h, fun _ _ _ _ _ r h => by simp [laws_FnScores.j3] at h, fun _ _ _ _ _ _ r h => by simp [laws_FnScores.l2] at h, fun _ _ _ _ _ _ _ _ _ r h => by simp [laws_FnScores.j5] at h, fun _ _ _ _ _ _ _ _ _ _ r h => by simp [laws_FnScores.l3] at h⟩
 | k + 1 => by
  obtain ⟨ih0, ih1, ih2, ih3, ih4, ih5, ih6, ih7, ih8, ih9⟩ := laws_FnScores.mono_l k
  refine ⟨?_, ?_, ?_, ?_, ?_, ?_, ?_, ?_, ?_, ?_⟩
  ·intro y0 y1 y2 y3 y4 y5 y6 y7
   unfold laws_FnScores.j0
   repeat' (first | (with_reducible first | exact ih0 _ _ _ _ _ _ _ _ | exact ih1 _ | exact ih2 _ _ _ | exact ih3 _ _ _ _ | exact ih4 _ _ _ _ _ _ _ _ | exact ih5 _ _ _ _ _ _ _ _ | exact ih6 _ _ _ _ _ | exact ih7 _ _ _ _ _ _ | exact ih8 _ _ _ _ _ _ _ _ _ | exact ih9 _ _ _ _ _ _ _ _ _ _ | exact impl_AddTallies.mono _ _ _ | exact impl_DebitsFor.mono _ _ _ _ | exact impl_GoodTallies.mono _ _ | exact impl_IsProved.mono _ _ _ _ _ _ | exact impl_TallyOf.mono _ _ _ _ _ | exact laws_sameTallies.mono _ _ _ | exact spec_AddTallies.mono _ _ _ | exact spec_DebitsFor.mono _ _ _ _ | exact spec_DrawAddTallies.mono _ _ | exact spec_DrawDebitsFor.mono _ _ | exact spec_DrawTallyOf.mono _ _ | exact spec_TallyOf.mono _ _ _ _ _ | exact LeO.refl _ | exact LeO.none _ | refine LeO.ite ?_ ?_ | refine LeO.bind ?_ (fun _ => ?_)) | exact ih0 _ _ _ _ _ _ _ _ | exact ih1 _ | exact ih2 _ _ _ | exact ih3 _ _ _ _ | exact ih4 _ _ _ _ _ _ _ _ | exact ih5 _ _ _ _ _ _ _ _ | exact ih6 _ _ _ _ _ | exact ih7 _ _ _ _ _ _ | exact ih8 _ _ _ _ _ _ _ _ _ | exact ih9 _ _ _ _ _ _ _ _ _ _ | exact impl_AddTallies.mono _ _ _ | exact impl_DebitsFor.mono _ _ _ _ | exact impl_GoodTallies.mono _ _ | exact impl_IsProved.mono _ _ _ _ _ _ | exact impl_TallyOf.mono _ _ _ _ _ | exact laws_sameTallies.mono _ _ _ | exact spec_AddTallies.mono _ _ _ | exact spec_DebitsFor.mono _ _ _ _ | exact spec_DrawAddTallies.mono _ _ | exact spec_DrawDebitsFor.mono _ _ | exact spec_DrawTallyOf.mono _ _ | exact spec_TallyOf.mono _ _ _ _ _ | exact LeO.none _ | refine LeO.ite ?_ ?_ | refine LeO.bind ?_ (fun _ => ?_))
  ·intro y0
   unfold laws_FnScores.j7
   repeat' (first | (with_reducible first | exact ih0 _ _ _ _ _ _ _ _ | exact ih1 _ | exact ih2 _ _ _ | exact ih3 _ _ _ _ | exact ih4 _ _ _ _ _ _ _ _ | exact ih5 _ _ _ _ _ _ _ _ | exact ih6 _ _ _ _ _ | exact ih7 _ _ _ _ _ _ | exact ih8 _ _ _ _ _ _ _ _ _ | exact ih9 _ _ _ _ _ _ _ _ _ _ | exact impl_AddTallies.mono _ _ _ | exact impl_DebitsFor.mono _ _ _ _ | exact impl_GoodTallies.mono _ _ | exact impl_IsProved.mono _ _ _ _ _ _ | exact impl_TallyOf.mono _ _ _ _ _ | exact laws_sameTallies.mono _ _ _ | exact spec_AddTallies.mono _ _ _ | exact spec_DebitsFor.mono _ _ _ _ | exact spec_DrawAddTallies.mono _ _ | exact spec_DrawDebitsFor.mono _ _ | exact spec_DrawTallyOf.mono _ _ | exact spec_TallyOf.mono _ _ _ _ _ | exact LeO.refl _ | exact LeO.none _ | refine LeO.ite ?_ ?_ | refine LeO.bind ?_ (fun _ => ?_)) | exact ih0 _ _ _ _ _ _ _ _ | exact ih1 _ | exact ih2 _ _ _ | exact ih3 _ _ _ _ | exact ih4 _ _ _ _ _ _ _ _ | exact ih5 _ _ _ _ _ _ _ _ | exact ih6 _ _ _ _ _ | exact ih7 _ _ _ _ _ _ | exact ih8 _ _ _ _ _ _ _ _ _ | exact ih9 _ _ _ _ _ _ _ _ _ _ | exact impl_AddTallies.mono _ _ _ | exact impl_DebitsFor.mono _ _ _ _ | exact impl_GoodTallies.mono _ _ | exact impl_IsProved.mono _ _ _ _ _ _ | exact impl_TallyOf.mono _ _ _ _ _ | exact laws_sameTallies.mono _ _ _ | exact spec_AddTallies.mono _ _ _ | exact spec_DebitsFor.mono _ _ _ _ | exact spec_DrawAddTallies.mono _ _ | exact spec_DrawDebitsFor.mono _ _ | exact spec_DrawTallyOf.mono _ _ | exact spec_TallyOf.mono _ _ _ _ _ | exact LeO.none _ | refine LeO.ite ?_ ?_ | refine LeO.bind ?_ (fun _ => ?_))
  ·intro y0 y1 y2
   unfold laws_FnScores.j8
   repeat' (first | (with_reducible first | exact ih0 _ _ _ _ _ _ _ _ | exact ih1 _ | exact ih2 _ _ _ | exact ih3 _ _ _ _ | exact ih4 _ _ _ _ _ _ _ _ | exact ih5 _ _ _ _ _ _ _ _ | exact ih6 _ _ _ _ _ | exact ih7 _ _ _ _ _ _ | exact ih8 _ _ _ _ _ _ _ _ _ | exact ih9 _ _ _ _ _ _ _ _ _ _ | exact impl_AddTallies.mono _ _ _ | exact impl_DebitsFor.mono _ _ _ _ | exact impl_GoodTallies.mono _ _ | exact impl_IsProved.mono _ _ _ _ _ _ | exact impl_TallyOf.mono _ _ _ _ _ | exact laws_sameTallies.mono _ _ _ | exact spec_AddTallies.mono _ _ _ | exact spec_DebitsFor.mono _ _ _ _ | exact spec_DrawAddTallies.mono _ _ | exact spec_DrawDebitsFor.mono _ _ | exact spec_DrawTallyOf.mono _ _ | exact spec_TallyOf.mono _ _ _ _ _ | exact LeO.refl _ | exact LeO.none _ | refine LeO.ite ?_ ?_ | refine LeO.bind ?_ (fun _ => ?_)) | exact ih0 _ _ _ _ _ _ _ _ | exact ih1 _ | exact ih2 _ _ _ | exact ih3 _ _ _ _ | exact ih4 _ _ _ _ _ _ _ _ | exact ih5 _ _ _ _ _ _ _ _ | exact ih6 _ _ _ _ _ | exact ih7 _ _ _ _ _ _ | exact ih8 _ _ _ _ _ _ _ _ _ | exact ih9 _ _ _ _ _ _ _ _ _ _ | exact impl_AddTallies.mono _ _ _ | exact impl_DebitsFor.mono _ _ _ _ | exact impl_GoodTallies.mono _ _ | exact impl_IsProved.mono _ _ _ _ _ _ | exact impl_TallyOf.mono _ _ _ _ _ | exact laws_sameTallies.mono _ _ _ | exact spec_AddTallies.mono _ _ _ | exact spec_DebitsFor.mono _ _ _ _ | exact spec_DrawAddTallies.mono _ _ | exact spec_DrawDebitsFor.mono _ _ | exact spec_DrawTallyOf.mono _ _ | exact spec_TallyOf.mono _ _ _ _ _ | exact LeO.none _ | refine LeO.ite ?_ ?_ | refine LeO.bind ?_ (fun _ => ?_))
  ·intro y0 y1 y2 y3
   unfold laws_FnScores.l4
   repeat' (first | (with_reducible first | exact ih0 _ _ _ _ _ _ _ _ | exact ih1 _ | exact ih2 _ _ _ | exact ih3 _ _ _ _ | exact ih4 _ _ _ _ _ _ _ _ | exact ih5 _ _ _ _ _ _ _ _ | exact ih6 _ _ _ _ _ | exact ih7 _ _ _ _ _ _ | exact ih8 _ _ _ _ _ _ _ _ _ | exact ih9 _ _ _ _ _ _ _ _ _ _ | exact impl_AddTallies.mono _ _ _ | exact impl_DebitsFor.mono _ _ _ _ | exact impl_GoodTallies.mono _ _ | exact impl_IsProved.mono _ _ _ _ _ _ | exact impl_TallyOf.mono _ _ _ _ _ | exact laws_sameTallies.mono _ _ _ | exact spec_AddTallies.mono _ _ _ | exact spec_DebitsFor.mono _ _ _ _ | exact spec_DrawAddTallies.mono _ _ | exact spec_DrawDebitsFor.mono _ _ | exact spec_DrawTallyOf.mono _ _ | exact spec_TallyOf.mono _ _ _ _ _ | exact LeO.refl _ | exact LeO.none _ | refine LeO.ite ?_ ?_ | refine LeO.bind ?_ (fun _ => ?_)) | exact ih0 _ _ _ _ _ _ _ _ | exact ih1 _ | exact ih2 _ _ _ | exact ih3 _ _ _ _ | exact ih4 _ _ _ _ _ _ _ _ | exact ih5 _ _ _ _ _ _ _ _ | exact ih6 _ _ _ _ _ | exact ih7 _ _ _ _ _ _ | exact ih8 _ _ _ _ _ _ _ _ _ | exact ih9 _ _ _ _ _ _ _ _ _ _ | exact impl_AddTallies.mono _ _ _ | exact impl_DebitsFor.mono _ _ _ _ | exact impl_GoodTallies.mono _ _ | exact impl_IsProved.mono _ _ _ _ _ _ | exact impl_TallyOf.mono _ _ _ _ _ | exact laws_sameTallies.mono _ _ _ | exact spec_AddTallies.mono _ _ _ | exact spec_DebitsFor.mono _ _ _ _ | exact spec_DrawAddTallies.mono _ _ | exact spec_DrawDebitsFor.mono _ _ | exact spec_DrawTallyOf.mono _ _ | exact spec_TallyOf.mono _ _ _ _ _ | exact LeO.none _ | refine LeO.ite ?_ ?_ | refine LeO.bind ?_ (fun _ => ?_))
  ·intro y0 y1 y2 y3 y4 y5 y6 y7
   unfold laws_FnScores.l0
   repeat' (first | (with_reducible first | exact ih0 _ _ _ _ _ _ _ _ | exact ih1 _ | exact ih2 _ _ _ | exact ih3 _ _ _ _ | exact ih4 _ _ _ _ _ _ _ _ | exact ih5 _ _ _ _ _ _ _ _ | exact ih6 _ _ _ _ _ | exact ih7 _ _ _ _ _ _ | exact ih8 _ _ _ _ _ _ _ _ _ | exact ih9 _ _ _ _ _ _ _ _ _ _ | exact impl_AddTallies.mono _ _ _ | exact impl_DebitsFor.mono _ _ _ _ | exact impl_GoodTallies.mono _ _ | exact impl_IsProved.mono _ _ _ _ _ _ | exact impl_TallyOf.mono _ _ _ _ _ | exact laws_sameTallies.mono _ _ _ | exact spec_AddTallies.mono _ _ _ | exact spec_DebitsFor.mono _ _ _ _ | exact spec_DrawAddTallies.mono _ _ | exact spec_DrawDebitsFor.mono _ _ | exact spec_DrawTallyOf.mono _ _ | exact spec_TallyOf.mono _ _ _ _ _ | exact LeO.refl _ | exact LeO.none _ | refine LeO.ite ?_ ?_ | refine LeO.bind ?_ (fun _ => ?_)) | exact ih0 _ _ _ _ _ _ _ _ | exact ih1 _ | exact ih2 _ _ _ | exact ih3 _ _ _ _ | exact ih4 _ _ _ _ _ _ _ _ | exact ih5 _ _ _ _ _ _ _ _ | exact ih6 _ _ _ _ _ | exact ih7 _ _ _ _ _ _ | exact ih8 _ _ _ _ _ _ _ _ _ | exact ih9 _ _ _ _ _ _ _ _ _ _ | exact impl_AddTallies.mono _ _ _ | exact impl_DebitsFor.mono _ _ _ _ | exact impl_GoodTallies.mono _ _ | exact impl_IsProved.mono _ _ _ _ _ _ | exact impl_TallyOf.mono _ _ _ _ _ | exact laws_sameTallies.mono _ _ _ | exact spec_AddTallies.mono _ _ _ | exact spec_DebitsFor.mono _ _ _ _ | exact spec_DrawAddTallies.mono _ _ | exact spec_DrawDebitsFor.mono _ _ | exact spec_DrawTallyOf.mono _ _ | exact spec_TallyOf.mono _ _ _ _ _ | exact LeO.none _ | refine LeO.ite ?_ ?_ | refine LeO.bind ?_ (fun _ => ?_))
  ·intro y0 y1 y2 y3 y4 y5 y6 y7
   unfold laws_FnScores.l1
   repeat' (first | (with_reducible first | exact ih0 _ _ _ _ _ _ _ _ | exact ih1 _ | exact ih2 _ _ _ | exact ih3 _ _ _ _ | exact ih4 _ _ _ _ _ _ _ _ | exact ih5 _ _ _ _ _ _ _ _ | exact ih6 _ _ _ _ _ | exact ih7 _ _ _ _ _ _ | exact ih8 _ _ _ _ _ _ _ _ _ | exact ih9 _ _ _ _ _ _ _ _ _ _ | exact impl_AddTallies.mono _ _ _ | exact impl_DebitsFor.mono _ _ _ _ | exact impl_GoodTallies.mono _ _ | exact impl_IsProved.mono _ _ _ _ _ _ | exact impl_TallyOf.mono _ _ _ _ _ | exact laws_sameTallies.mono _ _ _ | exact spec_AddTallies.mono _ _ _ | exact spec_DebitsFor.mono _ _ _ _ | exact spec_DrawAddTallies.mono _ _ | exact spec_DrawDebitsFor.mono _ _ | exact spec_DrawTallyOf.mono _ _ | exact spec_TallyOf.mono _ _ _ _ _ | exact LeO.refl _ | exact LeO.none _ | refine LeO.ite ?_ ?_ | refine LeO.bind ?_ (fun _ => ?_)) | exact ih0 _ _ _ _ _ _ _ _ | exact ih1 _ | exact ih2 _ _ _ | exact ih3 _ _ _ _ | exact ih4 _ _ _ _ _ _ _ _ | exact ih5 _ _ _ _ _ _ _ _ | exact ih6 _ _ _ _ _ | exact ih7 _ _ _ _ _ _ | exact ih8 _ _ _ _ _ _ _ _ _ | exact ih9 _ _ _ _ _ _ _ _ _ _ | exact impl_AddTallies.mono _ _ _ | exact impl_DebitsFor.mono _ _ _ _ | exact impl_GoodTallies.mono _ _ | exact impl_IsProved.mono _ _ _ _ _ _ | exact impl_TallyOf.mono _ _ _ _ _ | exact laws_sameTallies.mono _ _ _ | exact spec_AddTallies.mono _ _ _ | exact spec_DebitsFor.mono _ _ _ _ | exact spec_DrawAddTallies.mono _ _ | exact spec_DrawDebitsFor.mono _ _ | exact spec_DrawTallyOf.mono _ _ | exact spec_TallyOf.mono _ _ _ _ _ | exact LeO.none _ | refine LeO.ite ?_ ?_ | refine LeO.bind ?_ (fun _ => ?_))
  ·intro y0 y1 y2 y3 y4
   unfold laws_FnScores.j3
   repeat' (first | (with_reducible first | exact ih0 _ _ _ _ _ _ _ _ | exact ih1 _ | exact ih2 _ _ _ | exact ih3 _ _ _ _ | exact ih4 _ _ _ _ _ _ _ _ | exact ih5 _ _ _ _ _ _ _ _ | exact ih6 _ _ _ _ _ | exact ih7 _ _ _ _ _ _ | exact ih8 _ _ _ _ _ _ _ _ _ | exact ih9 _ _ _ _ _ _ _ _ _ _ | exact impl_AddTallies.mono _ _ _ | exact impl_DebitsFor.mono _ _ _ _ | exact impl_GoodTallies.mono _ _ | exact impl_IsProved.mono _ _ _ _ _ _ | exact impl_TallyOf.mono _ _ _ _ _ | exact laws_sameTallies.mono _ _ _ | exact spec_AddTallies.mono _ _ _ | exact spec_DebitsFor.mono _ _ _ _ | exact spec_DrawAddTallies.mono _ _ | exact spec_DrawDebitsFor.mono _ _ | exact spec_DrawTallyOf.mono _ _ | exact spec_TallyOf.mono _ _ _ _ _ | exact LeO.refl _ | exact LeO.none _ | refine LeO.ite ?_ ?_ | refine LeO.bind ?_ (fun _ => ?_)) | exact ih0 _ _ _ _ _ _ _ _ | exact ih1 _ | exact ih2 _ _ _ | exact ih3 _ _ _ _ | exact ih4 _ _ _ _ _ _ _ _ | exact ih5 _ _ _ _ _ _ _ _ | exact ih6 _ _ _ _ _ | exact ih7 _ _ _ _ _ _ | exact ih8 _ _ _ _ _ _ _ _ _ | exact ih9 _ _ _ _ _ _ _ _ _ _ | exact impl_AddTallies.mono _ _ _ | exact impl_DebitsFor.mono _ _ _ _ | exact impl_GoodTallies.mono _ _ | exact impl_IsProved.mono _ _ _ _ _ _ | exact impl_TallyOf.mono _ _ _ _ _ | exact laws_sameTallies.mono _ _ _ | exact spec_AddTallies.mono _ _ _ | exact spec_DebitsFor.mono _ _ _ _ | exact spec_DrawAddTallies.mono _ _ | exact spec_DrawDebitsFor.mono _ _ | exact spec_DrawTallyOf.mono _ _ | exact spec_TallyOf.mono _ _ _ _ _ | exact LeO.none _ | refine LeO.ite ?_ ?_ | refine LeO.bind ?_ (fun _ => ?_))
  ·intro y0 y1 y2 y3 y4 y5
   unfold laws_FnScores.l2
   repeat' (first | (with_reducible first | exact ih0 _ _ _ _ _ _ _ _ | exact ih1 _ | exact ih2 _ _ _ | exact ih3 _ _ _ _ | exact ih4 _ _ _ _ _ _ _ _ | exact ih5 _ _ _ _ _ _ _ _ | exact ih6 _ _ _ _ _ | exact ih7 _ _ _ _ _ _ | exact ih8 _ _ _ _ _ _ _ _ _ | exact ih9 _ _ _ _ _ _ _ _ _ _ | exact impl_AddTallies.mono _ _ _ | exact impl_DebitsFor.mono _ _ _ _ | exact impl_GoodTallies.mono _ _ | exact impl_IsProved.mono _ _ _ _ _ _ | exact impl_TallyOf.mono _ _ _ _ _ | exact laws_sameTallies.mono _ _ _ | exact spec_AddTallies.mono _ _ _ | exact spec_DebitsFor.mono _ _ _ _ | exact spec_DrawAddTallies.mono _ _ | exact spec_DrawDebitsFor.mono _ _ | exact spec_DrawTallyOf.mono _ _ | exact spec_TallyOf.mono _ _ _ _ _ | exact LeO.refl _ | exact LeO.none _ | refine LeO.ite ?_ ?_ | refine LeO.bind ?_ (fun _ => ?_)) | exact ih0 _ _ _ _ _ _ _ _ | exact ih1 _ | exact ih2 _ _ _ | exact ih3 _ _ _ _ | exact ih4 _ _ _ _ _ _ _ _ | exact ih5 _ _ _ _ _ _ _ _ | exact ih6 _ _ _ _ _ | exact ih7 _ _ _ _ _ _ | exact ih8 _ _ _ _ _ _ _ _ _ | exact ih9 _ _ _ _ _ _ _ _ _ _ | exact impl_AddTallies.mono _ _ _ | exact impl_DebitsFor.mono _ _ _ _ | exact impl_GoodTallies.mono _ _ | exact impl_IsProved.mono _ _ _ _ _ _ | exact impl_TallyOf.mono _ _ _ _ _ | exact laws_sameTallies.mono _ _ _ | exact spec_AddTallies.mono _ _ _ | exact spec_DebitsFor.mono _ _ _ _ | exact spec_DrawAddTallies.mono _ _ | exact spec_DrawDebitsFor.mono _ _ | exact spec_DrawTallyOf.mono _ _ | exact spec_TallyOf.mono _ _ _ _ _ | exact LeO.none _ | refine LeO.ite ?_ ?_ | refine LeO.bind ?_ (fun _ => ?_))
  ·intro y0 y1 y2 y3 y4 y5 y6 y7 y8
   unfold laws_FnScores.j5
   repeat' (first | (with_reducible first | exact ih0 _ _ _ _ _ _ _ _ | exact ih1 _ | exact ih2 _ _ _ | exact ih3 _ _ _ _ | exact ih4 _ _ _ _ _ _ _ _ | exact ih5 _ _ _ _ _ _ _ _ | exact ih6 _ _ _ _ _ | exact ih7 _ _ _ _ _ _ | exact ih8 _ _ _ _ _ _ _ _ _ | exact ih9 _ _ _ _ _ _ _ _ _ _ | exact impl_AddTallies.mono _ _ _ | exact impl_DebitsFor.mono _ _ _ _ | exact impl_GoodTallies.mono _ _ | exact impl_IsProved.mono _ _ _ _ _ _ | exact impl_TallyOf.mono _ _ _ _ _ | exact laws_sameTallies.mono _ _ _ | exact spec_AddTallies.mono _ _ _ | exact spec_DebitsFor.mono _ _ _ _ | exact spec_DrawAddTallies.mono _ _ | exact spec_DrawDebitsFor.mono _ _ | exact spec_DrawTallyOf.mono _ _ | exact spec_TallyOf.mono _ _ _ _ _ | exact LeO.refl _ | exact LeO.none _ | refine LeO.ite ?_ ?_ | refine LeO.bind ?_ (fun _ => ?_)) | exact ih0 _ _ _ _ _ _ _ _ | exact ih1 _ | exact ih2 _ _ _ | exact ih3 _ _ _ _ | exact ih4 _ _ _ _ _ _ _ _ | exact ih5 _ _ _ _ _ _ _ _ | exact ih6 _ _ _ _ _ | exact ih7 _ _ _ _ _ _ | exact ih8 _ _ _ _ _ _ _ _ _ | exact ih9 _ _ _ _ _ _ _ _ _ _ | exact impl_AddTallies.mono _ _ _ | exact impl_DebitsFor.mono _ _ _ _ | exact impl_GoodTallies.mono _ _ | exact impl_IsProved.mono _ _ _ _ _ _ | exact impl_TallyOf.mono _ _ _ _ _ | exact laws_sameTallies.mono _ _ _ | exact spec_AddTallies.mono _ _ _ | exact spec_DebitsFor.mono _ _ _ _ | exact spec_DrawAddTallies.mono _ _ | exact spec_DrawDebitsFor.mono _ _ | exact spec_DrawTallyOf.mono _ _ | exact spec_TallyOf.mono _ _ _ _ _ | exact LeO.none _ | refine LeO.ite ?_ ?_ | refine LeO.bind ?_ (fun _ => ?_))
  ·intro y0 y1 y2 y3 y4 y5 y6 y7 y8 y9
   unfold laws_FnScores.l3
   repeat' (first | (with_reducible first | exact ih0 _ _ _ _ _ _ _ _ | exact ih1 _ | exact ih2 _ _ _ | exact ih3 _ _ _ _ | exact ih4 _ _ _ _ _ _ _ _ | exact ih5 _ _ _ _ _ _ _ _ | exact ih6 _ _ _ _ _ | exact ih7 _ _ _ _ _ _ | exact ih8 _ _ _ _ _ _ _ _ _ | exact ih9 _ _ _ _ _ _ _ _ _ _ | exact impl_AddTallies.mono _ _ _ | exact impl_DebitsFor.mono _ _ _ _ | exact impl_GoodTallies.mono _ _ | exact impl_IsProved.mono _ _ _ _ _ _ | exact impl_TallyOf.mono _ _ _ _ _ | exact laws_sameTallies.mono _ _ _ | exact spec_AddTallies.mono _ _ _ | exact spec_DebitsFor.mono _ _ _ _ | exact spec_DrawAddTallies.mono _ _ | exact spec_DrawDebitsFor.mono _ _ | exact spec_DrawTallyOf.mono _ _ | exact spec_TallyOf.mono _ _ _ _ _ | exact LeO.refl _ | exact LeO.none _ | refine LeO.ite ?_ ?_ | refine LeO.bind ?_ (fun _ => ?_)) | exact ih0 _ _ _ _ _ _ _ _ | exact ih1 _ | exact ih2 _ _ _ | exact ih3 _ _ _ _ | exact ih4 _ _ _ _ _ _ _ _ | exact ih5 _ _ _ _ _ _ _ _ | exact ih6 _ _ _ _ _ | exact ih7 _ _ _ _ _ _ | exact ih8 _ _ _ _ _ _ _ _ _ | exact ih9 _ _ _ _ _ _ _ _ _ _ | exact impl_AddTallies.mono _ _ _ | exact impl_DebitsFor.mono _ _ _ _ | exact impl_GoodTallies.mono _ _ | exact impl_IsProved.mono _ _ _ _ _ _ | exact impl_TallyOf.mono _ _ _ _ _ | exact laws_sameTallies.mono _ _ _ | exact spec_AddTallies.mono _ _ _ | exact spec_DebitsFor.mono _ _ _ _ | exact spec_DrawAddTallies.mono _ _ | exact spec_DrawDebitsFor.mono _ _ | exact spec_DrawTallyOf.mono _ _ | exact spec_TallyOf.mono _ _ _ _ _ | exact LeO.none _ | refine LeO.ite ?_ ?_ | refine LeO.bind ?_ (fun _ => ?_))
theorem laws_FnScores.mono : ∀ a0 a1 k, LeO (laws_FnScores.f k a0 a1) (laws_FnScores.f (k + 1) a0 a1) := by
 intro a0 a1 k
 obtain ⟨ih0, ih1, ih2, ih3, ih4, ih5, ih6, ih7, ih8, ih9⟩ := laws_FnScores.mono_l k
 unfold laws_FnScores.f
 repeat' (first | (with_reducible first | exact ih0 _ _ _ _ _ _ _ _ | exact ih1 _ | exact ih2 _ _ _ | exact ih3 _ _ _ _ | exact ih4 _ _ _ _ _ _ _ _ | exact ih5 _ _ _ _ _ _ _ _ | exact ih6 _ _ _ _ _ | exact ih7 _ _ _ _ _ _ | exact ih8 _ _ _ _ _ _ _ _ _ | exact ih9 _ _ _ _ _ _ _ _ _ _ | exact impl_AddTallies.mono _ _ _ | exact impl_DebitsFor.mono _ _ _ _ | exact impl_GoodTallies.mono _ _ | exact impl_IsProved.mono _ _ _ _ _ _ | exact impl_TallyOf.mono _ _ _ _ _ | exact laws_sameTallies.mono _ _ _ | exact spec_AddTallies.mono _ _ _ | exact spec_DebitsFor.mono _ _ _ _ | exact spec_DrawAddTallies.mono _ _ | exact spec_DrawDebitsFor.mono _ _ | exact spec_DrawTallyOf.mono _ _ | exact spec_TallyOf.mono _ _ _ _ _ | exact LeO.refl _ | exact LeO.none _ | refine LeO.ite ?_ ?_ | refine LeO.bind ?_ (fun _ => ?_)) | exact ih0 _ _ _ _ _ _ _ _ | exact ih1 _ | exact ih2 _ _ _ | exact ih3 _ _ _ _ | exact ih4 _ _ _ _ _ _ _ _ | exact ih5 _ _ _ _ _ _ _ _ | exact ih6 _ _ _ _ _ | exact ih7 _ _ _ _ _ _ | exact ih8 _ _ _ _ _ _ _ _ _ | exact ih9 _ _ _ _ _ _ _ _ _ _ | exact impl_AddTallies.mono _ _ _ | exact impl_DebitsFor.mono _ _ _ _ | exact impl_GoodTallies.mono _ _ | exact impl_IsProved.mono _ _ _ _ _ _ | exact impl_TallyOf.mono _ _ _ _ _ | exact laws_sameTallies.mono _ _ _ | exact spec_AddTallies.mono _ _ _ | exact spec_DebitsFor.mono _ _ _ _ | exact spec_DrawAddTallies.mono _ _ | exact spec_DrawDebitsFor.mono _ _ | exact spec_DrawTallyOf.mono _ _ | exact spec_TallyOf.mono _ _ _ _ _ | exact LeO.none _ | refine LeO.ite ?_ ?_ | refine LeO.bind ?_ (fun _ => ?_))
set_option maxHeartbeats 40000000 in
set_option maxRecDepth 100000 in
theorem laws_FnScores.calls (k : Nat) (A0 : Option Addr) (c0 : Nat) (l0 : List Int) (A1 : Option Addr) (c1 : Nat) (l1 : List Int) (r : Bool) (w : World) (hr0 : Kd.C (Kd.int .u8) w A0 l0.length l0) (hc0 : l0.length ≤ c0) (hr1 : Kd.C (Kd.int .u8) w A1 l1.length l1) (hc1 : l1.length ≤ c1) (h : laws_FnScores.f k l0 l1 = some r) (hr_ : r = true) :
  Calls Try.prog 11 #[.slice A0 l0.length c0, .slice A1 l1.length c1] w fun e w' => e = .returned (.bool r) ∧ Below w.heap.size w w' := by
 have hu85 := Try.underlying85
 have hu91 := Try.underlying91
 have hu110 := Try.underlying110
 have HR0 := Aside0.mk hr0; have HC0 := Aside0.mk hc0; clear hr0 hc0; have HR1 := Aside0.mk hr1; have HC1 := Aside0.mk hc1; clear hr1 hc1
 have HB := Aside0.mk (Below.refl w.heap.size w)
 have H : (if (wrap64 ((l0.length : Int) + (l1.length : Int))) > 1048576 then (some true) else ((spec_DrawTallyOf.f k l0).bind fun bt563 => ((impl_TallyOf.f k bt563.1 bt563.2.1 bt563.2.2.1 bt563.2.2.2).bind fun bt571 => ((spec_TallyOf.f k bt563.1 bt563.2.1 bt563.2.2.1 bt563.2.2.2).bind fun bt575 => (if (bt571.2 != bt575.2) = true then (laws_FnScores.j0 k l1 bt563.1 bt563.2.1 bt563.2.2.1 bt563.2.2.2 bt571.1 bt571.2 true) else ((laws_sameTallies.f k bt571.1 bt575.1).bind fun t579 => (laws_FnScores.j0 k l1 bt563.1 bt563.2.1 bt563.2.2.1 bt563.2.2.2 bt571.1 bt571.2 (!t579)))))))) = some r := h
 clear h
 by_cases c3 : (wrap64 ((l0.length : Int) + (l1.length : Int))) > 1048576
 ·rw [if_pos c3] at H
  have c3b0 : decide (1048576 < (wrap64 ((l0.length : Int) + (l1.length : Int)))) = true := decide_eq_true c3
  clear c3
  obtain rfl := Option.some.inj H
  go_enter Try.func11, Try.ntmps11
  go_wp2
  repeat (go_quiet (fail); try go_wp2)
  go_ret
  exact ⟨er2, belowd HB⟩
 ·rw [if_neg c3] at H
  have c3b0 : decide (1048576 < (wrap64 ((l0.length : Int) + (l1.length : Int)))) = false := decide_eq_false c3
  clear c3; replace H := bS H; obtain ⟨⟨t563, t564, t565, t566⟩, A4, H⟩ := H
  replace H : ((impl_TallyOf.f k t563 t564 t565 t566).bind fun bt571 => ((spec_TallyOf.f k t563 t564 t565 t566).bind fun bt575 => (if (bt571.2 != bt575.2) = true then (laws_FnScores.j0 k l1 t563 t564 t565 t566 bt571.1 bt571.2 true) else ((laws_sameTallies.f k bt571.1 bt575.1).bind fun t579 => (laws_FnScores.j0 k l1 t563 t564 t565 t566 bt571.1 bt571.2 (!t579)))))) = some r := H
  replace H := bS H; obtain ⟨⟨t571, t572⟩, A5, H⟩ := H
  replace H : ((spec_TallyOf.f k t563 t564 t565 t566).bind fun bt575 => (if (t572 != bt575.2) = true then (laws_FnScores.j0 k l1 t563 t564 t565 t566 t571 t572 true) else ((laws_sameTallies.f k t571 bt575.1).bind fun t579 => (laws_FnScores.j0 k l1 t563 t564 t565 t566 t571 t572 (!t579))))) = some r := H
  replace H := bS H; obtain ⟨⟨t575, t576⟩, A6, H⟩ := H
  replace H : (if (t572 != t576) = true then (laws_FnScores.j0 k l1 t563 t564 t565 t566 t571 t572 true) else ((laws_sameTallies.f k t571 t575).bind fun t579 => (laws_FnScores.j0 k l1 t563 t564 t565 t566 t571 t572 (!t579)))) = some r := H
  have HC7 := Aside0.mk H; clear H
  go_enter Try.func11, Try.ntmps11
  go_upto_region 6 with (first | (go_at_call 75; (with_reducible refine (spec_DrawTallyOf.calls k _ _ l0 t563 t564 t565 t566 _ ?side1 ?side2 A4.out).mono ?_); (case side1 => exact cd HR0.out); (case side2 => exact HC0.out); rintro e w8 ⟨v567, v569, rfl, ho0, ho1, hb⟩; have HO568 := ak (Kd.R_lower ho0 (below_size (belowd HB))); have HO570 := ak (Kd.R_lower ho1 (below_size (belowd HB))); replace HB := ak (below_step (belowd HB) hb); (try clear hb); (try clear ho0); (try clear ho1); obtain ⟨Ao9, co9, eo9⟩ := Kd.R_slice HO568.out; subst eo9; obtain ⟨Ao10, co10, eo10⟩ := Kd.R_slice HO570.out; subst eo10) | (go_at_call 71; (with_reducible refine (impl_TallyOf.calls k t563 t564 _ _ t565 _ _ t566 t571 t572 _ ?side1 ?side2 ?side3 ?side4 A5.out).mono ?_); (case side1 => exact cd (Kd.R_reads' HO568.out).2.2); (case side2 => exact (Kd.R_reads' HO568.out).2.1); (case side3 => exact cd (Kd.R_reads' HO570.out).2.2); (case side4 => exact (Kd.R_reads' HO570.out).2.1); rintro e w11 ⟨v573, rfl, ho0, hb⟩; replace HO568 := ak (Kd.R_below (rdl HO568) hb); replace HO570 := ak (Kd.R_below (rdl HO570) hb); have HO574 := ak (Kd.R_lower ho0 (below_size (belowd HB))); replace HB := ak (below_step (belowd HB) hb); (try clear hb); (try clear ho0)) | (go_at_call 69; (with_reducible refine (spec_TallyOf.calls k t563 t564 _ _ t565 _ _ t566 t575 t576 _ ?side1 ?side2 ?side3 ?side4 A6.out).mono ?_); (case side1 => exact cd (Kd.R_reads' HO568.out).2.2); (case side2 => exact (Kd.R_reads' HO568.out).2.1); (case side3 => exact cd (Kd.R_reads' HO570.out).2.2); (case side4 => exact (Kd.R_reads' HO570.out).2.1); rintro e w12 ⟨v577, rfl, ho0, hb⟩; replace HO568 := ak (Kd.R_below (rdl HO568) hb); replace HO570 := ak (Kd.R_below (rdl HO570) hb); have HO578 := ak (Kd.R_lower (Kd.R_new' ho0 (Kd.R_lt (rdl HO574))) (below_size (belowd HB))); replace HO574 := ak (Kd.R_elder' (rdl HO574) (Kd.R_base ho0) hb); replace HB := ak (below_step (belowd HB) hb); (try clear hb); (try clear ho0)))
  repeat (go_quiet (first | (go_at_call 75; (with_reducible refine (spec_DrawTallyOf.calls k _ _ l0 t563 t564 t565 t566 _ ?side1 ?side2 A4.out).mono ?_); (case side1 => exact cd HR0.out); (case side2 => exact HC0.out); rintro e w8 ⟨v567, v569, rfl, ho0, ho1, hb⟩; have HO568 := ak (Kd.R_lower ho0 (below_size (belowd HB))); have HO570 := ak (Kd.R_lower ho1 (below_size (belowd HB))); replace HB := ak (below_step (belowd HB) hb); (try clear hb); (try clear ho0); (try clear ho1); obtain ⟨Ao9, co9, eo9⟩ := Kd.R_slice HO568.out; subst eo9; obtain ⟨Ao10, co10, eo10⟩ := Kd.R_slice HO570.out; subst eo10) | (go_at_call 71; (with_reducible refine (impl_TallyOf.calls k t563 t564 _ _ t565 _ _ t566 t571 t572 _ ?side1 ?side2 ?side3 ?side4 A5.out).mono ?_); (case side1 => exact cd (Kd.R_reads' HO568.out).2.2); (case side2 => exact (Kd.R_reads' HO568.out).2.1); (case side3 => exact cd (Kd.R_reads' HO570.out).2.2); (case side4 => exact (Kd.R_reads' HO570.out).2.1); rintro e w11 ⟨v573, rfl, ho0, hb⟩; replace HO568 := ak (Kd.R_below (rdl HO568) hb); replace HO570 := ak (Kd.R_below (rdl HO570) hb); have HO574 := ak (Kd.R_lower ho0 (below_size (belowd HB))); replace HB := ak (below_step (belowd HB) hb); (try clear hb); (try clear ho0)) | (go_at_call 69; (with_reducible refine (spec_TallyOf.calls k t563 t564 _ _ t565 _ _ t566 t575 t576 _ ?side1 ?side2 ?side3 ?side4 A6.out).mono ?_); (case side1 => exact cd (Kd.R_reads' HO568.out).2.2); (case side2 => exact (Kd.R_reads' HO568.out).2.1); (case side3 => exact cd (Kd.R_reads' HO570.out).2.2); (case side4 => exact (Kd.R_reads' HO570.out).2.1); rintro e w12 ⟨v577, rfl, ho0, hb⟩; replace HO568 := ak (Kd.R_below (rdl HO568) hb); replace HO570 := ak (Kd.R_below (rdl HO570) hb); have HO578 := ak (Kd.R_lower (Kd.R_new' ho0 (Kd.R_lt (rdl HO574))) (below_size (belowd HB))); replace HO574 := ak (Kd.R_elder' (rdl HO574) (Kd.R_base ho0) hb); replace HB := ak (below_step (belowd HB) hb); (try clear hb); (try clear ho0))); go_upto_region 6 with (first | (go_at_call 75; (with_reducible refine (spec_DrawTallyOf.calls k _ _ l0 t563 t564 t565 t566 _ ?side1 ?side2 A4.out).mono ?_); (case side1 => exact cd HR0.out); (case side2 => exact HC0.out); rintro e w8 ⟨v567, v569, rfl, ho0, ho1, hb⟩; have HO568 := ak (Kd.R_lower ho0 (below_size (belowd HB))); have HO570 := ak (Kd.R_lower ho1 (below_size (belowd HB))); replace HB := ak (below_step (belowd HB) hb); (try clear hb); (try clear ho0); (try clear ho1); obtain ⟨Ao9, co9, eo9⟩ := Kd.R_slice HO568.out; subst eo9; obtain ⟨Ao10, co10, eo10⟩ := Kd.R_slice HO570.out; subst eo10) | (go_at_call 71; (with_reducible refine (impl_TallyOf.calls k t563 t564 _ _ t565 _ _ t566 t571 t572 _ ?side1 ?side2 ?side3 ?side4 A5.out).mono ?_); (case side1 => exact cd (Kd.R_reads' HO568.out).2.2); (case side2 => exact (Kd.R_reads' HO568.out).2.1); (case side3 => exact cd (Kd.R_reads' HO570.out).2.2); (case side4 => exact (Kd.R_reads' HO570.out).2.1); rintro e w11 ⟨v573, rfl, ho0, hb⟩; replace HO568 := ak (Kd.R_below (rdl HO568) hb); replace HO570 := ak (Kd.R_below (rdl HO570) hb); have HO574 := ak (Kd.R_lower ho0 (below_size (belowd HB))); replace HB := ak (below_step (belowd HB) hb); (try clear hb); (try clear ho0)) | (go_at_call 69; (with_reducible refine (spec_TallyOf.calls k t563 t564 _ _ t565 _ _ t566 t575 t576 _ ?side1 ?side2 ?side3 ?side4 A6.out).mono ?_); (case side1 => exact cd (Kd.R_reads' HO568.out).2.2); (case side2 => exact (Kd.R_reads' HO568.out).2.1); (case side3 => exact cd (Kd.R_reads' HO570.out).2.2); (case side4 => exact (Kd.R_reads' HO570.out).2.1); rintro e w12 ⟨v577, rfl, ho0, hb⟩; replace HO568 := ak (Kd.R_below (rdl HO568) hb); replace HO570 := ak (Kd.R_below (rdl HO570) hb); have HO578 := ak (Kd.R_lower (Kd.R_new' ho0 (Kd.R_lt (rdl HO574))) (below_size (belowd HB))); replace HO574 := ak (Kd.R_elder' (rdl HO574) (Kd.R_base ho0) hb); replace HB := ak (below_step (belowd HB) hb); (try clear hb); (try clear ho0))))
  (try simp only [Act.put, List.setIfInBounds_toArray, List.set_cons_zero, List.set_cons_succ])
  go_cut [78] (fun v78 wc => ∃ (kq : Nat) (x78_6 : Bool), v78 = .bool x78_6 ∧ Aside0 (laws_FnScores.j0 kq l1 t563 t564 t565 t566 t571 t572 x78_6 = some r) ∧ Aside0 (kq ≤ k) ∧ Aside0 (Kd.R k85 85 wc w.heap.size (fun _ => True) (.slice Ao9 t565.length co9) t565) ∧ Aside0 (Kd.R k91 91 wc w.heap.size (fun _ => True) (.slice Ao10 t566.length co10) t566) ∧ Aside0 (Kd.R k110 110 wc w.heap.size (fun _ => True) v573 t571) ∧ Aside0 (Below w.heap.size w wc))
  case first =>
   have H := HC7.out; clear HC7
   by_cases c13 : (t572 != t576) = true
   ·rw [if_pos c13] at H
    have c13b0 : (t572 != t576) = true := c13
    (try (have c13b1 : decide (t572 = t576) = false := by simpa using c13))
    (try (have c13b2 : (t572 == t576) = false := by simpa using c13))
    (try (have c13b3 : ¬ (t572 = t576) := by simpa using c13))
    clear c13
    (first | rw [c13b0] | (simp only [i64_w, i32_w]; rw [c13b0]) | skip)
    have H' := Aside0.mk H
    clear H; go_wp2
    repeat (go_quiet (fail); try go_wp2)
    go_meet
    case rel => exact ⟨_, (true), er, H', ⟨by first | omega | exact Nat.le_refl _⟩, ⟨rdl HO568⟩, ⟨rdl HO570⟩, ⟨by (with_reducible repeat (first | apply Kd.R_alloc | apply Kd.R_drewN | apply Kd.R_drew)); exact Kd.R_mono HO574.out (fun _ hk => trivial)⟩, ⟨belowd HB⟩⟩
   ·rw [if_neg c13] at H
    have c13b0 : (t572 != t576) = false := by simpa using c13
    (try (have c13b1 : decide (t572 = t576) = true := by simpa using c13))
    (try (have c13b2 : (t572 == t576) = true := by simpa using c13))
    clear c13
    (first | rw [c13b0] | (simp only [i64_w, i32_w]; rw [c13b0]) | skip)
    replace H := bS H; obtain ⟨t579, A14, H⟩ := H
    replace H : (laws_FnScores.j0 k l1 t563 t564 t565 t566 t571 t572 (!t579)) = some r := H
    have H' := Aside0.mk H
    clear H
    obtain ⟨Ao15, co15, eo15⟩ := Kd.R_slice HO574.out
    subst eo15
    obtain ⟨Ao16, co16, eo16⟩ := Kd.R_slice HO578.out
    subst eo16
    go_wp2_with (first | (go_at_call 76; (with_reducible refine (laws_sameTallies.calls k _ _ t571 _ _ t575 t579 _ ?side1 ?side2 ?side3 ?side4 A14.out).mono ?_); (case side1 => exact cd (Kd.R_reads' HO574.out).2.2); (case side2 => exact (Kd.R_reads' HO574.out).2.1); (case side3 => exact cd (Kd.R_reads' HO578.out).2.2); (case side4 => exact (Kd.R_reads' HO578.out).2.1); rintro e w' ⟨rfl, ⟨nd, rfl⟩⟩; (try first | exact ⟨rfl, _, World.drewN_drewN _ _ _⟩ | exact ⟨rfl, _, Eq.trans (World.drewN_drewN _ _ _) (congrArg (World.drewN _) (Nat.add_assoc _ _ _))⟩)))
    repeat (go_quiet (first | (go_at_call 76; (with_reducible refine (laws_sameTallies.calls k _ _ t571 _ _ t575 t579 _ ?side1 ?side2 ?side3 ?side4 A14.out).mono ?_); (case side1 => exact cd (Kd.R_reads' HO574.out).2.2); (case side2 => exact (Kd.R_reads' HO574.out).2.1); (case side3 => exact cd (Kd.R_reads' HO578.out).2.2); (case side4 => exact (Kd.R_reads' HO578.out).2.1); rintro e w' ⟨rfl, ⟨nd, rfl⟩⟩; (try first | exact ⟨rfl, _, World.drewN_drewN _ _ _⟩ | exact ⟨rfl, _, Eq.trans (World.drewN_drewN _ _ _) (congrArg (World.drewN _) (Nat.add_assoc _ _ _))⟩))); try go_wp2_with (first | (go_at_call 76; (with_reducible refine (laws_sameTallies.calls k _ _ t571 _ _ t575 t579 _ ?side1 ?side2 ?side3 ?side4 A14.out).mono ?_); (case side1 => exact cd (Kd.R_reads' HO574.out).2.2); (case side2 => exact (Kd.R_reads' HO574.out).2.1); (case side3 => exact cd (Kd.R_reads' HO578.out).2.2); (case side4 => exact (Kd.R_reads' HO578.out).2.1); rintro e w' ⟨rfl, ⟨nd, rfl⟩⟩; (try first | exact ⟨rfl, _, World.drewN_drewN _ _ _⟩ | exact ⟨rfl, _, Eq.trans (World.drewN_drewN _ _ _) (congrArg (World.drewN _) (Nat.add_assoc _ _ _))⟩))))
    go_meet
    case rel => exact ⟨_, (!t579), er, H', ⟨by first | omega | exact Nat.le_refl _⟩, ⟨rdl HO568⟩, ⟨rdl HO570⟩, ⟨by (with_reducible repeat (first | apply Kd.R_alloc | apply Kd.R_drewN | apply Kd.R_drew)); exact Kd.R_mono HO574.out (fun _ hk => trivial)⟩, ⟨belowd HB⟩⟩
  case rest =>
   clear HC7; (try clear c1); (try clear c3b0)
   obtain ⟨kq, x78_6, rfl, HA, HJ6, HO_7, HO_8, HO_9, HB⟩ := hcut
   cases kq with
   | zero => exact absurd HA.out (by simp [laws_FnScores.j0])
   | succ kj6 =>
    have H := HA.out; clear HA
    simp only [laws_FnScores.j0] at H
    by_cases c17 : x78_6 = true
    ·subst c17
     have H1 : (some false) = some r := by rw [if_pos rfl] at H; exact H
     clear H
     have H := H1
     clear H1
     exact absurd (H.trans (congrArg some hr_)) (by simp)
    ·replace c17 := Bool.eq_false_iff.mpr c17
     subst c17
     have H1 : (if t572 = true then (laws_FnScores.l0 kj6 l1 t563 t564 t565 t566 t571 ([] : List (S85)) (wrap64 ((t565.length : Int) - 1))) else (laws_FnScores.j7 kj6 l1)) = some r := by rw [if_neg (show ¬ (false = true) by decide)] at H; exact H
     clear H
     have H := H1
     clear H1; have HC18 := Aside0.mk H; clear H
     go_upto_if 79 with (fail)
     repeat (go_quiet (fail); go_upto_if 79 with (fail))
     go_cut [] (fun wc => ∃ (kq : Nat), Aside0 (laws_FnScores.j7 kq l1 = some r) ∧ Aside0 (kq ≤ kj6) ∧ Aside0 (Below w.heap.size w wc))
     case first =>
      have H := HC18.out; clear HC18
      by_cases c19 : t572 = true
      ·subst c19
       have H1 : (laws_FnScores.l0 kj6 l1 t563 t564 t565 t566 t571 ([] : List (S85)) (wrap64 ((t565.length : Int) - 1))) = some r := by rw [if_pos rfl] at H; exact H
       clear H
       have H := H1
       clear H1
       have H' := Aside0.mk H
       clear H; go_wp2
       repeat (go_quiet (fail); try go_wp2)
       go_loopg [13, 15] kj6 (fun kq v13 v15 w' => ∃ (x13_2 : List (S85)) (x15_2 : Int), v15 = .int .i64 x15_2 ∧ Aside0 (laws_FnScores.l0 kq l1 t563 t564 t565 t566 t571 x13_2 x15_2 = some r) ∧ Aside0 (kq ≤ kj6) ∧ Aside0 (Kd.R k85 85 w' w.heap.size (fun k_ => some k_ ≠ (v13 : Value).ownBlock) (.slice Ao9 t565.length co9) t565) ∧ Aside0 (Kd.R k91 91 w' w.heap.size (fun _ => True) (.slice Ao10 t566.length co10) t566) ∧ Aside0 (Kd.R k110 110 w' w.heap.size (fun _ => True) v573 t571) ∧ Aside0 (Kd.R k85 85 w' w.heap.size (fun k_ => some k_ ≠ ((.slice Ao9 t565.length co9) : Value).ownBlock) v13 x13_2) ∧ Aside0 (Below w.heap.size w w'))
       case atStart => exact ⟨(([] : List (S85))), (wrap64 ((t565.length : Int) - 1)), er, H', ⟨Nat.le_refl _⟩, ⟨by (with_reducible repeat (first | apply Kd.R_alloc | apply Kd.R_drewN | apply Kd.R_drew)); exact Kd.R_mono HO_7.out (fun _ hk => (by simp [Value.ownBlock]))⟩, ⟨rdl HO_8⟩, ⟨rdl HO_9⟩, ⟨by first | exact Kd.R_nil _ _ _ _ _ | exact Kd.N_nil _ _ _ _ _ | exact Kd.V_nil _ _ _ _ _ | exact Kd.Q_nil _ _ _ _ _ | exact Kd.S_nil _ _ _ _ _⟩, ⟨belowd HB⟩⟩
       case round =>
        clear H'
        (try clear c17); (try clear c19)
        obtain ⟨x13_2, x15_2, rfl, HA, HK2, HO_7, HO_8, HO_9, HO_13, HB⟩ := hrel
        cases gk with
        | zero => exact absurd HA.out (by simp [laws_FnScores.l0])
        | succ k2 =>
         have H := HA.out; clear HA
         simp only [laws_FnScores.l0] at H
         by_cases c20 : x15_2 ≥ 0
         ·rw [if_pos c20] at H
          have c20b0 : decide (0 ≤ x15_2) = true := decide_eq_true c20
          clear c20
          (first | rw [c20b0] | (simp only [i64_w, i32_w]; rw [c20b0]) | skip)
          replace H := ifS H; obtain ⟨c21, H⟩ := H; have c21b0 := decide_eq_true c21; clear c21; replace H := ifS H; obtain ⟨c22, H⟩ := H; have c22b0 := decide_eq_true c22; clear c22; replace H := ifS H; obtain ⟨c23, H⟩ := H; have LMc23 := Aside0.mk c23; clear c23
          obtain ⟨y581, hy_⟩ : ∃ y_ : List (S85), y_ = (x13_2 ++ [(⟨(rd_T85 t565 x15_2).f0, (rd_T85 t565 x15_2).f1, (rd_T85 t565 x15_2).f2⟩ : S85)]) := ⟨_, rfl⟩
          replace H : (laws_FnScores.l0 k2 l1 t563 t564 t565 t566 t571 y581 (wrap64 (x15_2 - 1))) = some r := yH
          have Ny581 := ak hy_; clear hy_
          have H' := Aside0.mk H
          clear H
          have p580 : 0 ≤ (x15_2 : Int) := da
          have q580 : x15_2 < (t565.length : Int) := da
          obtain ⟨ad580, e580, hx580_0, hx580_1, hx580_2⟩ := at_T85 (Kd.R_reads' HO_7.out).2.2 x15_2 p580 q580
          cases e580
          replace p580 := eq_true p580; replace q580 := eq_true q580
          go_wp2_with (first | ((with_reducible refine gate_builtin (b := .append) (xs := #[.tmp 87, .tmp 92]) rfl ?_); (try (refine gate_guard (by rfl) ?_; dsimp only)); at_builtin; refine Kd.R_append k85 (w0 := w) w.heap.size rfl (.tmp 87) (.tmp 92) 70 85 (.agg #[(.int .i64 0), (.int .i64 0), (.int .i64 0)]) 24 rfl Try.underlying70 info85 rfl (by decide) (by omega) u13 x13_2 (⟨(rd_T85 t565 x15_2).f0, (rd_T85 t565 x15_2).f1, (rd_T85 t565 x15_2).f2⟩ : S85) [.int .i64 ((rd_T85 t565 x15_2).f0), .int .i64 ((rd_T85 t565 x15_2).f1), .int .i64 ((rd_T85 t565 x15_2).f2)] (fun k_ => some k_ ≠ (.slice (some ad580) t565.length co9 : Value).ownBlock) (fun _ => False) rfl rfl ?aP (fun _ hk => hk.elim) ?aF ?aO ?aB ?aS ?aL ?_; (case aP => exact k85_mkM _ _ _ (⟨(rd_T85 t565 x15_2).f0, (rd_T85 t565 x15_2).f1, (rd_T85 t565 x15_2).f2⟩ : S85)); (case aB => exact (belowd HB)); (case aF => exact (fun k_ hk => Kd.fresh' (Kd.R_lt (rdl HO_7)) k_ hk)); (case aO => exact (rdl HO_13)); (case aS => exact (below_size (belowd HB))); (case aL => have := LMc23.out; omega); intro v582 w24 ho hb hg hat; rw [← Ny581.out] at ho; replace HO_7 := ak (Kd.R_after (ok := (fun _ => True)) (by (with_reducible repeat (first | apply Kd.R_alloc | apply Kd.R_drewN | apply Kd.R_drew)); exact Kd.R_mono HO_7.out (fun _ hk => ⟨trivial, hk⟩)) hg hat); replace HO_8 := ak (Kd.R_over' (rdl HO_8) (Kd.R_typed (rdl HO_13)) (by decide) hg); replace HO_9 := ak (Kd.R_over' (rdl HO_9) (Kd.R_typed (rdl HO_13)) (by decide) hg); replace HB := ak (hb); have HO583 := ak (ho); clear HO_13; clear ho hb hg hat))
          repeat (go_quiet (first | ((with_reducible refine gate_builtin (b := .append) (xs := #[.tmp 87, .tmp 92]) rfl ?_); (try (refine gate_guard (by rfl) ?_; dsimp only)); at_builtin; refine Kd.R_append k85 (w0 := w) w.heap.size rfl (.tmp 87) (.tmp 92) 70 85 (.agg #[(.int .i64 0), (.int .i64 0), (.int .i64 0)]) 24 rfl Try.underlying70 info85 rfl (by decide) (by omega) u13 x13_2 (⟨(rd_T85 t565 x15_2).f0, (rd_T85 t565 x15_2).f1, (rd_T85 t565 x15_2).f2⟩ : S85) [.int .i64 ((rd_T85 t565 x15_2).f0), .int .i64 ((rd_T85 t565 x15_2).f1), .int .i64 ((rd_T85 t565 x15_2).f2)] (fun k_ => some k_ ≠ (.slice (some ad580) t565.length co9 : Value).ownBlock) (fun _ => False) rfl rfl ?aP (fun _ hk => hk.elim) ?aF ?aO ?aB ?aS ?aL ?_; (case aP => exact k85_mkM _ _ _ (⟨(rd_T85 t565 x15_2).f0, (rd_T85 t565 x15_2).f1, (rd_T85 t565 x15_2).f2⟩ : S85)); (case aB => exact (belowd HB)); (case aF => exact (fun k_ hk => Kd.fresh' (Kd.R_lt (rdl HO_7)) k_ hk)); (case aO => exact (rdl HO_13)); (case aS => exact (below_size (belowd HB))); (case aL => have := LMc23.out; omega); intro v582 w24 ho hb hg hat; rw [← Ny581.out] at ho; replace HO_7 := ak (Kd.R_after (ok := (fun _ => True)) (by (with_reducible repeat (first | apply Kd.R_alloc | apply Kd.R_drewN | apply Kd.R_drew)); exact Kd.R_mono HO_7.out (fun _ hk => ⟨trivial, hk⟩)) hg hat); replace HO_8 := ak (Kd.R_over' (rdl HO_8) (Kd.R_typed (rdl HO_13)) (by decide) hg); replace HO_9 := ak (Kd.R_over' (rdl HO_9) (Kd.R_typed (rdl HO_13)) (by decide) hg); replace HB := ak (hb); have HO583 := ak (ho); clear HO_13; clear ho hb hg hat)); try go_wp2_with (first | ((with_reducible refine gate_builtin (b := .append) (xs := #[.tmp 87, .tmp 92]) rfl ?_); (try (refine gate_guard (by rfl) ?_; dsimp only)); at_builtin; refine Kd.R_append k85 (w0 := w) w.heap.size rfl (.tmp 87) (.tmp 92) 70 85 (.agg #[(.int .i64 0), (.int .i64 0), (.int .i64 0)]) 24 rfl Try.underlying70 info85 rfl (by decide) (by omega) u13 x13_2 (⟨(rd_T85 t565 x15_2).f0, (rd_T85 t565 x15_2).f1, (rd_T85 t565 x15_2).f2⟩ : S85) [.int .i64 ((rd_T85 t565 x15_2).f0), .int .i64 ((rd_T85 t565 x15_2).f1), .int .i64 ((rd_T85 t565 x15_2).f2)] (fun k_ => some k_ ≠ (.slice (some ad580) t565.length co9 : Value).ownBlock) (fun _ => False) rfl rfl ?aP (fun _ hk => hk.elim) ?aF ?aO ?aB ?aS ?aL ?_; (case aP => exact k85_mkM _ _ _ (⟨(rd_T85 t565 x15_2).f0, (rd_T85 t565 x15_2).f1, (rd_T85 t565 x15_2).f2⟩ : S85)); (case aB => exact (belowd HB)); (case aF => exact (fun k_ hk => Kd.fresh' (Kd.R_lt (rdl HO_7)) k_ hk)); (case aO => exact (rdl HO_13)); (case aS => exact (below_size (belowd HB))); (case aL => have := LMc23.out; omega); intro v582 w24 ho hb hg hat; rw [← Ny581.out] at ho; replace HO_7 := ak (Kd.R_after (ok := (fun _ => True)) (by (with_reducible repeat (first | apply Kd.R_alloc | apply Kd.R_drewN | apply Kd.R_drew)); exact Kd.R_mono HO_7.out (fun _ hk => ⟨trivial, hk⟩)) hg hat); replace HO_8 := ak (Kd.R_over' (rdl HO_8) (Kd.R_typed (rdl HO_13)) (by decide) hg); replace HO_9 := ak (Kd.R_over' (rdl HO_9) (Kd.R_typed (rdl HO_13)) (by decide) hg); replace HB := ak (hb); have HO583 := ak (ho); clear HO_13; clear ho hb hg hat)))
          go_roundg k2
          case measure => have := HJ6.out; have := HK2.out; omega
          case rel => exact ⟨(y581), (wrap64 (x15_2 - 1)), er, H', ⟨by have := HJ6.out; have := HK2.out; omega⟩, ⟨by (with_reducible repeat (first | apply Kd.R_alloc | apply Kd.R_drewN | apply Kd.R_drew)); exact Kd.R_mono HO_7.out (fun _ hk => hk.2)⟩, ⟨rdl HO_8⟩, ⟨rdl HO_9⟩, ⟨rdl HO583⟩, ⟨belowd HB⟩⟩
         ·rw [if_neg c20] at H
          have c20b0 : decide (0 ≤ x15_2) = false := decide_eq_false c20
          clear c20
          (first | rw [c20b0] | (simp only [i64_w, i32_w]; rw [c20b0]) | skip)
          have H' := Aside0.mk H
          clear H; go_wp2
          repeat (go_quiet (fail); try go_wp2)
          go_loopg [14, 16] k2 (fun kq v14 v16 w' => ∃ (x14_3 : List (S91)) (x16_3 : Int), v16 = .int .i64 x16_3 ∧ Aside0 (laws_FnScores.l1 kq l1 t563 t564 t566 t571 x13_2 x14_3 x16_3 = some r) ∧ Aside0 (kq ≤ k2) ∧ Aside0 (Kd.R k91 91 w' w.heap.size (fun k_ => some k_ ≠ (v14 : Value).ownBlock) (.slice Ao10 t566.length co10) t566) ∧ Aside0 (Kd.R k110 110 w' w.heap.size (fun _ => True) v573 t571) ∧ Aside0 (Kd.R k85 85 w' w.heap.size (fun _ => True) u13 x13_2) ∧ Aside0 (Kd.R k91 91 w' w.heap.size (fun k_ => some k_ ≠ ((.slice Ao10 t566.length co10) : Value).ownBlock) v14 x14_3) ∧ Aside0 (Below w.heap.size w w'))
          case atStart => exact ⟨(([] : List (S91))), (wrap64 ((t566.length : Int) - 1)), er, H', ⟨Nat.le_refl _⟩, ⟨by (with_reducible repeat (first | apply Kd.R_alloc | apply Kd.R_drewN | apply Kd.R_drew)); exact Kd.R_mono HO_8.out (fun _ hk => (by simp [Value.ownBlock]))⟩, ⟨rdl HO_9⟩, ⟨by (with_reducible repeat (first | apply Kd.R_alloc | apply Kd.R_drewN | apply Kd.R_drew)); exact Kd.R_mono HO_13.out (fun _ hk => trivial)⟩, ⟨by first | exact Kd.R_nil _ _ _ _ _ | exact Kd.N_nil _ _ _ _ _ | exact Kd.V_nil _ _ _ _ _ | exact Kd.Q_nil _ _ _ _ _ | exact Kd.S_nil _ _ _ _ _⟩, ⟨belowd HB⟩⟩
          case round => as_aux_lemma =>
           clear H'
           (try clear c20b0)
           obtain ⟨x14_3, x16_3, rfl, HA, HK3, HO_8, HO_9, HO_13, HO_14, HB⟩ := hrel
           cases gk with
           | zero => exact absurd HA.out (by simp [laws_FnScores.l1])
           | succ k3 =>
            have H := HA.out; clear HA
            simp only [laws_FnScores.l1] at H
            by_cases c25 : x16_3 ≥ 0
            ·rw [if_pos c25] at H
             have c25b0 : decide (0 ≤ x16_3) = true := decide_eq_true c25
             clear c25; replace H := ifS H; obtain ⟨c26, H⟩ := H; have c26b0 := decide_eq_true c26; clear c26; replace H := ifS H; obtain ⟨c27, H⟩ := H; have c27b0 := decide_eq_true c27; clear c27; replace H := ifS H; obtain ⟨c28, H⟩ := H; have LMc28 := Aside0.mk c28; clear c28
             obtain ⟨y585, hy_⟩ : ∃ y_ : List (S91), y_ = (x14_3 ++ [(⟨(rd_T91 t566 x16_3).f0, (⟨(rd_T91 t566 x16_3).f1.f0, (rd_T91 t566 x16_3).f1.f1, (rd_T91 t566 x16_3).f1.f2⟩ : S85), (rd_T91 t566 x16_3).f2⟩ : S91)]) := ⟨_, rfl⟩
             replace H : (laws_FnScores.l1 k3 l1 t563 t564 t566 t571 x13_2 y585 (wrap64 (x16_3 - 1))) = some r := yH
             have Ny585 := ak hy_; clear hy_
             have H' := Aside0.mk H
             clear H
             have p584 : 0 ≤ (x16_3 : Int) := da
             have q584 : x16_3 < (t566.length : Int) := da
             obtain ⟨ad584, e584, hx584_0, hx584_1, hx584_2, hx584_3, hx584_4⟩ := at_T91 (Kd.R_reads' HO_8.out).2.2 x16_3 p584 q584
             cases e584
             replace p584 := eq_true p584; replace q584 := eq_true q584
             go_wp2_with (first | ((with_reducible refine gate_builtin (b := .append) (xs := #[.tmp 101, .tmp 106]) rfl ?_); (try (refine gate_guard (by rfl) ?_; dsimp only)); at_builtin; refine Kd.R_append k91 (w0 := w) w.heap.size rfl (.tmp 101) (.tmp 106) 73 91 (.agg #[(.int .i64 0), (.int .i64 0), (.int .i64 0), (.int .i64 0), (.bool false)]) 40 rfl Try.underlying73 info91 rfl (by decide) (by omega) u14 x14_3 (⟨(rd_T91 t566 x16_3).f0, (⟨(rd_T91 t566 x16_3).f1.f0, (rd_T91 t566 x16_3).f1.f1, (rd_T91 t566 x16_3).f1.f2⟩ : S85), (rd_T91 t566 x16_3).f2⟩ : S91) [.int .i64 ((rd_T91 t566 x16_3).f0), .int .i64 ((rd_T91 t566 x16_3).f1.f0), .int .i64 ((rd_T91 t566 x16_3).f1.f1), .int .i64 ((rd_T91 t566 x16_3).f1.f2), .bool ((rd_T91 t566 x16_3).f2)] (fun k_ => some k_ ≠ (.slice (some ad584) t566.length co10 : Value).ownBlock) (fun _ => False) rfl rfl ?aP (fun _ hk => hk.elim) ?aF ?aO ?aB ?aS ?aL ?_; (case aP => exact k91_mkM _ _ _ (⟨(rd_T91 t566 x16_3).f0, (⟨(rd_T91 t566 x16_3).f1.f0, (rd_T91 t566 x16_3).f1.f1, (rd_T91 t566 x16_3).f1.f2⟩ : S85), (rd_T91 t566 x16_3).f2⟩ : S91)); (case aB => exact (belowd HB)); (case aF => exact (fun k_ hk => Kd.fresh' (Kd.R_lt (rdl HO_8)) k_ hk)); (case aO => exact (rdl HO_14)); (case aS => exact (below_size (belowd HB))); (case aL => have := LMc28.out; omega); intro v586 w29 ho hb hg hat; rw [← Ny585.out] at ho; replace HO_8 := ak (Kd.R_after (ok := (fun _ => True)) (by (with_reducible repeat (first | apply Kd.R_alloc | apply Kd.R_drewN | apply Kd.R_drew)); exact Kd.R_mono HO_8.out (fun _ hk => ⟨trivial, hk⟩)) hg hat); replace HO_9 := ak (Kd.R_over' (rdl HO_9) (Kd.R_typed (rdl HO_14)) (by decide) hg); replace HO_13 := ak (Kd.R_over' (rdl HO_13) (Kd.R_typed (rdl HO_14)) (by decide) hg); replace HB := ak (hb); have HO587 := ak (ho); clear HO_14; clear ho hb hg hat))
             repeat (go_quiet (first | ((with_reducible refine gate_builtin (b := .append) (xs := #[.tmp 101, .tmp 106]) rfl ?_); (try (refine gate_guard (by rfl) ?_; dsimp only)); at_builtin; refine Kd.R_append k91 (w0 := w) w.heap.size rfl (.tmp 101) (.tmp 106) 73 91 (.agg #[(.int .i64 0), (.int .i64 0), (.int .i64 0), (.int .i64 0), (.bool false)]) 40 rfl Try.underlying73 info91 rfl (by decide) (by omega) u14 x14_3 (⟨(rd_T91 t566 x16_3).f0, (⟨(rd_T91 t566 x16_3).f1.f0, (rd_T91 t566 x16_3).f1.f1, (rd_T91 t566 x16_3).f1.f2⟩ : S85), (rd_T91 t566 x16_3).f2⟩ : S91) [.int .i64 ((rd_T91 t566 x16_3).f0), .int .i64 ((rd_T91 t566 x16_3).f1.f0), .int .i64 ((rd_T91 t566 x16_3).f1.f1), .int .i64 ((rd_T91 t566 x16_3).f1.f2), .bool ((rd_T91 t566 x16_3).f2)] (fun k_ => some k_ ≠ (.slice (some ad584) t566.length co10 : Value).ownBlock) (fun _ => False) rfl rfl ?aP (fun _ hk => hk.elim) ?aF ?aO ?aB ?aS ?aL ?_; (case aP => exact k91_mkM _ _ _ (⟨(rd_T91 t566 x16_3).f0, (⟨(rd_T91 t566 x16_3).f1.f0, (rd_T91 t566 x16_3).f1.f1, (rd_T91 t566 x16_3).f1.f2⟩ : S85), (rd_T91 t566 x16_3).f2⟩ : S91)); (case aB => exact (belowd HB)); (case aF => exact (fun k_ hk => Kd.fresh' (Kd.R_lt (rdl HO_8)) k_ hk)); (case aO => exact (rdl HO_14)); (case aS => exact (below_size (belowd HB))); (case aL => have := LMc28.out; omega); intro v586 w29 ho hb hg hat; rw [← Ny585.out] at ho; replace HO_8 := ak (Kd.R_after (ok := (fun _ => True)) (by (with_reducible repeat (first | apply Kd.R_alloc | apply Kd.R_drewN | apply Kd.R_drew)); exact Kd.R_mono HO_8.out (fun _ hk => ⟨trivial, hk⟩)) hg hat); replace HO_9 := ak (Kd.R_over' (rdl HO_9) (Kd.R_typed (rdl HO_14)) (by decide) hg); replace HO_13 := ak (Kd.R_over' (rdl HO_13) (Kd.R_typed (rdl HO_14)) (by decide) hg); replace HB := ak (hb); have HO587 := ak (ho); clear HO_14; clear ho hb hg hat)); try go_wp2_with (first | ((with_reducible refine gate_builtin (b := .append) (xs := #[.tmp 101, .tmp 106]) rfl ?_); (try (refine gate_guard (by rfl) ?_; dsimp only)); at_builtin; refine Kd.R_append k91 (w0 := w) w.heap.size rfl (.tmp 101) (.tmp 106) 73 91 (.agg #[(.int .i64 0), (.int .i64 0), (.int .i64 0), (.int .i64 0), (.bool false)]) 40 rfl Try.underlying73 info91 rfl (by decide) (by omega) u14 x14_3 (⟨(rd_T91 t566 x16_3).f0, (⟨(rd_T91 t566 x16_3).f1.f0, (rd_T91 t566 x16_3).f1.f1, (rd_T91 t566 x16_3).f1.f2⟩ : S85), (rd_T91 t566 x16_3).f2⟩ : S91) [.int .i64 ((rd_T91 t566 x16_3).f0), .int .i64 ((rd_T91 t566 x16_3).f1.f0), .int .i64 ((rd_T91 t566 x16_3).f1.f1), .int .i64 ((rd_T91 t566 x16_3).f1.f2), .bool ((rd_T91 t566 x16_3).f2)] (fun k_ => some k_ ≠ (.slice (some ad584) t566.length co10 : Value).ownBlock) (fun _ => False) rfl rfl ?aP (fun _ hk => hk.elim) ?aF ?aO ?aB ?aS ?aL ?_; (case aP => exact k91_mkM _ _ _ (⟨(rd_T91 t566 x16_3).f0, (⟨(rd_T91 t566 x16_3).f1.f0, (rd_T91 t566 x16_3).f1.f1, (rd_T91 t566 x16_3).f1.f2⟩ : S85), (rd_T91 t566 x16_3).f2⟩ : S91)); (case aB => exact (belowd HB)); (case aF => exact (fun k_ hk => Kd.fresh' (Kd.R_lt (rdl HO_8)) k_ hk)); (case aO => exact (rdl HO_14)); (case aS => exact (below_size (belowd HB))); (case aL => have := LMc28.out; omega); intro v586 w29 ho hb hg hat; rw [← Ny585.out] at ho; replace HO_8 := ak (Kd.R_after (ok := (fun _ => True)) (by (with_reducible repeat (first | apply Kd.R_alloc | apply Kd.R_drewN | apply Kd.R_drew)); exact Kd.R_mono HO_8.out (fun _ hk => ⟨trivial, hk⟩)) hg hat); replace HO_9 := ak (Kd.R_over' (rdl HO_9) (Kd.R_typed (rdl HO_14)) (by decide) hg); replace HO_13 := ak (Kd.R_over' (rdl HO_13) (Kd.R_typed (rdl HO_14)) (by decide) hg); replace HB := ak (hb); have HO587 := ak (ho); clear HO_14; clear ho hb hg hat)))
             go_roundg k3
             case measure => have := HJ6.out; have := HK2.out; have := HK3.out; omega
             case rel => exact ⟨(y585), (wrap64 (x16_3 - 1)), er, H', ⟨by have := HJ6.out; have := HK2.out; have := HK3.out; omega⟩, ⟨by (with_reducible repeat (first | apply Kd.R_alloc | apply Kd.R_drewN | apply Kd.R_drew)); exact Kd.R_mono HO_8.out (fun _ hk => hk.2)⟩, ⟨rdl HO_9⟩, ⟨rdl HO_13⟩, ⟨rdl HO587⟩, ⟨belowd HB⟩⟩
            ·rw [if_neg c25] at H
             have c25b0 : decide (0 ≤ x16_3) = false := decide_eq_false c25
             clear c25; replace H := bS H; obtain ⟨⟨t588, t589⟩, A30, H⟩ := H
             replace H : (if t589 = true then ((laws_sameTallies.f k3 t588 t571).bind fun t592 => (if t592 = true then (if (t571.length : Int) = t563 then ((impl_GoodTallies.f k3 t571).bind fun t593 => (laws_FnScores.j3 k3 l1 t564 t566 t571 (!t593))) else (laws_FnScores.j3 k3 l1 t564 t566 t571 true)) else (laws_FnScores.j3 k3 l1 t564 t566 t571 true))) else (laws_FnScores.j3 k3 l1 t564 t566 t571 true)) = some r := H
             have HC31 := Aside0.mk H; clear H
             obtain ⟨Ao32, co32, eo32⟩ := Kd.R_slice HO_13.out
             subst eo32
             obtain ⟨Ao33, co33, eo33⟩ := Kd.R_slice HO_14.out
             subst eo33
             go_upto_region 20 with (first | (go_at_call 71; (with_reducible refine (impl_TallyOf.calls k3 t563 t564 _ _ x13_2 _ _ x14_3 t588 t589 _ ?side1 ?side2 ?side3 ?side4 A30.out).mono ?_); (case side1 => exact cd (Kd.R_reads' HO_13.out).2.2); (case side2 => exact (Kd.R_reads' HO_13.out).2.1); (case side3 => exact cd (Kd.R_reads' HO_14.out).2.2); (case side4 => exact (Kd.R_reads' HO_14.out).2.1); rintro e w34 ⟨v590, rfl, ho0, hb⟩; replace HO_8 := ak (Kd.R_below (rdl HO_8) hb); replace HO_13 := ak (Kd.R_below (rdl HO_13) hb); replace HO_14 := ak (Kd.R_below (rdl HO_14) hb); have HO591 := ak (Kd.R_lower (Kd.R_new' ho0 (Kd.R_lt (rdl HO_9))) (below_size (belowd HB))); replace HO_9 := ak (Kd.R_elder' (rdl HO_9) (Kd.R_base ho0) hb); replace HB := ak (below_step (belowd HB) hb); (try clear hb); (try clear ho0)))
             repeat (go_quiet (first | (go_at_call 71; (with_reducible refine (impl_TallyOf.calls k3 t563 t564 _ _ x13_2 _ _ x14_3 t588 t589 _ ?side1 ?side2 ?side3 ?side4 A30.out).mono ?_); (case side1 => exact cd (Kd.R_reads' HO_13.out).2.2); (case side2 => exact (Kd.R_reads' HO_13.out).2.1); (case side3 => exact cd (Kd.R_reads' HO_14.out).2.2); (case side4 => exact (Kd.R_reads' HO_14.out).2.1); rintro e w34 ⟨v590, rfl, ho0, hb⟩; replace HO_8 := ak (Kd.R_below (rdl HO_8) hb); replace HO_13 := ak (Kd.R_below (rdl HO_13) hb); replace HO_14 := ak (Kd.R_below (rdl HO_14) hb); have HO591 := ak (Kd.R_lower (Kd.R_new' ho0 (Kd.R_lt (rdl HO_9))) (below_size (belowd HB))); replace HO_9 := ak (Kd.R_elder' (rdl HO_9) (Kd.R_base ho0) hb); replace HB := ak (below_step (belowd HB) hb); (try clear hb); (try clear ho0))); go_upto_region 20 with (first | (go_at_call 71; (with_reducible refine (impl_TallyOf.calls k3 t563 t564 _ _ x13_2 _ _ x14_3 t588 t589 _ ?side1 ?side2 ?side3 ?side4 A30.out).mono ?_); (case side1 => exact cd (Kd.R_reads' HO_13.out).2.2); (case side2 => exact (Kd.R_reads' HO_13.out).2.1); (case side3 => exact cd (Kd.R_reads' HO_14.out).2.2); (case side4 => exact (Kd.R_reads' HO_14.out).2.1); rintro e w34 ⟨v590, rfl, ho0, hb⟩; replace HO_8 := ak (Kd.R_below (rdl HO_8) hb); replace HO_13 := ak (Kd.R_below (rdl HO_13) hb); replace HO_14 := ak (Kd.R_below (rdl HO_14) hb); have HO591 := ak (Kd.R_lower (Kd.R_new' ho0 (Kd.R_lt (rdl HO_9))) (below_size (belowd HB))); replace HO_9 := ak (Kd.R_elder' (rdl HO_9) (Kd.R_base ho0) hb); replace HB := ak (below_step (belowd HB) hb); (try clear hb); (try clear ho0))))
             (try simp only [Act.put, List.setIfInBounds_toArray, List.set_cons_zero, List.set_cons_succ])
             go_cut [134] (fun v134 wc => ∃ (kq : Nat) (x134_30 : Bool), v134 = .bool x134_30 ∧ Aside0 (laws_FnScores.j3 kq l1 t564 t566 t571 x134_30 = some r) ∧ Aside0 (kq ≤ k3) ∧ Aside0 (Kd.R k91 91 wc w.heap.size (fun _ => True) (.slice Ao10 t566.length co10) t566) ∧ Aside0 (Kd.R k110 110 wc w.heap.size (fun _ => True) v573 t571) ∧ Aside0 (Below w.heap.size w wc))
             case first =>
              have H := HC31.out; clear HC31
              by_cases c35 : t589 = true
              ·subst c35
               have H1 : ((laws_sameTallies.f k3 t588 t571).bind fun t592 => (if t592 = true then (if (t571.length : Int) = t563 then ((impl_GoodTallies.f k3 t571).bind fun t593 => (laws_FnScores.j3 k3 l1 t564 t566 t571 (!t593))) else (laws_FnScores.j3 k3 l1 t564 t566 t571 true)) else (laws_FnScores.j3 k3 l1 t564 t566 t571 true))) = some r := by rw [if_pos rfl] at H; exact H
               clear H
               have H := H1
               clear H1; replace H := bS H; obtain ⟨t592, A36, H⟩ := H
               replace H : (if t592 = true then (if (t571.length : Int) = t563 then ((impl_GoodTallies.f k3 t571).bind fun t593 => (laws_FnScores.j3 k3 l1 t564 t566 t571 (!t593))) else (laws_FnScores.j3 k3 l1 t564 t566 t571 true)) else (laws_FnScores.j3 k3 l1 t564 t566 t571 true)) = some r := H
               by_cases c37 : t592 = true
               ·subst c37
                have H1 : (if (t571.length : Int) = t563 then ((impl_GoodTallies.f k3 t571).bind fun t593 => (laws_FnScores.j3 k3 l1 t564 t566 t571 (!t593))) else (laws_FnScores.j3 k3 l1 t564 t566 t571 true)) = some r := by rw [if_pos rfl] at H; exact H
                clear H
                have H := H1
                clear H1
                by_cases c38 : (t571.length : Int) = t563
                ·rw [if_pos c38] at H
                 have c38b0 : ((t571.length : Int) == t563) = true := beq_iff_eq.mpr c38
                 have c38b1 : ((t571.length : Int) != t563) = false := bne_eq_false_iff_eq.mpr c38
                 clear c38
                 (first | rw [c38b0] | (simp only [i64_w, i32_w]; rw [c38b0]) | skip)
                 replace H := bS H; obtain ⟨t593, A39, H⟩ := H
                 replace H : (laws_FnScores.j3 k3 l1 t564 t566 t571 (!t593)) = some r := H
                 have H' := Aside0.mk H
                 clear H
                 obtain ⟨Ao40, co40, eo40⟩ := Kd.R_slice HO591.out
                 subst eo40
                 obtain ⟨Ao41, co41, eo41⟩ := Kd.R_slice HO_9.out
                 subst eo41
                 go_wp2_with (first | (go_at_call 76; (with_reducible refine (laws_sameTallies.calls k3 _ _ t588 _ _ t571 true _ ?side1 ?side2 ?side3 ?side4 A36.out).mono ?_); (case side1 => exact cd (Kd.R_reads' HO591.out).2.2); (case side2 => exact (Kd.R_reads' HO591.out).2.1); (case side3 => exact cd (Kd.R_reads' HO_9.out).2.2); (case side4 => exact (Kd.R_reads' HO_9.out).2.1); rintro e w' ⟨rfl, ⟨nd, rfl⟩⟩; (try first | exact ⟨rfl, _, World.drewN_drewN _ _ _⟩ | exact ⟨rfl, _, Eq.trans (World.drewN_drewN _ _ _) (congrArg (World.drewN _) (Nat.add_assoc _ _ _))⟩)) | (go_at_call 77; (with_reducible refine (impl_GoodTallies.calls k3 _ _ t571 t593 _ ?side1 ?side2 A39.out).mono ?_); (case side1 => exact cd (Kd.R_reads' HO_9.out).2.2); (case side2 => exact (Kd.R_reads' HO_9.out).2.1); rintro e w42 ⟨rfl, hb⟩; replace HO_8 := ak (Kd.R_below (rdl HO_8) hb); replace HO_9 := ak (Kd.R_below (rdl HO_9) hb); replace HO_13 := ak (Kd.R_below (rdl HO_13) hb); replace HO_14 := ak (Kd.R_below (rdl HO_14) hb); replace HO591 := ak (Kd.R_below (rdl HO591) hb); replace HB := ak (below_step (belowd HB) hb); (try clear hb)))
                 repeat (go_quiet (first | (go_at_call 76; (with_reducible refine (laws_sameTallies.calls k3 _ _ t588 _ _ t571 true _ ?side1 ?side2 ?side3 ?side4 A36.out).mono ?_); (case side1 => exact cd (Kd.R_reads' HO591.out).2.2); (case side2 => exact (Kd.R_reads' HO591.out).2.1); (case side3 => exact cd (Kd.R_reads' HO_9.out).2.2); (case side4 => exact (Kd.R_reads' HO_9.out).2.1); rintro e w' ⟨rfl, ⟨nd, rfl⟩⟩; (try first | exact ⟨rfl, _, World.drewN_drewN _ _ _⟩ | exact ⟨rfl, _, Eq.trans (World.drewN_drewN _ _ _) (congrArg (World.drewN _) (Nat.add_assoc _ _ _))⟩)) | (go_at_call 77; (with_reducible refine (impl_GoodTallies.calls k3 _ _ t571 t593 _ ?side1 ?side2 A39.out).mono ?_); (case side1 => exact cd (Kd.R_reads' HO_9.out).2.2); (case side2 => exact (Kd.R_reads' HO_9.out).2.1); rintro e w42 ⟨rfl, hb⟩; replace HO_8 := ak (Kd.R_below (rdl HO_8) hb); replace HO_9 := ak (Kd.R_below (rdl HO_9) hb); replace HO_13 := ak (Kd.R_below (rdl HO_13) hb); replace HO_14 := ak (Kd.R_below (rdl HO_14) hb); replace HO591 := ak (Kd.R_below (rdl HO591) hb); replace HB := ak (below_step (belowd HB) hb); (try clear hb))); try go_wp2_with (first | (go_at_call 76; (with_reducible refine (laws_sameTallies.calls k3 _ _ t588 _ _ t571 true _ ?side1 ?side2 ?side3 ?side4 A36.out).mono ?_); (case side1 => exact cd (Kd.R_reads' HO591.out).2.2); (case side2 => exact (Kd.R_reads' HO591.out).2.1); (case side3 => exact cd (Kd.R_reads' HO_9.out).2.2); (case side4 => exact (Kd.R_reads' HO_9.out).2.1); rintro e w' ⟨rfl, ⟨nd, rfl⟩⟩; (try first | exact ⟨rfl, _, World.drewN_drewN _ _ _⟩ | exact ⟨rfl, _, Eq.trans (World.drewN_drewN _ _ _) (congrArg (World.drewN _) (Nat.add_assoc _ _ _))⟩)) | (go_at_call 77; (with_reducible refine (impl_GoodTallies.calls k3 _ _ t571 t593 _ ?side1 ?side2 A39.out).mono ?_); (case side1 => exact cd (Kd.R_reads' HO_9.out).2.2); (case side2 => exact (Kd.R_reads' HO_9.out).2.1); rintro e w42 ⟨rfl, hb⟩; replace HO_8 := ak (Kd.R_below (rdl HO_8) hb); replace HO_9 := ak (Kd.R_below (rdl HO_9) hb); replace HO_13 := ak (Kd.R_below (rdl HO_13) hb); replace HO_14 := ak (Kd.R_below (rdl HO_14) hb); replace HO591 := ak (Kd.R_below (rdl HO591) hb); replace HB := ak (below_step (belowd HB) hb); (try clear hb))))
                 go_meet
                 case rel => exact ⟨_, (!t593), er, H', ⟨by have := HJ6.out; have := HK2.out; have := HK3.out; first | omega | exact Nat.le_refl _⟩, ⟨by (with_reducible repeat (first | apply Kd.R_alloc | apply Kd.R_drewN | apply Kd.R_drew)); exact Kd.R_mono HO_8.out (fun _ hk => trivial)⟩, ⟨by (with_reducible repeat (first | apply Kd.R_alloc | apply Kd.R_drewN | apply Kd.R_drew)); exact Kd.R_mono HO_9.out (fun _ hk => trivial)⟩, ⟨belowd HB⟩⟩
                ·rw [if_neg c38] at H
                 have c38b0 : ((t571.length : Int) == t563) = false := beq_eq_false_iff_ne.mpr c38
                 have c38b1 : ((t571.length : Int) != t563) = true := bne_iff_ne.mpr c38
                 (first | rw [c38b0] | (simp only [i64_w, i32_w]; rw [c38b0]) | skip)
                 have H' := Aside0.mk H
                 clear H
                 obtain ⟨Ao43, co43, eo43⟩ := Kd.R_slice HO591.out
                 subst eo43
                 obtain ⟨Ao44, co44, eo44⟩ := Kd.R_slice HO_9.out
                 subst eo44
                 go_wp2_with (first | (go_at_call 76; (with_reducible refine (laws_sameTallies.calls k3 _ _ t588 _ _ t571 true _ ?side1 ?side2 ?side3 ?side4 A36.out).mono ?_); (case side1 => exact cd (Kd.R_reads' HO591.out).2.2); (case side2 => exact (Kd.R_reads' HO591.out).2.1); (case side3 => exact cd (Kd.R_reads' HO_9.out).2.2); (case side4 => exact (Kd.R_reads' HO_9.out).2.1); rintro e w' ⟨rfl, ⟨nd, rfl⟩⟩; (try first | exact ⟨rfl, _, World.drewN_drewN _ _ _⟩ | exact ⟨rfl, _, Eq.trans (World.drewN_drewN _ _ _) (congrArg (World.drewN _) (Nat.add_assoc _ _ _))⟩)))
                 repeat (go_quiet (first | (go_at_call 76; (with_reducible refine (laws_sameTallies.calls k3 _ _ t588 _ _ t571 true _ ?side1 ?side2 ?side3 ?side4 A36.out).mono ?_); (case side1 => exact cd (Kd.R_reads' HO591.out).2.2); (case side2 => exact (Kd.R_reads' HO591.out).2.1); (case side3 => exact cd (Kd.R_reads' HO_9.out).2.2); (case side4 => exact (Kd.R_reads' HO_9.out).2.1); rintro e w' ⟨rfl, ⟨nd, rfl⟩⟩; (try first | exact ⟨rfl, _, World.drewN_drewN _ _ _⟩ | exact ⟨rfl, _, Eq.trans (World.drewN_drewN _ _ _) (congrArg (World.drewN _) (Nat.add_assoc _ _ _))⟩))); try go_wp2_with (first | (go_at_call 76; (with_reducible refine (laws_sameTallies.calls k3 _ _ t588 _ _ t571 true _ ?side1 ?side2 ?side3 ?side4 A36.out).mono ?_); (case side1 => exact cd (Kd.R_reads' HO591.out).2.2); (case side2 => exact (Kd.R_reads' HO591.out).2.1); (case side3 => exact cd (Kd.R_reads' HO_9.out).2.2); (case side4 => exact (Kd.R_reads' HO_9.out).2.1); rintro e w' ⟨rfl, ⟨nd, rfl⟩⟩; (try first | exact ⟨rfl, _, World.drewN_drewN _ _ _⟩ | exact ⟨rfl, _, Eq.trans (World.drewN_drewN _ _ _) (congrArg (World.drewN _) (Nat.add_assoc _ _ _))⟩))))
                 go_meet
                 case rel => exact ⟨_, (true), er, H', ⟨by have := HJ6.out; have := HK2.out; have := HK3.out; first | omega | exact Nat.le_refl _⟩, ⟨by (with_reducible repeat (first | apply Kd.R_alloc | apply Kd.R_drewN | apply Kd.R_drew)); exact Kd.R_mono HO_8.out (fun _ hk => trivial)⟩, ⟨by (with_reducible repeat (first | apply Kd.R_alloc | apply Kd.R_drewN | apply Kd.R_drew)); exact Kd.R_mono HO_9.out (fun _ hk => trivial)⟩, ⟨belowd HB⟩⟩
               ·replace c37 := Bool.eq_false_iff.mpr c37
                subst c37
                have H1 : (laws_FnScores.j3 k3 l1 t564 t566 t571 true) = some r := by rw [if_neg (show ¬ (false = true) by decide)] at H; exact H
                clear H
                have H := H1
                clear H1
                have H' := Aside0.mk H
                clear H
                obtain ⟨Ao45, co45, eo45⟩ := Kd.R_slice HO591.out
                subst eo45
                obtain ⟨Ao46, co46, eo46⟩ := Kd.R_slice HO_9.out
                subst eo46
                go_wp2_with (first | (go_at_call 76; (with_reducible refine (laws_sameTallies.calls k3 _ _ t588 _ _ t571 false _ ?side1 ?side2 ?side3 ?side4 A36.out).mono ?_); (case side1 => exact cd (Kd.R_reads' HO591.out).2.2); (case side2 => exact (Kd.R_reads' HO591.out).2.1); (case side3 => exact cd (Kd.R_reads' HO_9.out).2.2); (case side4 => exact (Kd.R_reads' HO_9.out).2.1); rintro e w' ⟨rfl, ⟨nd, rfl⟩⟩; (try first | exact ⟨rfl, _, World.drewN_drewN _ _ _⟩ | exact ⟨rfl, _, Eq.trans (World.drewN_drewN _ _ _) (congrArg (World.drewN _) (Nat.add_assoc _ _ _))⟩)))
                repeat (go_quiet (first | (go_at_call 76; (with_reducible refine (laws_sameTallies.calls k3 _ _ t588 _ _ t571 false _ ?side1 ?side2 ?side3 ?side4 A36.out).mono ?_); (case side1 => exact cd (Kd.R_reads' HO591.out).2.2); (case side2 => exact (Kd.R_reads' HO591.out).2.1); (case side3 => exact cd (Kd.R_reads' HO_9.out).2.2); (case side4 => exact (Kd.R_reads' HO_9.out).2.1); rintro e w' ⟨rfl, ⟨nd, rfl⟩⟩; (try first | exact ⟨rfl, _, World.drewN_drewN _ _ _⟩ | exact ⟨rfl, _, Eq.trans (World.drewN_drewN _ _ _) (congrArg (World.drewN _) (Nat.add_assoc _ _ _))⟩))); try go_wp2_with (first | (go_at_call 76; (with_reducible refine (laws_sameTallies.calls k3 _ _ t588 _ _ t571 false _ ?side1 ?side2 ?side3 ?side4 A36.out).mono ?_); (case side1 => exact cd (Kd.R_reads' HO591.out).2.2); (case side2 => exact (Kd.R_reads' HO591.out).2.1); (case side3 => exact cd (Kd.R_reads' HO_9.out).2.2); (case side4 => exact (Kd.R_reads' HO_9.out).2.1); rintro e w' ⟨rfl, ⟨nd, rfl⟩⟩; (try first | exact ⟨rfl, _, World.drewN_drewN _ _ _⟩ | exact ⟨rfl, _, Eq.trans (World.drewN_drewN _ _ _) (congrArg (World.drewN _) (Nat.add_assoc _ _ _))⟩))))
                go_meet
                case rel => exact ⟨_, (true), er, H', ⟨by have := HJ6.out; have := HK2.out; have := HK3.out; first | omega | exact Nat.le_refl _⟩, ⟨by (with_reducible repeat (first | apply Kd.R_alloc | apply Kd.R_drewN | apply Kd.R_drew)); exact Kd.R_mono HO_8.out (fun _ hk => trivial)⟩, ⟨by (with_reducible repeat (first | apply Kd.R_alloc | apply Kd.R_drewN | apply Kd.R_drew)); exact Kd.R_mono HO_9.out (fun _ hk => trivial)⟩, ⟨belowd HB⟩⟩
              ·replace c35 := Bool.eq_false_iff.mpr c35
               subst c35
               have H1 : (laws_FnScores.j3 k3 l1 t564 t566 t571 true) = some r := by rw [if_neg (show ¬ (false = true) by decide)] at H; exact H
               clear H
               have H := H1
               clear H1
               have H' := Aside0.mk H
               clear H; go_wp2
               repeat (go_quiet (fail); try go_wp2)
               go_meet
               case rel => exact ⟨_, (true), er, H', ⟨by have := HJ6.out; have := HK2.out; have := HK3.out; first | omega | exact Nat.le_refl _⟩, ⟨by (with_reducible repeat (first | apply Kd.R_alloc | apply Kd.R_drewN | apply Kd.R_drew)); exact Kd.R_mono HO_8.out (fun _ hk => trivial)⟩, ⟨by (with_reducible repeat (first | apply Kd.R_alloc | apply Kd.R_drewN | apply Kd.R_drew)); exact Kd.R_mono HO_9.out (fun _ hk => trivial)⟩, ⟨belowd HB⟩⟩
             case rest => as_aux_lemma =>
              clear HC31; (try clear c25b0)
              obtain ⟨kq, x134_30, rfl, HA, HJ30, HO_8, HO_9, HB⟩ := hcut
              cases kq with
              | zero => exact absurd HA.out (by simp [laws_FnScores.j3])
              | succ kj30 =>
               have H := HA.out; clear HA
               simp only [laws_FnScores.j3] at H
               by_cases c47 : x134_30 = true
               ·subst c47
                have H1 : (some false) = some r := by rw [if_pos rfl] at H; exact H
                clear H
                have H := H1
                clear H1
                exact absurd (H.trans (congrArg some hr_)) (by simp)
               ·replace c47 := Bool.eq_false_iff.mpr c47
                subst c47
                have H1 : (laws_FnScores.l2 kj30 l1 t564 t566 t571 (t571.length : Int) 0) = some r := by rw [if_neg (show ¬ (false = true) by decide)] at H; exact H
                clear H
                have H := H1
                clear H1
                have H' := Aside0.mk H
                clear H
                obtain ⟨Ao48, co48, eo48⟩ := Kd.R_slice HO_9.out
                subst eo48; go_wp2
                repeat (go_quiet (fail); try go_wp2)
                go_loopg [137] kj30 (fun kq v137 w' => ∃ (x137_5 : Int), v137 = .int .i64 x137_5 ∧ Aside0 (laws_FnScores.l2 kq l1 t564 t566 t571 (t571.length : Int) x137_5 = some r) ∧ Aside0 (kq ≤ kj30) ∧ Aside0 (Kd.R k91 91 w' w.heap.size (fun _ => True) (.slice Ao10 t566.length co10) t566) ∧ Aside0 (Kd.R k110 110 w' w.heap.size (fun _ => True) (.slice Ao48 t571.length co48) t571) ∧ Aside0 (Below w.heap.size w w'))
                case atStart => exact ⟨(0), er, H', ⟨Nat.le_refl _⟩, ⟨rdl HO_8⟩, ⟨rdl HO_9⟩, ⟨belowd HB⟩⟩
                case round =>
                 clear H'
                 (try clear c47)
                 obtain ⟨x137_5, rfl, HA, HK5, HO_8, HO_9, HB⟩ := hrel
                 cases gk with
                 | zero => exact absurd HA.out (by simp [laws_FnScores.l2])
                 | succ k5 =>
                  have H := HA.out; clear HA
                  simp only [laws_FnScores.l2] at H
                  by_cases c49 : x137_5 < (t571.length : Int)
                  ·rw [if_pos c49] at H
                   have c49b0 : decide (x137_5 < (t571.length : Int)) = true := decide_eq_true c49
                   clear c49; replace H := ifS H; obtain ⟨c50, H⟩ := H; have c50b0 := decide_eq_true c50; clear c50; replace H := ifS H; obtain ⟨c51, H⟩ := H; have c51b0 := decide_eq_true c51; clear c51; replace H := bS H; obtain ⟨⟨t596, t597⟩, A52, H⟩ := H
                   replace H : (if t597 = true then (laws_FnScores.j5 k5 l1 t564 t566 t571 x137_5 t596 (t571.length : Int) x137_5 ((t596.length : Int) != ((rd_T110 t571 x137_5).f2))) else (laws_FnScores.j5 k5 l1 t564 t566 t571 x137_5 t596 (t571.length : Int) x137_5 true)) = some r := H
                   have HC53 := Aside0.mk H; clear H
                   have p594 : 0 ≤ (x137_5 : Int) := da
                   have q594 : x137_5 < (t571.length : Int) := da
                   obtain ⟨ad594, e594, hx594_0, hx594_1, hx594_2⟩ := at_T110 (Kd.R_reads' HO_9.out).2.2 x137_5 p594 q594
                   cases e594
                   replace p594 := eq_true p594; replace q594 := eq_true q594
                   go_upto_region 26 with (first | ((with_reducible refine gate_dst (N := 20) rfl ?_); (try (refine gate_guard (by rfl) ?_; dsimp only)); refine boxev 20 #[.int .i64 0, .int .i64 0, .int .i64 0] 110 ?_; intro gb595 hg w54 hbox hb; replace HO_8 := ak (Kd.R_below (rdl HO_8) hb); replace HO_9 := ak (Kd.R_below (Kd.R_elderB (rdl HO_9) gb595 (Nat.le_of_eq hg.symm)) hb); have BK595 := ak (hbox); have GW595 := ak (hgl hg (belowd HB)); have GE595 := ak (hgl hg (belowd HB)); replace HB := ak (below_step (belowd HB) hb); clear hb hbox hg; obtain ⟨hcz55_0, hcz55_1, hcz55_2, hfz55_0, hfz55_1, hfz55_2⟩ := box3 BK595) | (go_at_call 67; (with_reducible refine (impl_DebitsFor.calls k5 t564 _ _ t566 x137_5 t596 t597 _ ?side1 ?side2 A52.out).mono ?_); (case side1 => refine (Kd.R_reads' (e := 91) (base := w.heap.size) (ok := fun k_ => True) (n := t566.length) (c := co10) ?_).2.2; exact (by (with_reducible repeat (first | apply Kd.R_alloc | apply Kd.R_drewN | apply Kd.R_drew)); exact (Kd.R_mono (farsR (Kd.R_types HO_8.out BK595.out (by decide))) (fun _ h_ => h_.1)))); (case side2 => exact (Kd.R_reads' HO_8.out).2.1); rintro e w56 ⟨v598, rfl, ho0, hb⟩; replace HO_8 := ak (Kd.R_below (by (with_reducible repeat (first | apply Kd.R_alloc | apply Kd.R_drewN | apply Kd.R_drew)); exact (Kd.R_mono (farsR (Kd.R_types HO_8.out BK595.out (by decide))) (fun _ h_ => h_.1))) hb); replace HO_9 := ak (Kd.R_below (by (with_reducible repeat (first | apply Kd.R_alloc | apply Kd.R_drewN | apply Kd.R_drew)); exact (Kd.R_mono (farsR (Kd.R_mono HO_9.out (fun k_ hk => (⟨hk, hk.2⟩ : _ ∧ k_ ≠ gb595)))) (fun _ h_ => h_.1))) hb); have HO599 := ak (Kd.R_lower ho0 (below_size (belowg1 HB GE595))); replace BK595 := ak (blk_below (g := gb595) (o := .cells #[.int .i64 ((rd_T110 t571 x137_5).f0), .int .i64 ((rd_T110 t571 x137_5).f1), .int .i64 ((rd_T110 t571 x137_5).f2)] 110 (0, 0)) (by (with_reducible repeat (first | refine blk_drewN ?_ _ | refine blk_drew ?_ | refine blk_alloc ?_ _)); refine blk_put (cs := #[.int .i64 ((rd_T110 t571 x137_5).f0), .int .i64 ((rd_T110 t571 x137_5).f1), .int .i64 0]) ?_ 2 _ rfl; (with_reducible repeat (first | refine blk_drewN ?_ _ | refine blk_drew ?_ | refine blk_alloc ?_ _)); refine blk_put (cs := #[.int .i64 ((rd_T110 t571 x137_5).f0), .int .i64 0, .int .i64 0]) ?_ 1 _ rfl; (with_reducible repeat (first | refine blk_drewN ?_ _ | refine blk_drew ?_ | refine blk_alloc ?_ _)); refine blk_put (cs := #[.int .i64 0, .int .i64 0, .int .i64 0]) ?_ 0 _ rfl; (with_reducible repeat (first | refine blk_drewN ?_ _ | refine blk_drew ?_ | refine blk_alloc ?_ _)); exact BK595.out) hb); replace HB := ak (below_step (belowg1 HB GE595) hb); (try clear hb); (try clear ho0)))
                   repeat (go_quiet (first | ((with_reducible refine gate_dst (N := 20) rfl ?_); (try (refine gate_guard (by rfl) ?_; dsimp only)); refine boxev 20 #[.int .i64 0, .int .i64 0, .int .i64 0] 110 ?_; intro gb595 hg w54 hbox hb; replace HO_8 := ak (Kd.R_below (rdl HO_8) hb); replace HO_9 := ak (Kd.R_below (Kd.R_elderB (rdl HO_9) gb595 (Nat.le_of_eq hg.symm)) hb); have BK595 := ak (hbox); have GW595 := ak (hgl hg (belowd HB)); have GE595 := ak (hgl hg (belowd HB)); replace HB := ak (below_step (belowd HB) hb); clear hb hbox hg; obtain ⟨hcz55_0, hcz55_1, hcz55_2, hfz55_0, hfz55_1, hfz55_2⟩ := box3 BK595) | (go_at_call 67; (with_reducible refine (impl_DebitsFor.calls k5 t564 _ _ t566 x137_5 t596 t597 _ ?side1 ?side2 A52.out).mono ?_); (case side1 => refine (Kd.R_reads' (e := 91) (base := w.heap.size) (ok := fun k_ => True) (n := t566.length) (c := co10) ?_).2.2; exact (by (with_reducible repeat (first | apply Kd.R_alloc | apply Kd.R_drewN | apply Kd.R_drew)); exact (Kd.R_mono (farsR (Kd.R_types HO_8.out BK595.out (by decide))) (fun _ h_ => h_.1)))); (case side2 => exact (Kd.R_reads' HO_8.out).2.1); rintro e w56 ⟨v598, rfl, ho0, hb⟩; replace HO_8 := ak (Kd.R_below (by (with_reducible repeat (first | apply Kd.R_alloc | apply Kd.R_drewN | apply Kd.R_drew)); exact (Kd.R_mono (farsR (Kd.R_types HO_8.out BK595.out (by decide))) (fun _ h_ => h_.1))) hb); replace HO_9 := ak (Kd.R_below (by (with_reducible repeat (first | apply Kd.R_alloc | apply Kd.R_drewN | apply Kd.R_drew)); exact (Kd.R_mono (farsR (Kd.R_mono HO_9.out (fun k_ hk => (⟨hk, hk.2⟩ : _ ∧ k_ ≠ gb595)))) (fun _ h_ => h_.1))) hb); have HO599 := ak (Kd.R_lower ho0 (below_size (belowg1 HB GE595))); replace BK595 := ak (blk_below (g := gb595) (o := .cells #[.int .i64 ((rd_T110 t571 x137_5).f0), .int .i64 ((rd_T110 t571 x137_5).f1), .int .i64 ((rd_T110 t571 x137_5).f2)] 110 (0, 0)) (by (with_reducible repeat (first | refine blk_drewN ?_ _ | refine blk_drew ?_ | refine blk_alloc ?_ _)); refine blk_put (cs := #[.int .i64 ((rd_T110 t571 x137_5).f0), .int .i64 ((rd_T110 t571 x137_5).f1), .int .i64 0]) ?_ 2 _ rfl; (with_reducible repeat (first | refine blk_drewN ?_ _ | refine blk_drew ?_ | refine blk_alloc ?_ _)); refine blk_put (cs := #[.int .i64 ((rd_T110 t571 x137_5).f0), .int .i64 0, .int .i64 0]) ?_ 1 _ rfl; (with_reducible repeat (first | refine blk_drewN ?_ _ | refine blk_drew ?_ | refine blk_alloc ?_ _)); refine blk_put (cs := #[.int .i64 0, .int .i64 0, .int .i64 0]) ?_ 0 _ rfl; (with_reducible repeat (first | refine blk_drewN ?_ _ | refine blk_drew ?_ | refine blk_alloc ?_ _)); exact BK595.out) hb); replace HB := ak (below_step (belowg1 HB GE595) hb); (try clear hb); (try clear ho0))); go_upto_region 26 with (first | ((with_reducible refine gate_dst (N := 20) rfl ?_); (try (refine gate_guard (by rfl) ?_; dsimp only)); refine boxev 20 #[.int .i64 0, .int .i64 0, .int .i64 0] 110 ?_; intro gb595 hg w54 hbox hb; replace HO_8 := ak (Kd.R_below (rdl HO_8) hb); replace HO_9 := ak (Kd.R_below (Kd.R_elderB (rdl HO_9) gb595 (Nat.le_of_eq hg.symm)) hb); have BK595 := ak (hbox); have GW595 := ak (hgl hg (belowd HB)); have GE595 := ak (hgl hg (belowd HB)); replace HB := ak (below_step (belowd HB) hb); clear hb hbox hg; obtain ⟨hcz55_0, hcz55_1, hcz55_2, hfz55_0, hfz55_1, hfz55_2⟩ := box3 BK595) | (go_at_call 67; (with_reducible refine (impl_DebitsFor.calls k5 t564 _ _ t566 x137_5 t596 t597 _ ?side1 ?side2 A52.out).mono ?_); (case side1 => refine (Kd.R_reads' (e := 91) (base := w.heap.size) (ok := fun k_ => True) (n := t566.length) (c := co10) ?_).2.2; exact (by (with_reducible repeat (first | apply Kd.R_alloc | apply Kd.R_drewN | apply Kd.R_drew)); exact (Kd.R_mono (farsR (Kd.R_types HO_8.out BK595.out (by decide))) (fun _ h_ => h_.1)))); (case side2 => exact (Kd.R_reads' HO_8.out).2.1); rintro e w56 ⟨v598, rfl, ho0, hb⟩; replace HO_8 := ak (Kd.R_below (by (with_reducible repeat (first | apply Kd.R_alloc | apply Kd.R_drewN | apply Kd.R_drew)); exact (Kd.R_mono (farsR (Kd.R_types HO_8.out BK595.out (by decide))) (fun _ h_ => h_.1))) hb); replace HO_9 := ak (Kd.R_below (by (with_reducible repeat (first | apply Kd.R_alloc | apply Kd.R_drewN | apply Kd.R_drew)); exact (Kd.R_mono (farsR (Kd.R_mono HO_9.out (fun k_ hk => (⟨hk, hk.2⟩ : _ ∧ k_ ≠ gb595)))) (fun _ h_ => h_.1))) hb); have HO599 := ak (Kd.R_lower ho0 (below_size (belowg1 HB GE595))); replace BK595 := ak (blk_below (g := gb595) (o := .cells #[.int .i64 ((rd_T110 t571 x137_5).f0), .int .i64 ((rd_T110 t571 x137_5).f1), .int .i64 ((rd_T110 t571 x137_5).f2)] 110 (0, 0)) (by (with_reducible repeat (first | refine blk_drewN ?_ _ | refine blk_drew ?_ | refine blk_alloc ?_ _)); refine blk_put (cs := #[.int .i64 ((rd_T110 t571 x137_5).f0), .int .i64 ((rd_T110 t571 x137_5).f1), .int .i64 0]) ?_ 2 _ rfl; (with_reducible repeat (first | refine blk_drewN ?_ _ | refine blk_drew ?_ | refine blk_alloc ?_ _)); refine blk_put (cs := #[.int .i64 ((rd_T110 t571 x137_5).f0), .int .i64 0, .int .i64 0]) ?_ 1 _ rfl; (with_reducible repeat (first | refine blk_drewN ?_ _ | refine blk_drew ?_ | refine blk_alloc ?_ _)); refine blk_put (cs := #[.int .i64 0, .int .i64 0, .int .i64 0]) ?_ 0 _ rfl; (with_reducible repeat (first | refine blk_drewN ?_ _ | refine blk_drew ?_ | refine blk_alloc ?_ _)); exact BK595.out) hb); replace HB := ak (below_step (belowg1 HB GE595) hb); (try clear hb); (try clear ho0))))
                   (try simp only [Act.put, List.setIfInBounds_toArray, List.set_cons_zero, List.set_cons_succ])
                   go_cut [157] (fun v157 wc => ∃ (kq : Nat) (x157_52 : Bool), v157 = .bool x157_52 ∧ Aside0 (laws_FnScores.j5 kq l1 t564 t566 t571 x137_5 t596 (t571.length : Int) x137_5 x157_52 = some r) ∧ Aside0 (kq ≤ k5) ∧ Aside0 (Kd.R k91 91 wc w.heap.size (fun _ => True) (.slice Ao10 t566.length co10) t566) ∧ Aside0 (Kd.R k110 110 wc w.heap.size (fun k_ => k_ ≠ gb595) (.slice (some ad594) t571.length co48) t571) ∧ Aside0 (Kd.R k85 85 wc w.heap.size (fun _ => True) v598 t596) ∧ Aside0 (wc.heap[gb595]? = some (.cells #[.int .i64 ((rd_T110 t571 x137_5).f0), .int .i64 ((rd_T110 t571 x137_5).f1), .int .i64 ((rd_T110 t571 x137_5).f2)] 110 (0, 0))) ∧ Aside0 (Below w.heap.size w wc))
                   case first =>
                    have H := HC53.out; clear HC53
                    by_cases c57 : t597 = true
                    ·subst c57
                     have H1 : (laws_FnScores.j5 k5 l1 t564 t566 t571 x137_5 t596 (t571.length : Int) x137_5 ((t596.length : Int) != ((rd_T110 t571 x137_5).f2))) = some r := by rw [if_pos rfl] at H; exact H
                     clear H
                     have H := H1
                     clear H1
                     have H' := Aside0.mk H
                     clear H
                     obtain ⟨Ao58, co58, eo58⟩ := Kd.R_slice HO599.out
                     subst eo58; obtain ⟨hcz59_0, hcz59_1, hcz59_2, hfz59_0, hfz59_1, hfz59_2⟩ := box3 BK595; go_wp2
                     repeat (go_quiet (fail); try go_wp2)
                     go_meet
                     case rel => exact ⟨_, (((t596.length : Int) != ((rd_T110 t571 x137_5).f2))), er, H', ⟨by have := HJ6.out; have := HK2.out; have := HK3.out; have := HJ30.out; have := HK5.out; first | omega | exact Nat.le_refl _⟩, ⟨rdl HO_8⟩, ⟨by (with_reducible repeat (first | apply Kd.R_alloc | apply Kd.R_drewN | apply Kd.R_drew)); exact Kd.R_mono HO_9.out (fun _ hk => hk.2)⟩, ⟨rdl HO599⟩, ⟨blkd BK595⟩, ⟨belowg1 HB GE595⟩⟩
                    ·replace c57 := Bool.eq_false_iff.mpr c57
                     subst c57
                     have H1 : (laws_FnScores.j5 k5 l1 t564 t566 t571 x137_5 t596 (t571.length : Int) x137_5 true) = some r := by rw [if_neg (show ¬ (false = true) by decide)] at H; exact H
                     clear H
                     have H := H1
                     clear H1
                     have H' := Aside0.mk H
                     clear H; go_wp2
                     repeat (go_quiet (fail); try go_wp2)
                     go_meet
                     case rel => exact ⟨_, (true), er, H', ⟨by have := HJ6.out; have := HK2.out; have := HK3.out; have := HJ30.out; have := HK5.out; first | omega | exact Nat.le_refl _⟩, ⟨rdl HO_8⟩, ⟨by (with_reducible repeat (first | apply Kd.R_alloc | apply Kd.R_drewN | apply Kd.R_drew)); exact Kd.R_mono HO_9.out (fun _ hk => hk.2)⟩, ⟨rdl HO599⟩, ⟨blkd BK595⟩, ⟨belowg1 HB GE595⟩⟩
                   case rest =>
                    clear HC53; (try clear c49b0); (try clear c50b0); (try clear c51b0); (try clear hcz55_0); (try clear hcz55_1); (try clear hcz55_2); (try clear hfz55_0); (try clear hfz55_1); (try clear hfz55_2); (try clear hx594_0); (try clear hx594_1); (try clear hx594_2); (try clear p594); (try clear q594)
                    obtain ⟨kq, x157_52, rfl, HA, HJ52, HO_8, HO_9, HO_21, BK595, HB⟩ := hcut
                    cases kq with
                    | zero => exact absurd HA.out (by simp [laws_FnScores.j5])
                    | succ kj52 =>
                     have H := HA.out; clear HA
                     simp only [laws_FnScores.j5] at H
                     by_cases c60 : x157_52 = true
                     ·subst c60
                      have H1 : (some false) = some r := by rw [if_pos rfl] at H; exact H
                      clear H
                      have H := H1
                      clear H1
                      exact absurd (H.trans (congrArg some hr_)) (by simp)
                     ·replace c60 := Bool.eq_false_iff.mpr c60
                      subst c60
                      have H1 : (laws_FnScores.l3 kj52 l1 t564 t566 t571 x137_5 t596 (t571.length : Int) x137_5 (t596.length : Int) 0) = some r := by rw [if_neg (show ¬ (false = true) by decide)] at H; exact H
                      clear H
                      have H := H1
                      clear H1
                      have H' := Aside0.mk H
                      clear H
                      obtain ⟨Ao61, co61, eo61⟩ := Kd.R_slice HO_21.out
                      subst eo61; go_wp2
                      repeat (go_quiet (fail); try go_wp2)
                      go_loopg [160] kj52 (fun kq v160 w' => ∃ (x160_7 : Int), v160 = .int .i64 x160_7 ∧ Aside0 (laws_FnScores.l3 kq l1 t564 t566 t571 x137_5 t596 (t571.length : Int) x137_5 (t596.length : Int) x160_7 = some r) ∧ Aside0 (kq ≤ kj52) ∧ Aside0 (Kd.R k91 91 w' w.heap.size (fun _ => True) (.slice Ao10 t566.length co10) t566) ∧ Aside0 (Kd.R k110 110 w' w.heap.size (fun k_ => k_ ≠ gb595) (.slice (some ad594) t571.length co48) t571) ∧ Aside0 (Kd.R k85 85 w' w.heap.size (fun _ => True) (.slice Ao61 t596.length co61) t596) ∧ Aside0 (w'.heap[gb595]? = some (.cells #[.int .i64 ((rd_T110 t571 x137_5).f0), .int .i64 ((rd_T110 t571 x137_5).f1), .int .i64 ((rd_T110 t571 x137_5).f2)] 110 (0, 0))) ∧ Aside0 (Below w.heap.size w w'))
                      case atStart => exact ⟨(0), er, H', ⟨Nat.le_refl _⟩, ⟨rdl HO_8⟩, ⟨rdl HO_9⟩, ⟨rdl HO_21⟩, ⟨blkd BK595⟩, ⟨belowg1 HB GE595⟩⟩
                      case round =>
                       clear H'
                       (try clear c60)
                       obtain ⟨x160_7, rfl, HA, HK7, HO_8, HO_9, HO_21, BK595, HB⟩ := hrel
                       cases gk with
                       | zero => exact absurd HA.out (by simp [laws_FnScores.l3])
                       | succ k7 =>
                        have H := HA.out; clear HA
                        simp only [laws_FnScores.l3] at H
                        by_cases c62 : x160_7 < (t596.length : Int)
                        ·rw [if_pos c62] at H
                         have c62b0 : decide (x160_7 < (t596.length : Int)) = true := decide_eq_true c62
                         clear c62; replace H := ifS H; obtain ⟨c63, H⟩ := H; have c63b0 := decide_eq_true c63; clear c63; replace H := ifS H; obtain ⟨c64, H⟩ := H; have c64b0 := decide_eq_true c64; clear c64; replace H := bS H; obtain ⟨⟨t602, t603⟩, A65, H⟩ := H
                         replace H : (if t603 = true then (if t602 = true then (if ((rd_T85 t596 x160_7).f0) = x137_5 then (laws_FnScores.l3 k7 l1 t564 t566 t571 x137_5 t596 (t571.length : Int) x137_5 (t596.length : Int) (wrap64 (x160_7 + 1))) else (some false)) else (some false)) else (some false)) = some r := H
                         by_cases c66 : t603 = true
                         ·subst c66
                          have H1 : (if t602 = true then (if ((rd_T85 t596 x160_7).f0) = x137_5 then (laws_FnScores.l3 k7 l1 t564 t566 t571 x137_5 t596 (t571.length : Int) x137_5 (t596.length : Int) (wrap64 (x160_7 + 1))) else (some false)) else (some false)) = some r := by rw [if_pos rfl] at H; exact H
                          clear H
                          have H := H1
                          clear H1
                          by_cases c67 : t602 = true
                          ·subst c67
                           have H1 : (if ((rd_T85 t596 x160_7).f0) = x137_5 then (laws_FnScores.l3 k7 l1 t564 t566 t571 x137_5 t596 (t571.length : Int) x137_5 (t596.length : Int) (wrap64 (x160_7 + 1))) else (some false)) = some r := by rw [if_pos rfl] at H; exact H
                           clear H
                           have H := H1
                           clear H1
                           by_cases c68 : ((rd_T85 t596 x160_7).f0) = x137_5
                           ·rw [if_pos c68] at H
                            have c68b0 : (((rd_T85 t596 x160_7).f0) == x137_5) = true := beq_iff_eq.mpr c68
                            have c68b1 : (((rd_T85 t596 x160_7).f0) != x137_5) = false := bne_eq_false_iff_eq.mpr c68
                            clear c68
                            have H' := Aside0.mk H
                            clear H
                            have p600 : 0 ≤ (x160_7 : Int) := da
                            have q600 : x160_7 < (t596.length : Int) := da
                            obtain ⟨ad600, e600, hx600_0, hx600_1, hx600_2⟩ := at_T85 (Kd.R_reads' HO_21.out).2.2 x160_7 p600 q600
                            cases e600
                            replace p600 := eq_true p600; replace q600 := eq_true q600
                            go_wp2_with (first | ((with_reducible refine gate_dst (N := 24) rfl ?_); (try (refine gate_guard (by rfl) ?_; dsimp only)); refine boxev 24 #[.int .i64 0, .int .i64 0, .int .i64 0] 85 ?_; intro gb601 hg w69 hbox hb; replace HO_8 := ak (Kd.R_below (rdl HO_8) hb); replace HO_9 := ak (Kd.R_below (rdl HO_9) hb); replace HO_21 := ak (Kd.R_below (Kd.R_elderB (rdl HO_21) gb601 (Nat.le_of_eq hg.symm)) hb); have BK601 := ak (hbox); have GW601 := ak (hgl hg (belowg1 HB GE595)); have GE601 := ak (hgl hg (belowg1 HB GE595)); replace HB := ak (below_step (belowg1 HB GE595) hb); have NB595_601 := ak ((by rw [hg]; exact Nat.ne_of_lt (blk_lt (blkd BK595)) : gb595 ≠ gb601)); have NB601_595 := ak ((by rw [hg]; exact Nat.ne_of_gt (blk_lt (blkd BK595)) : gb601 ≠ gb595)); replace BK595 := ak (blk_below (blkd BK595) hb); clear hb hbox hg; have hnb70 := NB601_595.out; have hnc70 := NB595_601.out; obtain ⟨hcz71_0, hcz71_1, hcz71_2, hfz71_0, hfz71_1, hfz71_2⟩ := box3 BK601) | (go_at_call 78; (with_reducible refine (impl_IsProved.calls k7 t564 _ _ t566 ((rd_T85 t596 x160_7).f0) ((rd_T85 t596 x160_7).f1) ((rd_T85 t596 x160_7).f2) true true _ ?side1 ?side2 A65.out).mono ?_); (case side1 => refine (Kd.R_reads' (e := 91) (base := w.heap.size) (ok := fun k_ => True) (n := t566.length) (c := co10) ?_).2.2; exact (by (with_reducible repeat (first | apply Kd.R_alloc | apply Kd.R_drewN | apply Kd.R_drew)); exact (Kd.R_mono (farsR (Kd.R_types HO_8.out BK601.out (by decide))) (fun _ h_ => h_.1)))); (case side2 => exact (Kd.R_reads' HO_8.out).2.1); rintro e w72 ⟨rfl, hb⟩; replace HO_8 := ak (Kd.R_below (by (with_reducible repeat (first | apply Kd.R_alloc | apply Kd.R_drewN | apply Kd.R_drew)); exact (Kd.R_mono (farsR (Kd.R_types HO_8.out BK601.out (by decide))) (fun _ h_ => h_.1))) hb); replace HO_9 := ak (Kd.R_below (by (with_reducible repeat (first | apply Kd.R_alloc | apply Kd.R_drewN | apply Kd.R_drew)); exact (Kd.R_mono (farsR (Kd.R_types HO_9.out BK601.out (by decide))) (fun _ h_ => h_.1))) hb); replace HO_21 := ak (Kd.R_below (by (with_reducible repeat (first | apply Kd.R_alloc | apply Kd.R_drewN | apply Kd.R_drew)); exact (Kd.R_mono (farsR (Kd.R_mono HO_21.out (fun k_ hk => (⟨hk, hk.2⟩ : _ ∧ k_ ≠ gb601)))) (fun _ h_ => h_.1))) hb); replace BK595 := ak (blk_below (g := gb595) (o := .cells #[.int .i64 ((rd_T110 t571 x137_5).f0), .int .i64 ((rd_T110 t571 x137_5).f1), .int .i64 ((rd_T110 t571 x137_5).f2)] 110 (0, 0)) (by (with_reducible repeat (first | refine blk_drewN ?_ _ | refine blk_drew ?_ | refine blk_alloc ?_ _)); refine blk_far ?_ NB595_601.out _; (with_reducible repeat (first | refine blk_drewN ?_ _ | refine blk_drew ?_ | refine blk_alloc ?_ _)); refine blk_far ?_ NB595_601.out _; (with_reducible repeat (first | refine blk_drewN ?_ _ | refine blk_drew ?_ | refine blk_alloc ?_ _)); refine blk_far ?_ NB595_601.out _; (with_reducible repeat (first | refine blk_drewN ?_ _ | refine blk_drew ?_ | refine blk_alloc ?_ _)); exact BK595.out) hb); replace BK601 := ak (blk_below (g := gb601) (o := .cells #[.int .i64 ((rd_T85 t596 x160_7).f0), .int .i64 ((rd_T85 t596 x160_7).f1), .int .i64 ((rd_T85 t596 x160_7).f2)] 85 (0, 0)) (by (with_reducible repeat (first | refine blk_drewN ?_ _ | refine blk_drew ?_ | refine blk_alloc ?_ _)); refine blk_put (cs := #[.int .i64 ((rd_T85 t596 x160_7).f0), .int .i64 ((rd_T85 t596 x160_7).f1), .int .i64 0]) ?_ 2 _ rfl; (with_reducible repeat (first | refine blk_drewN ?_ _ | refine blk_drew ?_ | refine blk_alloc ?_ _)); refine blk_put (cs := #[.int .i64 ((rd_T85 t596 x160_7).f0), .int .i64 0, .int .i64 0]) ?_ 1 _ rfl; (with_reducible repeat (first | refine blk_drewN ?_ _ | refine blk_drew ?_ | refine blk_alloc ?_ _)); refine blk_put (cs := #[.int .i64 0, .int .i64 0, .int .i64 0]) ?_ 0 _ rfl; (with_reducible repeat (first | refine blk_drewN ?_ _ | refine blk_drew ?_ | refine blk_alloc ?_ _)); exact BK601.out) hb); replace HB := ak (below_step (belowg2 HB GE595 GE601) hb); (try clear hb); obtain ⟨hcz73_0, hcz73_1, hcz73_2, hfz73_0, hfz73_1, hfz73_2⟩ := box3 BK601))
                            repeat (go_quiet (first | ((with_reducible refine gate_dst (N := 24) rfl ?_); (try (refine gate_guard (by rfl) ?_; dsimp only)); refine boxev 24 #[.int .i64 0, .int .i64 0, .int .i64 0] 85 ?_; intro gb601 hg w69 hbox hb; replace HO_8 := ak (Kd.R_below (rdl HO_8) hb); replace HO_9 := ak (Kd.R_below (rdl HO_9) hb); replace HO_21 := ak (Kd.R_below (Kd.R_elderB (rdl HO_21) gb601 (Nat.le_of_eq hg.symm)) hb); have BK601 := ak (hbox); have GW601 := ak (hgl hg (belowg1 HB GE595)); have GE601 := ak (hgl hg (belowg1 HB GE595)); replace HB := ak (below_step (belowg1 HB GE595) hb); have NB595_601 := ak ((by rw [hg]; exact Nat.ne_of_lt (blk_lt (blkd BK595)) : gb595 ≠ gb601)); have NB601_595 := ak ((by rw [hg]; exact Nat.ne_of_gt (blk_lt (blkd BK595)) : gb601 ≠ gb595)); replace BK595 := ak (blk_below (blkd BK595) hb); clear hb hbox hg; have hnb70 := NB601_595.out; have hnc70 := NB595_601.out; obtain ⟨hcz71_0, hcz71_1, hcz71_2, hfz71_0, hfz71_1, hfz71_2⟩ := box3 BK601) | (go_at_call 78; (with_reducible refine (impl_IsProved.calls k7 t564 _ _ t566 ((rd_T85 t596 x160_7).f0) ((rd_T85 t596 x160_7).f1) ((rd_T85 t596 x160_7).f2) true true _ ?side1 ?side2 A65.out).mono ?_); (case side1 => refine (Kd.R_reads' (e := 91) (base := w.heap.size) (ok := fun k_ => True) (n := t566.length) (c := co10) ?_).2.2; exact (by (with_reducible repeat (first | apply Kd.R_alloc | apply Kd.R_drewN | apply Kd.R_drew)); exact (Kd.R_mono (farsR (Kd.R_types HO_8.out BK601.out (by decide))) (fun _ h_ => h_.1)))); (case side2 => exact (Kd.R_reads' HO_8.out).2.1); rintro e w72 ⟨rfl, hb⟩; replace HO_8 := ak (Kd.R_below (by (with_reducible repeat (first | apply Kd.R_alloc | apply Kd.R_drewN | apply Kd.R_drew)); exact (Kd.R_mono (farsR (Kd.R_types HO_8.out BK601.out (by decide))) (fun _ h_ => h_.1))) hb); replace HO_9 := ak (Kd.R_below (by (with_reducible repeat (first | apply Kd.R_alloc | apply Kd.R_drewN | apply Kd.R_drew)); exact (Kd.R_mono (farsR (Kd.R_types HO_9.out BK601.out (by decide))) (fun _ h_ => h_.1))) hb); replace HO_21 := ak (Kd.R_below (by (with_reducible repeat (first | apply Kd.R_alloc | apply Kd.R_drewN | apply Kd.R_drew)); exact (Kd.R_mono (farsR (Kd.R_mono HO_21.out (fun k_ hk => (⟨hk, hk.2⟩ : _ ∧ k_ ≠ gb601)))) (fun _ h_ => h_.1))) hb); replace BK595 := ak (blk_below (g := gb595) (o := .cells #[.int .i64 ((rd_T110 t571 x137_5).f0), .int .i64 ((rd_T110 t571 x137_5).f1), .int .i64 ((rd_T110 t571 x137_5).f2)] 110 (0, 0)) (by (with_reducible repeat (first | refine blk_drewN ?_ _ | refine blk_drew ?_ | refine blk_alloc ?_ _)); refine blk_far ?_ NB595_601.out _; (with_reducible repeat (first | refine blk_drewN ?_ _ | refine blk_drew ?_ | refine blk_alloc ?_ _)); refine blk_far ?_ NB595_601.out _; (with_reducible repeat (first | refine blk_drewN ?_ _ | refine blk_drew ?_ | refine blk_alloc ?_ _)); refine blk_far ?_ NB595_601.out _; (with_reducible repeat (first | refine blk_drewN ?_ _ | refine blk_drew ?_ | refine blk_alloc ?_ _)); exact BK595.out) hb); replace BK601 := ak (blk_below (g := gb601) (o := .cells #[.int .i64 ((rd_T85 t596 x160_7).f0), .int .i64 ((rd_T85 t596 x160_7).f1), .int .i64 ((rd_T85 t596 x160_7).f2)] 85 (0, 0)) (by (with_reducible repeat (first | refine blk_drewN ?_ _ | refine blk_drew ?_ | refine blk_alloc ?_ _)); refine blk_put (cs := #[.int .i64 ((rd_T85 t596 x160_7).f0), .int .i64 ((rd_T85 t596 x160_7).f1), .int .i64 0]) ?_ 2 _ rfl; (with_reducible repeat (first | refine blk_drewN ?_ _ | refine blk_drew ?_ | refine blk_alloc ?_ _)); refine blk_put (cs := #[.int .i64 ((rd_T85 t596 x160_7).f0), .int .i64 0, .int .i64 0]) ?_ 1 _ rfl; (with_reducible repeat (first | refine blk_drewN ?_ _ | refine blk_drew ?_ | refine blk_alloc ?_ _)); refine blk_put (cs := #[.int .i64 0, .int .i64 0, .int .i64 0]) ?_ 0 _ rfl; (with_reducible repeat (first | refine blk_drewN ?_ _ | refine blk_drew ?_ | refine blk_alloc ?_ _)); exact BK601.out) hb); replace HB := ak (below_step (belowg2 HB GE595 GE601) hb); (try clear hb); obtain ⟨hcz73_0, hcz73_1, hcz73_2, hfz73_0, hfz73_1, hfz73_2⟩ := box3 BK601)); try go_wp2_with (first | ((with_reducible refine gate_dst (N := 24) rfl ?_); (try (refine gate_guard (by rfl) ?_; dsimp only)); refine boxev 24 #[.int .i64 0, .int .i64 0, .int .i64 0] 85 ?_; intro gb601 hg w69 hbox hb; replace HO_8 := ak (Kd.R_below (rdl HO_8) hb); replace HO_9 := ak (Kd.R_below (rdl HO_9) hb); replace HO_21 := ak (Kd.R_below (Kd.R_elderB (rdl HO_21) gb601 (Nat.le_of_eq hg.symm)) hb); have BK601 := ak (hbox); have GW601 := ak (hgl hg (belowg1 HB GE595)); have GE601 := ak (hgl hg (belowg1 HB GE595)); replace HB := ak (below_step (belowg1 HB GE595) hb); have NB595_601 := ak ((by rw [hg]; exact Nat.ne_of_lt (blk_lt (blkd BK595)) : gb595 ≠ gb601)); have NB601_595 := ak ((by rw [hg]; exact Nat.ne_of_gt (blk_lt (blkd BK595)) : gb601 ≠ gb595)); replace BK595 := ak (blk_below (blkd BK595) hb); clear hb hbox hg; have hnb70 := NB601_595.out; have hnc70 := NB595_601.out; obtain ⟨hcz71_0, hcz71_1, hcz71_2, hfz71_0, hfz71_1, hfz71_2⟩ := box3 BK601) | (go_at_call 78; (with_reducible refine (impl_IsProved.calls k7 t564 _ _ t566 ((rd_T85 t596 x160_7).f0) ((rd_T85 t596 x160_7).f1) ((rd_T85 t596 x160_7).f2) true true _ ?side1 ?side2 A65.out).mono ?_); (case side1 => refine (Kd.R_reads' (e := 91) (base := w.heap.size) (ok := fun k_ => True) (n := t566.length) (c := co10) ?_).2.2; exact (by (with_reducible repeat (first | apply Kd.R_alloc | apply Kd.R_drewN | apply Kd.R_drew)); exact (Kd.R_mono (farsR (Kd.R_types HO_8.out BK601.out (by decide))) (fun _ h_ => h_.1)))); (case side2 => exact (Kd.R_reads' HO_8.out).2.1); rintro e w72 ⟨rfl, hb⟩; replace HO_8 := ak (Kd.R_below (by (with_reducible repeat (first | apply Kd.R_alloc | apply Kd.R_drewN | apply Kd.R_drew)); exact (Kd.R_mono (farsR (Kd.R_types HO_8.out BK601.out (by decide))) (fun _ h_ => h_.1))) hb); replace HO_9 := ak (Kd.R_below (by (with_reducible repeat (first | apply Kd.R_alloc | apply Kd.R_drewN | apply Kd.R_drew)); exact (Kd.R_mono (farsR (Kd.R_types HO_9.out BK601.out (by decide))) (fun _ h_ => h_.1))) hb); replace HO_21 := ak (Kd.R_below (by (with_reducible repeat (first | apply Kd.R_alloc | apply Kd.R_drewN | apply Kd.R_drew)); exact (Kd.R_mono (farsR (Kd.R_mono HO_21.out (fun k_ hk => (⟨hk, hk.2⟩ : _ ∧ k_ ≠ gb601)))) (fun _ h_ => h_.1))) hb); replace BK595 := ak (blk_below (g := gb595) (o := .cells #[.int .i64 ((rd_T110 t571 x137_5).f0), .int .i64 ((rd_T110 t571 x137_5).f1), .int .i64 ((rd_T110 t571 x137_5).f2)] 110 (0, 0)) (by (with_reducible repeat (first | refine blk_drewN ?_ _ | refine blk_drew ?_ | refine blk_alloc ?_ _)); refine blk_far ?_ NB595_601.out _; (with_reducible repeat (first | refine blk_drewN ?_ _ | refine blk_drew ?_ | refine blk_alloc ?_ _)); refine blk_far ?_ NB595_601.out _; (with_reducible repeat (first | refine blk_drewN ?_ _ | refine blk_drew ?_ | refine blk_alloc ?_ _)); refine blk_far ?_ NB595_601.out _; (with_reducible repeat (first | refine blk_drewN ?_ _ | refine blk_drew ?_ | refine blk_alloc ?_ _)); exact BK595.out) hb); replace BK601 := ak (blk_below (g := gb601) (o := .cells #[.int .i64 ((rd_T85 t596 x160_7).f0), .int .i64 ((rd_T85 t596 x160_7).f1), .int .i64 ((rd_T85 t596 x160_7).f2)] 85 (0, 0)) (by (with_reducible repeat (first | refine blk_drewN ?_ _ | refine blk_drew ?_ | refine blk_alloc ?_ _)); refine blk_put (cs := #[.int .i64 ((rd_T85 t596 x160_7).f0), .int .i64 ((rd_T85 t596 x160_7).f1), .int .i64 0]) ?_ 2 _ rfl; (with_reducible repeat (first | refine blk_drewN ?_ _ | refine blk_drew ?_ | refine blk_alloc ?_ _)); refine blk_put (cs := #[.int .i64 ((rd_T85 t596 x160_7).f0), .int .i64 0, .int .i64 0]) ?_ 1 _ rfl; (with_reducible repeat (first | refine blk_drewN ?_ _ | refine blk_drew ?_ | refine blk_alloc ?_ _)); refine blk_put (cs := #[.int .i64 0, .int .i64 0, .int .i64 0]) ?_ 0 _ rfl; (with_reducible repeat (first | refine blk_drewN ?_ _ | refine blk_drew ?_ | refine blk_alloc ?_ _)); exact BK601.out) hb); replace HB := ak (below_step (belowg2 HB GE595 GE601) hb); (try clear hb); obtain ⟨hcz73_0, hcz73_1, hcz73_2, hfz73_0, hfz73_1, hfz73_2⟩ := box3 BK601)))
                            go_roundg k7
                            case measure => have := HJ6.out; have := HK2.out; have := HK3.out; have := HJ30.out; have := HK5.out; have := HJ52.out; have := HK7.out; omega
                            case rel => exact ⟨(wrap64 (x160_7 + 1)), er, H', ⟨by have := HJ6.out; have := HK2.out; have := HK3.out; have := HJ30.out; have := HK5.out; have := HJ52.out; have := HK7.out; omega⟩, ⟨rdl HO_8⟩, ⟨rdl HO_9⟩, ⟨by (with_reducible repeat (first | apply Kd.R_alloc | apply Kd.R_drewN | apply Kd.R_drew)); exact Kd.R_mono HO_21.out (fun _ hk => trivial)⟩, ⟨blkd BK595⟩, ⟨belowg2 HB GE595 GE601⟩⟩
                           ·rw [if_neg c68] at H
                            have c68b0 : (((rd_T85 t596 x160_7).f0) == x137_5) = false := beq_eq_false_iff_ne.mpr c68
                            have c68b1 : (((rd_T85 t596 x160_7).f0) != x137_5) = true := bne_iff_ne.mpr c68
                            exact absurd (H.trans (congrArg some hr_)) (by simp)
                          ·replace c67 := Bool.eq_false_iff.mpr c67
                           subst c67
                           have H1 : (some false) = some r := by rw [if_neg (show ¬ (false = true) by decide)] at H; exact H
                           clear H
                           have H := H1
                           clear H1
                           exact absurd (H.trans (congrArg some hr_)) (by simp)
                         ·replace c66 := Bool.eq_false_iff.mpr c66
                          subst c66
                          have H1 : (some false) = some r := by rw [if_neg (show ¬ (false = true) by decide)] at H; exact H
                          clear H
                          have H := H1
                          clear H1
                          exact absurd (H.trans (congrArg some hr_)) (by simp)
                        ·rw [if_neg c62] at H
                         have c62b0 : decide (x160_7 < (t596.length : Int)) = false := decide_eq_false c62
                         clear c62
                         have H' := Aside0.mk H
                         clear H; go_wp2
                         repeat (go_quiet (fail); try go_wp2)
                         go_roundg k7
                         case measure => have := HJ6.out; have := HK2.out; have := HK3.out; have := HJ30.out; have := HK5.out; have := HJ52.out; have := HK7.out; omega
                         case rel => exact ⟨(wrap64 (x137_5 + 1)), er, H', ⟨by have := HJ6.out; have := HK2.out; have := HK3.out; have := HJ30.out; have := HK5.out; have := HJ52.out; have := HK7.out; omega⟩, ⟨rdl HO_8⟩, ⟨by (with_reducible repeat (first | apply Kd.R_alloc | apply Kd.R_drewN | apply Kd.R_drew)); exact Kd.R_mono HO_9.out (fun _ hk => trivial)⟩, ⟨belowg1 HB GE595⟩⟩
                  ·rw [if_neg c49] at H
                   have c49b0 : decide (x137_5 < (t571.length : Int)) = false := decide_eq_false c49
                   clear c49
                   have H' := Aside0.mk H
                   clear H; go_wp2
                   repeat (go_quiet (fail); try go_wp2)
                   go_meet
                   case rel => exact ⟨_, H', ⟨by have := HJ6.out; have := HK2.out; have := HK3.out; have := HJ30.out; have := HK5.out; first | omega | exact Nat.le_refl _⟩, ⟨belowd HB⟩⟩
      ·replace c19 := Bool.eq_false_iff.mpr c19
       subst c19
       have H1 : (laws_FnScores.j7 kj6 l1) = some r := by rw [if_neg (show ¬ (false = true) by decide)] at H; exact H
       clear H
       have H := H1
       clear H1
       have H' := Aside0.mk H
       clear H; go_wp2
       repeat (go_quiet (fail); try go_wp2)
       go_meet
       case rel => exact ⟨_, H', ⟨by have := HJ6.out; first | omega | exact Nat.le_refl _⟩, ⟨belowd HB⟩⟩
     case rest => as_aux_lemma =>
      clear HC18; (try clear c17)
      obtain ⟨kq, HA, HJ17, HB⟩ := hcut
      cases kq with
      | zero => exact absurd HA.out (by simp [laws_FnScores.j7])
      | succ kj17 =>
       have H := HA.out; clear HA
       simp only [laws_FnScores.j7] at H
       replace H := bS H; obtain ⟨⟨t604, t605⟩, A74, H⟩ := H
       replace H : ((impl_AddTallies.f kj17 t604 t605).bind fun bt610 => ((spec_AddTallies.f kj17 t604 t605).bind fun bt614 => ((spec_DrawDebitsFor.f kj17 l1).bind fun bt618 => ((impl_DebitsFor.f kj17 bt618.1 bt618.2.1 bt618.2.2).bind fun bt623 => ((spec_DebitsFor.f kj17 bt618.1 bt618.2.1 bt618.2.2).bind fun bt627 => (if (bt610.2 != bt614.2) = true then (laws_FnScores.j8 kj17 bt623.1 bt627.1 true) else ((laws_sameTallies.f kj17 bt610.1 bt614.1).bind fun t631 => (if t631 = true then (if (bt623.2 != bt627.2) = true then (laws_FnScores.j8 kj17 bt623.1 bt627.1 true) else (laws_FnScores.j8 kj17 bt623.1 bt627.1 ((bt623.1.length : Int) != (bt627.1.length : Int)))) else (laws_FnScores.j8 kj17 bt623.1 bt627.1 true))))))))) = some r := H
       replace H := bS H; obtain ⟨⟨t610, t611⟩, A75, H⟩ := H
       replace H : ((spec_AddTallies.f kj17 t604 t605).bind fun bt614 => ((spec_DrawDebitsFor.f kj17 l1).bind fun bt618 => ((impl_DebitsFor.f kj17 bt618.1 bt618.2.1 bt618.2.2).bind fun bt623 => ((spec_DebitsFor.f kj17 bt618.1 bt618.2.1 bt618.2.2).bind fun bt627 => (if (t611 != bt614.2) = true then (laws_FnScores.j8 kj17 bt623.1 bt627.1 true) else ((laws_sameTallies.f kj17 t610 bt614.1).bind fun t631 => (if t631 = true then (if (bt623.2 != bt627.2) = true then (laws_FnScores.j8 kj17 bt623.1 bt627.1 true) else (laws_FnScores.j8 kj17 bt623.1 bt627.1 ((bt623.1.length : Int) != (bt627.1.length : Int)))) else (laws_FnScores.j8 kj17 bt623.1 bt627.1 true)))))))) = some r := H
       replace H := bS H; obtain ⟨⟨t614, t615⟩, A76, H⟩ := H
       replace H : ((spec_DrawDebitsFor.f kj17 l1).bind fun bt618 => ((impl_DebitsFor.f kj17 bt618.1 bt618.2.1 bt618.2.2).bind fun bt623 => ((spec_DebitsFor.f kj17 bt618.1 bt618.2.1 bt618.2.2).bind fun bt627 => (if (t611 != t615) = true then (laws_FnScores.j8 kj17 bt623.1 bt627.1 true) else ((laws_sameTallies.f kj17 t610 t614).bind fun t631 => (if t631 = true then (if (bt623.2 != bt627.2) = true then (laws_FnScores.j8 kj17 bt623.1 bt627.1 true) else (laws_FnScores.j8 kj17 bt623.1 bt627.1 ((bt623.1.length : Int) != (bt627.1.length : Int)))) else (laws_FnScores.j8 kj17 bt623.1 bt627.1 true))))))) = some r := H
       replace H := bS H; obtain ⟨⟨t618, t619, t620⟩, A77, H⟩ := H
       replace H : ((impl_DebitsFor.f kj17 t618 t619 t620).bind fun bt623 => ((spec_DebitsFor.f kj17 t618 t619 t620).bind fun bt627 => (if (t611 != t615) = true then (laws_FnScores.j8 kj17 bt623.1 bt627.1 true) else ((laws_sameTallies.f kj17 t610 t614).bind fun t631 => (if t631 = true then (if (bt623.2 != bt627.2) = true then (laws_FnScores.j8 kj17 bt623.1 bt627.1 true) else (laws_FnScores.j8 kj17 bt623.1 bt627.1 ((bt623.1.length : Int) != (bt627.1.length : Int)))) else (laws_FnScores.j8 kj17 bt623.1 bt627.1 true)))))) = some r := H
       replace H := bS H; obtain ⟨⟨t623, t624⟩, A78, H⟩ := H
       replace H : ((spec_DebitsFor.f kj17 t618 t619 t620).bind fun bt627 => (if (t611 != t615) = true then (laws_FnScores.j8 kj17 t623 bt627.1 true) else ((laws_sameTallies.f kj17 t610 t614).bind fun t631 => (if t631 = true then (if (t624 != bt627.2) = true then (laws_FnScores.j8 kj17 t623 bt627.1 true) else (laws_FnScores.j8 kj17 t623 bt627.1 ((t623.length : Int) != (bt627.1.length : Int)))) else (laws_FnScores.j8 kj17 t623 bt627.1 true))))) = some r := H
       replace H := bS H; obtain ⟨⟨t627, t628⟩, A79, H⟩ := H
       replace H : (if (t611 != t615) = true then (laws_FnScores.j8 kj17 t623 t627 true) else ((laws_sameTallies.f kj17 t610 t614).bind fun t631 => (if t631 = true then (if (t624 != t628) = true then (laws_FnScores.j8 kj17 t623 t627 true) else (laws_FnScores.j8 kj17 t623 t627 ((t623.length : Int) != (t627.length : Int)))) else (laws_FnScores.j8 kj17 t623 t627 true)))) = some r := H
       have HC80 := Aside0.mk H; clear H
       go_upto_region 42 with (first | (go_at_call 79; (with_reducible refine (spec_DrawAddTallies.calls kj17 _ _ l1 t604 t605 _ ?side1 ?side2 A74.out).mono ?_); (case side1 => exact cd (Kd.C_below HR1.out HB.out)); (case side2 => exact HC1.out); rintro e w81 ⟨v606, v608, rfl, ho0, ho1, hb⟩; have HO607 := ak (Kd.R_lower ho0 (below_size (belowd HB))); have HO609 := ak (Kd.R_lower ho1 (below_size (belowd HB))); replace HB := ak (below_step (belowd HB) hb); (try clear hb); (try clear ho0); (try clear ho1); obtain ⟨Ao82, co82, eo82⟩ := Kd.R_slice HO607.out; subst eo82; obtain ⟨Ao83, co83, eo83⟩ := Kd.R_slice HO609.out; subst eo83) | (go_at_call 80; (with_reducible refine (impl_AddTallies.calls kj17 _ _ t604 _ _ t605 t610 t611 _ ?side1 ?side2 ?side3 ?side4 A75.out).mono ?_); (case side1 => exact cd (Kd.R_reads' HO607.out).2.2); (case side2 => exact (Kd.R_reads' HO607.out).2.1); (case side3 => exact cd (Kd.R_reads' HO609.out).2.2); (case side4 => exact (Kd.R_reads' HO609.out).2.1); rintro e w84 ⟨v612, rfl, ho0, hb⟩; have HO613 := ak (Kd.R_lower (Kd.R_new' (Kd.R_new' ho0 (Kd.R_lt (rdl HO607))) (Kd.R_lt (rdl HO609))) (below_size (belowd HB))); replace HO607 := ak (Kd.R_elder' (rdl HO607) (Kd.R_base ho0) hb); replace HO609 := ak (Kd.R_elder' (rdl HO609) (Kd.R_base ho0) hb); replace HB := ak (below_step (belowd HB) hb); (try clear hb); (try clear ho0)) | (go_at_call 81; (with_reducible refine (spec_AddTallies.calls kj17 _ _ t604 _ _ t605 t614 t615 _ ?side1 ?side2 ?side3 ?side4 A76.out).mono ?_); (case side1 => exact cd (Kd.R_reads' HO607.out).2.2); (case side2 => exact (Kd.R_reads' HO607.out).2.1); (case side3 => exact cd (Kd.R_reads' HO609.out).2.2); (case side4 => exact (Kd.R_reads' HO609.out).2.1); rintro e w85 ⟨v616, rfl, ho0, hb⟩; have HO617 := ak (Kd.R_lower (Kd.R_new' (Kd.R_new' (Kd.R_new' ho0 (Kd.R_lt (rdl HO607))) (Kd.R_lt (rdl HO609))) (Kd.R_lt (rdl HO613))) (below_size (belowd HB))); replace HO607 := ak (Kd.R_elder' (rdl HO607) (Kd.R_base ho0) hb); replace HO609 := ak (Kd.R_elder' (rdl HO609) (Kd.R_base ho0) hb); replace HO613 := ak (Kd.R_elder' (rdl HO613) (Kd.R_base ho0) hb); replace HB := ak (below_step (belowd HB) hb); (try clear hb); (try clear ho0)) | (go_at_call 82; (with_reducible refine (spec_DrawDebitsFor.calls kj17 _ _ l1 t618 t619 t620 _ ?side1 ?side2 A77.out).mono ?_); (case side1 => exact cd (Kd.C_below HR1.out HB.out)); (case side2 => exact HC1.out); rintro e w86 ⟨v621, rfl, ho0, hb⟩; replace HO607 := ak (Kd.R_below (rdl HO607) hb); replace HO609 := ak (Kd.R_below (rdl HO609) hb); replace HO613 := ak (Kd.R_below (rdl HO613) hb); replace HO617 := ak (Kd.R_below (rdl HO617) hb); have HO622 := ak (Kd.R_lower ho0 (below_size (belowd HB))); replace HB := ak (below_step (belowd HB) hb); (try clear hb); (try clear ho0); obtain ⟨Ao87, co87, eo87⟩ := Kd.R_slice HO622.out; subst eo87) | (go_at_call 67; (with_reducible refine (impl_DebitsFor.calls kj17 t618 _ _ t619 t620 t623 t624 _ ?side1 ?side2 A78.out).mono ?_); (case side1 => exact cd (Kd.R_reads' HO622.out).2.2); (case side2 => exact (Kd.R_reads' HO622.out).2.1); rintro e w88 ⟨v625, rfl, ho0, hb⟩; replace HO607 := ak (Kd.R_below (rdl HO607) hb); replace HO609 := ak (Kd.R_below (rdl HO609) hb); replace HO613 := ak (Kd.R_below (rdl HO613) hb); replace HO617 := ak (Kd.R_below (rdl HO617) hb); replace HO622 := ak (Kd.R_below (rdl HO622) hb); have HO626 := ak (Kd.R_lower ho0 (below_size (belowd HB))); replace HB := ak (below_step (belowd HB) hb); (try clear hb); (try clear ho0)) | (go_at_call 66; (with_reducible refine (spec_DebitsFor.calls kj17 t618 _ _ t619 t620 t627 t628 _ ?side1 ?side2 A79.out).mono ?_); (case side1 => exact cd (Kd.R_reads' HO622.out).2.2); (case side2 => exact (Kd.R_reads' HO622.out).2.1); rintro e w89 ⟨v629, rfl, ho0, hb⟩; replace HO607 := ak (Kd.R_below (rdl HO607) hb); replace HO609 := ak (Kd.R_below (rdl HO609) hb); replace HO613 := ak (Kd.R_below (rdl HO613) hb); replace HO617 := ak (Kd.R_below (rdl HO617) hb); replace HO622 := ak (Kd.R_below (rdl HO622) hb); have HO630 := ak (Kd.R_lower (Kd.R_new' ho0 (Kd.R_lt (rdl HO626))) (below_size (belowd HB))); replace HO626 := ak (Kd.R_elder' (rdl HO626) (Kd.R_base ho0) hb); replace HB := ak (below_step (belowd HB) hb); (try clear hb); (try clear ho0)))
       repeat (go_quiet (first | (go_at_call 79; (with_reducible refine (spec_DrawAddTallies.calls kj17 _ _ l1 t604 t605 _ ?side1 ?side2 A74.out).mono ?_); (case side1 => exact cd (Kd.C_below HR1.out HB.out)); (case side2 => exact HC1.out); rintro e w81 ⟨v606, v608, rfl, ho0, ho1, hb⟩; have HO607 := ak (Kd.R_lower ho0 (below_size (belowd HB))); have HO609 := ak (Kd.R_lower ho1 (below_size (belowd HB))); replace HB := ak (below_step (belowd HB) hb); (try clear hb); (try clear ho0); (try clear ho1); obtain ⟨Ao82, co82, eo82⟩ := Kd.R_slice HO607.out; subst eo82; obtain ⟨Ao83, co83, eo83⟩ := Kd.R_slice HO609.out; subst eo83) | (go_at_call 80; (with_reducible refine (impl_AddTallies.calls kj17 _ _ t604 _ _ t605 t610 t611 _ ?side1 ?side2 ?side3 ?side4 A75.out).mono ?_); (case side1 => exact cd (Kd.R_reads' HO607.out).2.2); (case side2 => exact (Kd.R_reads' HO607.out).2.1); (case side3 => exact cd (Kd.R_reads' HO609.out).2.2); (case side4 => exact (Kd.R_reads' HO609.out).2.1); rintro e w84 ⟨v612, rfl, ho0, hb⟩; have HO613 := ak (Kd.R_lower (Kd.R_new' (Kd.R_new' ho0 (Kd.R_lt (rdl HO607))) (Kd.R_lt (rdl HO609))) (below_size (belowd HB))); replace HO607 := ak (Kd.R_elder' (rdl HO607) (Kd.R_base ho0) hb); replace HO609 := ak (Kd.R_elder' (rdl HO609) (Kd.R_base ho0) hb); replace HB := ak (below_step (belowd HB) hb); (try clear hb); (try clear ho0)) | (go_at_call 81; (with_reducible refine (spec_AddTallies.calls kj17 _ _ t604 _ _ t605 t614 t615 _ ?side1 ?side2 ?side3 ?side4 A76.out).mono ?_); (case side1 => exact cd (Kd.R_reads' HO607.out).2.2); (case side2 => exact (Kd.R_reads' HO607.out).2.1); (case side3 => exact cd (Kd.R_reads' HO609.out).2.2); (case side4 => exact (Kd.R_reads' HO609.out).2.1); rintro e w85 ⟨v616, rfl, ho0, hb⟩; have HO617 := ak (Kd.R_lower (Kd.R_new' (Kd.R_new' (Kd.R_new' ho0 (Kd.R_lt (rdl HO607))) (Kd.R_lt (rdl HO609))) (Kd.R_lt (rdl HO613))) (below_size (belowd HB))); replace HO607 := ak (Kd.R_elder' (rdl HO607) (Kd.R_base ho0) hb); replace HO609 := ak (Kd.R_elder' (rdl HO609) (Kd.R_base ho0) hb); replace HO613 := ak (Kd.R_elder' (rdl HO613) (Kd.R_base ho0) hb); replace HB := ak (below_step (belowd HB) hb); (try clear hb); (try clear ho0)) | (go_at_call 82; (with_reducible refine (spec_DrawDebitsFor.calls kj17 _ _ l1 t618 t619 t620 _ ?side1 ?side2 A77.out).mono ?_); (case side1 => exact cd (Kd.C_below HR1.out HB.out)); (case side2 => exact HC1.out); rintro e w86 ⟨v621, rfl, ho0, hb⟩; replace HO607 := ak (Kd.R_below (rdl HO607) hb); replace HO609 := ak (Kd.R_below (rdl HO609) hb); replace HO613 := ak (Kd.R_below (rdl HO613) hb); replace HO617 := ak (Kd.R_below (rdl HO617) hb); have HO622 := ak (Kd.R_lower ho0 (below_size (belowd HB))); replace HB := ak (below_step (belowd HB) hb); (try clear hb); (try clear ho0); obtain ⟨Ao87, co87, eo87⟩ := Kd.R_slice HO622.out; subst eo87) | (go_at_call 67; (with_reducible refine (impl_DebitsFor.calls kj17 t618 _ _ t619 t620 t623 t624 _ ?side1 ?side2 A78.out).mono ?_); (case side1 => exact cd (Kd.R_reads' HO622.out).2.2); (case side2 => exact (Kd.R_reads' HO622.out).2.1); rintro e w88 ⟨v625, rfl, ho0, hb⟩; replace HO607 := ak (Kd.R_below (rdl HO607) hb); replace HO609 := ak (Kd.R_below (rdl HO609) hb); replace HO613 := ak (Kd.R_below (rdl HO613) hb); replace HO617 := ak (Kd.R_below (rdl HO617) hb); replace HO622 := ak (Kd.R_below (rdl HO622) hb); have HO626 := ak (Kd.R_lower ho0 (below_size (belowd HB))); replace HB := ak (below_step (belowd HB) hb); (try clear hb); (try clear ho0)) | (go_at_call 66; (with_reducible refine (spec_DebitsFor.calls kj17 t618 _ _ t619 t620 t627 t628 _ ?side1 ?side2 A79.out).mono ?_); (case side1 => exact cd (Kd.R_reads' HO622.out).2.2); (case side2 => exact (Kd.R_reads' HO622.out).2.1); rintro e w89 ⟨v629, rfl, ho0, hb⟩; replace HO607 := ak (Kd.R_below (rdl HO607) hb); replace HO609 := ak (Kd.R_below (rdl HO609) hb); replace HO613 := ak (Kd.R_below (rdl HO613) hb); replace HO617 := ak (Kd.R_below (rdl HO617) hb); replace HO622 := ak (Kd.R_below (rdl HO622) hb); have HO630 := ak (Kd.R_lower (Kd.R_new' ho0 (Kd.R_lt (rdl HO626))) (below_size (belowd HB))); replace HO626 := ak (Kd.R_elder' (rdl HO626) (Kd.R_base ho0) hb); replace HB := ak (below_step (belowd HB) hb); (try clear hb); (try clear ho0))); go_upto_region 42 with (first | (go_at_call 79; (with_reducible refine (spec_DrawAddTallies.calls kj17 _ _ l1 t604 t605 _ ?side1 ?side2 A74.out).mono ?_); (case side1 => exact cd (Kd.C_below HR1.out HB.out)); (case side2 => exact HC1.out); rintro e w81 ⟨v606, v608, rfl, ho0, ho1, hb⟩; have HO607 := ak (Kd.R_lower ho0 (below_size (belowd HB))); have HO609 := ak (Kd.R_lower ho1 (below_size (belowd HB))); replace HB := ak (below_step (belowd HB) hb); (try clear hb); (try clear ho0); (try clear ho1); obtain ⟨Ao82, co82, eo82⟩ := Kd.R_slice HO607.out; subst eo82; obtain ⟨Ao83, co83, eo83⟩ := Kd.R_slice HO609.out; subst eo83) | (go_at_call 80; (with_reducible refine (impl_AddTallies.calls kj17 _ _ t604 _ _ t605 t610 t611 _ ?side1 ?side2 ?side3 ?side4 A75.out).mono ?_); (case side1 => exact cd (Kd.R_reads' HO607.out).2.2); (case side2 => exact (Kd.R_reads' HO607.out).2.1); (case side3 => exact cd (Kd.R_reads' HO609.out).2.2); (case side4 => exact (Kd.R_reads' HO609.out).2.1); rintro e w84 ⟨v612, rfl, ho0, hb⟩; have HO613 := ak (Kd.R_lower (Kd.R_new' (Kd.R_new' ho0 (Kd.R_lt (rdl HO607))) (Kd.R_lt (rdl HO609))) (below_size (belowd HB))); replace HO607 := ak (Kd.R_elder' (rdl HO607) (Kd.R_base ho0) hb); replace HO609 := ak (Kd.R_elder' (rdl HO609) (Kd.R_base ho0) hb); replace HB := ak (below_step (belowd HB) hb); (try clear hb); (try clear ho0)) | (go_at_call 81; (with_reducible refine (spec_AddTallies.calls kj17 _ _ t604 _ _ t605 t614 t615 _ ?side1 ?side2 ?side3 ?side4 A76.out).mono ?_); (case side1 => exact cd (Kd.R_reads' HO607.out).2.2); (case side2 => exact (Kd.R_reads' HO607.out).2.1); (case side3 => exact cd (Kd.R_reads' HO609.out).2.2); (case side4 => exact (Kd.R_reads' HO609.out).2.1); rintro e w85 ⟨v616, rfl, ho0, hb⟩; have HO617 := ak (Kd.R_lower (Kd.R_new' (Kd.R_new' (Kd.R_new' ho0 (Kd.R_lt (rdl HO607))) (Kd.R_lt (rdl HO609))) (Kd.R_lt (rdl HO613))) (below_size (belowd HB))); replace HO607 := ak (Kd.R_elder' (rdl HO607) (Kd.R_base ho0) hb); replace HO609 := ak (Kd.R_elder' (rdl HO609) (Kd.R_base ho0) hb); replace HO613 := ak (Kd.R_elder' (rdl HO613) (Kd.R_base ho0) hb); replace HB := ak (below_step (belowd HB) hb); (try clear hb); (try clear ho0)) | (go_at_call 82; (with_reducible refine (spec_DrawDebitsFor.calls kj17 _ _ l1 t618 t619 t620 _ ?side1 ?side2 A77.out).mono ?_); (case side1 => exact cd (Kd.C_below HR1.out HB.out)); (case side2 => exact HC1.out); rintro e w86 ⟨v621, rfl, ho0, hb⟩; replace HO607 := ak (Kd.R_below (rdl HO607) hb); replace HO609 := ak (Kd.R_below (rdl HO609) hb); replace HO613 := ak (Kd.R_below (rdl HO613) hb); replace HO617 := ak (Kd.R_below (rdl HO617) hb); have HO622 := ak (Kd.R_lower ho0 (below_size (belowd HB))); replace HB := ak (below_step (belowd HB) hb); (try clear hb); (try clear ho0); obtain ⟨Ao87, co87, eo87⟩ := Kd.R_slice HO622.out; subst eo87) | (go_at_call 67; (with_reducible refine (impl_DebitsFor.calls kj17 t618 _ _ t619 t620 t623 t624 _ ?side1 ?side2 A78.out).mono ?_); (case side1 => exact cd (Kd.R_reads' HO622.out).2.2); (case side2 => exact (Kd.R_reads' HO622.out).2.1); rintro e w88 ⟨v625, rfl, ho0, hb⟩; replace HO607 := ak (Kd.R_below (rdl HO607) hb); replace HO609 := ak (Kd.R_below (rdl HO609) hb); replace HO613 := ak (Kd.R_below (rdl HO613) hb); replace HO617 := ak (Kd.R_below (rdl HO617) hb); replace HO622 := ak (Kd.R_below (rdl HO622) hb); have HO626 := ak (Kd.R_lower ho0 (below_size (belowd HB))); replace HB := ak (below_step (belowd HB) hb); (try clear hb); (try clear ho0)) | (go_at_call 66; (with_reducible refine (spec_DebitsFor.calls kj17 t618 _ _ t619 t620 t627 t628 _ ?side1 ?side2 A79.out).mono ?_); (case side1 => exact cd (Kd.R_reads' HO622.out).2.2); (case side2 => exact (Kd.R_reads' HO622.out).2.1); rintro e w89 ⟨v629, rfl, ho0, hb⟩; replace HO607 := ak (Kd.R_below (rdl HO607) hb); replace HO609 := ak (Kd.R_below (rdl HO609) hb); replace HO613 := ak (Kd.R_below (rdl HO613) hb); replace HO617 := ak (Kd.R_below (rdl HO617) hb); replace HO622 := ak (Kd.R_below (rdl HO622) hb); have HO630 := ak (Kd.R_lower (Kd.R_new' ho0 (Kd.R_lt (rdl HO626))) (below_size (belowd HB))); replace HO626 := ak (Kd.R_elder' (rdl HO626) (Kd.R_base ho0) hb); replace HB := ak (below_step (belowd HB) hb); (try clear hb); (try clear ho0))))
       (try simp only [Act.put, List.setIfInBounds_toArray, List.set_cons_zero, List.set_cons_succ])
       go_cut [242] (fun v242 wc => ∃ (kq : Nat) (x242_79 : Bool), v242 = .bool x242_79 ∧ Aside0 (laws_FnScores.j8 kq t623 t627 x242_79 = some r) ∧ Aside0 (kq ≤ kj17) ∧ Aside0 (Kd.R k85 85 wc w.heap.size (fun k_ => some k_ ≠ (v629 : Value).ownBlock) v625 t623) ∧ Aside0 (Kd.R k85 85 wc w.heap.size (fun k_ => some k_ ≠ (v625 : Value).ownBlock) v629 t627) ∧ Aside0 (Below w.heap.size w wc))
       case first =>
        have H := HC80.out; clear HC80
        by_cases c90 : (t611 != t615) = true
        ·rw [if_pos c90] at H
         have c90b0 : (t611 != t615) = true := c90
         (try (have c90b1 : decide (t611 = t615) = false := by simpa using c90))
         (try (have c90b2 : (t611 == t615) = false := by simpa using c90))
         (try (have c90b3 : ¬ (t611 = t615) := by simpa using c90))
         clear c90
         (first | rw [c90b0] | (simp only [i64_w, i32_w]; rw [c90b0]) | skip)
         have H' := Aside0.mk H
         clear H; go_wp2
         repeat (go_quiet (fail); try go_wp2)
         go_meet
         case rel => exact ⟨_, (true), er, H', ⟨by have := HJ6.out; have := HJ17.out; first | omega | exact Nat.le_refl _⟩, ⟨by (with_reducible repeat (first | apply Kd.R_alloc | apply Kd.R_drewN | apply Kd.R_drew)); exact Kd.R_mono HO626.out (fun _ hk => hk.2)⟩, ⟨by (with_reducible repeat (first | apply Kd.R_alloc | apply Kd.R_drewN | apply Kd.R_drew)); exact Kd.R_mono HO630.out (fun _ hk => hk.2)⟩, ⟨belowd HB⟩⟩
        ·rw [if_neg c90] at H
         have c90b0 : (t611 != t615) = false := by simpa using c90
         (try (have c90b1 : decide (t611 = t615) = true := by simpa using c90))
         (try (have c90b2 : (t611 == t615) = true := by simpa using c90))
         clear c90
         (first | rw [c90b0] | (simp only [i64_w, i32_w]; rw [c90b0]) | skip)
         replace H := bS H; obtain ⟨t631, A91, H⟩ := H
         replace H : (if t631 = true then (if (t624 != t628) = true then (laws_FnScores.j8 kj17 t623 t627 true) else (laws_FnScores.j8 kj17 t623 t627 ((t623.length : Int) != (t627.length : Int)))) else (laws_FnScores.j8 kj17 t623 t627 true)) = some r := H
         by_cases c92 : t631 = true
         ·subst c92
          have H1 : (if (t624 != t628) = true then (laws_FnScores.j8 kj17 t623 t627 true) else (laws_FnScores.j8 kj17 t623 t627 ((t623.length : Int) != (t627.length : Int)))) = some r := by rw [if_pos rfl] at H; exact H
          clear H
          have H := H1
          clear H1
          by_cases c93 : (t624 != t628) = true
          ·rw [if_pos c93] at H
           have c93b0 : (t624 != t628) = true := c93
           (try (have c93b1 : decide (t624 = t628) = false := by simpa using c93))
           (try (have c93b2 : (t624 == t628) = false := by simpa using c93))
           (try (have c93b3 : ¬ (t624 = t628) := by simpa using c93))
           clear c93
           have H' := Aside0.mk H
           clear H
           obtain ⟨Ao94, co94, eo94⟩ := Kd.R_slice HO613.out
           subst eo94
           obtain ⟨Ao95, co95, eo95⟩ := Kd.R_slice HO617.out
           subst eo95
           go_wp2_with (first | (go_at_call 76; (with_reducible refine (laws_sameTallies.calls kj17 _ _ t610 _ _ t614 true _ ?side1 ?side2 ?side3 ?side4 A91.out).mono ?_); (case side1 => exact cd (Kd.R_reads' HO613.out).2.2); (case side2 => exact (Kd.R_reads' HO613.out).2.1); (case side3 => exact cd (Kd.R_reads' HO617.out).2.2); (case side4 => exact (Kd.R_reads' HO617.out).2.1); rintro e w' ⟨rfl, ⟨nd, rfl⟩⟩; (try first | exact ⟨rfl, _, World.drewN_drewN _ _ _⟩ | exact ⟨rfl, _, Eq.trans (World.drewN_drewN _ _ _) (congrArg (World.drewN _) (Nat.add_assoc _ _ _))⟩)))
           repeat (go_quiet (first | (go_at_call 76; (with_reducible refine (laws_sameTallies.calls kj17 _ _ t610 _ _ t614 true _ ?side1 ?side2 ?side3 ?side4 A91.out).mono ?_); (case side1 => exact cd (Kd.R_reads' HO613.out).2.2); (case side2 => exact (Kd.R_reads' HO613.out).2.1); (case side3 => exact cd (Kd.R_reads' HO617.out).2.2); (case side4 => exact (Kd.R_reads' HO617.out).2.1); rintro e w' ⟨rfl, ⟨nd, rfl⟩⟩; (try first | exact ⟨rfl, _, World.drewN_drewN _ _ _⟩ | exact ⟨rfl, _, Eq.trans (World.drewN_drewN _ _ _) (congrArg (World.drewN _) (Nat.add_assoc _ _ _))⟩))); try go_wp2_with (first | (go_at_call 76; (with_reducible refine (laws_sameTallies.calls kj17 _ _ t610 _ _ t614 true _ ?side1 ?side2 ?side3 ?side4 A91.out).mono ?_); (case side1 => exact cd (Kd.R_reads' HO613.out).2.2); (case side2 => exact (Kd.R_reads' HO613.out).2.1); (case side3 => exact cd (Kd.R_reads' HO617.out).2.2); (case side4 => exact (Kd.R_reads' HO617.out).2.1); rintro e w' ⟨rfl, ⟨nd, rfl⟩⟩; (try first | exact ⟨rfl, _, World.drewN_drewN _ _ _⟩ | exact ⟨rfl, _, Eq.trans (World.drewN_drewN _ _ _) (congrArg (World.drewN _) (Nat.add_assoc _ _ _))⟩))))
           go_meet
           case rel => exact ⟨_, (true), er, H', ⟨by have := HJ6.out; have := HJ17.out; first | omega | exact Nat.le_refl _⟩, ⟨by (with_reducible repeat (first | apply Kd.R_alloc | apply Kd.R_drewN | apply Kd.R_drew)); exact Kd.R_mono HO626.out (fun _ hk => hk.2)⟩, ⟨by (with_reducible repeat (first | apply Kd.R_alloc | apply Kd.R_drewN | apply Kd.R_drew)); exact Kd.R_mono HO630.out (fun _ hk => hk.2)⟩, ⟨belowd HB⟩⟩
          ·rw [if_neg c93] at H
           have c93b0 : (t624 != t628) = false := by simpa using c93
           (try (have c93b1 : decide (t624 = t628) = true := by simpa using c93))
           (try (have c93b2 : (t624 == t628) = true := by simpa using c93))
           clear c93
           have H' := Aside0.mk H
           clear H
           obtain ⟨Ao96, co96, eo96⟩ := Kd.R_slice HO613.out
           subst eo96
           obtain ⟨Ao97, co97, eo97⟩ := Kd.R_slice HO617.out
           subst eo97
           go_wp2_with (first | (go_at_call 76; (with_reducible refine (laws_sameTallies.calls kj17 _ _ t610 _ _ t614 true _ ?side1 ?side2 ?side3 ?side4 A91.out).mono ?_); (case side1 => exact cd (Kd.R_reads' HO613.out).2.2); (case side2 => exact (Kd.R_reads' HO613.out).2.1); (case side3 => exact cd (Kd.R_reads' HO617.out).2.2); (case side4 => exact (Kd.R_reads' HO617.out).2.1); rintro e w' ⟨rfl, ⟨nd, rfl⟩⟩; (try first | exact ⟨rfl, _, World.drewN_drewN _ _ _⟩ | exact ⟨rfl, _, Eq.trans (World.drewN_drewN _ _ _) (congrArg (World.drewN _) (Nat.add_assoc _ _ _))⟩); obtain ⟨Ao98, co98, eo98⟩ := Kd.R_slice HO626.out; subst eo98; obtain ⟨Ao99, co99, eo99⟩ := Kd.R_slice HO630.out; subst eo99))
           repeat (go_quiet (first | (go_at_call 76; (with_reducible refine (laws_sameTallies.calls kj17 _ _ t610 _ _ t614 true _ ?side1 ?side2 ?side3 ?side4 A91.out).mono ?_); (case side1 => exact cd (Kd.R_reads' HO613.out).2.2); (case side2 => exact (Kd.R_reads' HO613.out).2.1); (case side3 => exact cd (Kd.R_reads' HO617.out).2.2); (case side4 => exact (Kd.R_reads' HO617.out).2.1); rintro e w' ⟨rfl, ⟨nd, rfl⟩⟩; (try first | exact ⟨rfl, _, World.drewN_drewN _ _ _⟩ | exact ⟨rfl, _, Eq.trans (World.drewN_drewN _ _ _) (congrArg (World.drewN _) (Nat.add_assoc _ _ _))⟩); obtain ⟨Ao98, co98, eo98⟩ := Kd.R_slice HO626.out; subst eo98; obtain ⟨Ao99, co99, eo99⟩ := Kd.R_slice HO630.out; subst eo99)); try go_wp2_with (first | (go_at_call 76; (with_reducible refine (laws_sameTallies.calls kj17 _ _ t610 _ _ t614 true _ ?side1 ?side2 ?side3 ?side4 A91.out).mono ?_); (case side1 => exact cd (Kd.R_reads' HO613.out).2.2); (case side2 => exact (Kd.R_reads' HO613.out).2.1); (case side3 => exact cd (Kd.R_reads' HO617.out).2.2); (case side4 => exact (Kd.R_reads' HO617.out).2.1); rintro e w' ⟨rfl, ⟨nd, rfl⟩⟩; (try first | exact ⟨rfl, _, World.drewN_drewN _ _ _⟩ | exact ⟨rfl, _, Eq.trans (World.drewN_drewN _ _ _) (congrArg (World.drewN _) (Nat.add_assoc _ _ _))⟩); obtain ⟨Ao98, co98, eo98⟩ := Kd.R_slice HO626.out; subst eo98; obtain ⟨Ao99, co99, eo99⟩ := Kd.R_slice HO630.out; subst eo99)))
           go_meet
           case rel => exact ⟨_, (((t623.length : Int) != (t627.length : Int))), er, H', ⟨by have := HJ6.out; have := HJ17.out; first | omega | exact Nat.le_refl _⟩, ⟨by (with_reducible repeat (first | apply Kd.R_alloc | apply Kd.R_drewN | apply Kd.R_drew)); exact Kd.R_mono HO626.out (fun _ hk => hk.2)⟩, ⟨by (with_reducible repeat (first | apply Kd.R_alloc | apply Kd.R_drewN | apply Kd.R_drew)); exact Kd.R_mono HO630.out (fun _ hk => hk.2)⟩, ⟨belowd HB⟩⟩
         ·replace c92 := Bool.eq_false_iff.mpr c92
          subst c92
          have H1 : (laws_FnScores.j8 kj17 t623 t627 true) = some r := by rw [if_neg (show ¬ (false = true) by decide)] at H; exact H
          clear H
          have H := H1
          clear H1
          have H' := Aside0.mk H
          clear H
          obtain ⟨Ao100, co100, eo100⟩ := Kd.R_slice HO613.out
          subst eo100
          obtain ⟨Ao101, co101, eo101⟩ := Kd.R_slice HO617.out
          subst eo101
          go_wp2_with (first | (go_at_call 76; (with_reducible refine (laws_sameTallies.calls kj17 _ _ t610 _ _ t614 false _ ?side1 ?side2 ?side3 ?side4 A91.out).mono ?_); (case side1 => exact cd (Kd.R_reads' HO613.out).2.2); (case side2 => exact (Kd.R_reads' HO613.out).2.1); (case side3 => exact cd (Kd.R_reads' HO617.out).2.2); (case side4 => exact (Kd.R_reads' HO617.out).2.1); rintro e w' ⟨rfl, ⟨nd, rfl⟩⟩; (try first | exact ⟨rfl, _, World.drewN_drewN _ _ _⟩ | exact ⟨rfl, _, Eq.trans (World.drewN_drewN _ _ _) (congrArg (World.drewN _) (Nat.add_assoc _ _ _))⟩)))
          repeat (go_quiet (first | (go_at_call 76; (with_reducible refine (laws_sameTallies.calls kj17 _ _ t610 _ _ t614 false _ ?side1 ?side2 ?side3 ?side4 A91.out).mono ?_); (case side1 => exact cd (Kd.R_reads' HO613.out).2.2); (case side2 => exact (Kd.R_reads' HO613.out).2.1); (case side3 => exact cd (Kd.R_reads' HO617.out).2.2); (case side4 => exact (Kd.R_reads' HO617.out).2.1); rintro e w' ⟨rfl, ⟨nd, rfl⟩⟩; (try first | exact ⟨rfl, _, World.drewN_drewN _ _ _⟩ | exact ⟨rfl, _, Eq.trans (World.drewN_drewN _ _ _) (congrArg (World.drewN _) (Nat.add_assoc _ _ _))⟩))); try go_wp2_with (first | (go_at_call 76; (with_reducible refine (laws_sameTallies.calls kj17 _ _ t610 _ _ t614 false _ ?side1 ?side2 ?side3 ?side4 A91.out).mono ?_); (case side1 => exact cd (Kd.R_reads' HO613.out).2.2); (case side2 => exact (Kd.R_reads' HO613.out).2.1); (case side3 => exact cd (Kd.R_reads' HO617.out).2.2); (case side4 => exact (Kd.R_reads' HO617.out).2.1); rintro e w' ⟨rfl, ⟨nd, rfl⟩⟩; (try first | exact ⟨rfl, _, World.drewN_drewN _ _ _⟩ | exact ⟨rfl, _, Eq.trans (World.drewN_drewN _ _ _) (congrArg (World.drewN _) (Nat.add_assoc _ _ _))⟩))))
          go_meet
          case rel => exact ⟨_, (true), er, H', ⟨by have := HJ6.out; have := HJ17.out; first | omega | exact Nat.le_refl _⟩, ⟨by (with_reducible repeat (first | apply Kd.R_alloc | apply Kd.R_drewN | apply Kd.R_drew)); exact Kd.R_mono HO626.out (fun _ hk => hk.2)⟩, ⟨by (with_reducible repeat (first | apply Kd.R_alloc | apply Kd.R_drewN | apply Kd.R_drew)); exact Kd.R_mono HO630.out (fun _ hk => hk.2)⟩, ⟨belowd HB⟩⟩
       case rest =>
        clear HC80
        obtain ⟨kq, x242_79, rfl, HA, HJ79, HO_36, HO_38, HB⟩ := hcut
        cases kq with
        | zero => exact absurd HA.out (by simp [laws_FnScores.j8])
        | succ kj79 =>
         have H := HA.out; clear HA
         simp only [laws_FnScores.j8] at H
         by_cases c102 : x242_79 = true
         ·subst c102
          have H1 : (some false) = some r := by rw [if_pos rfl] at H; exact H
          clear H
          have H := H1
          clear H1
          exact absurd (H.trans (congrArg some hr_)) (by simp)
         ·replace c102 := Bool.eq_false_iff.mpr c102
          subst c102
          have H1 : (laws_FnScores.l4 kj79 t623 t627 (t623.length : Int) 0) = some r := by rw [if_neg (show ¬ (false = true) by decide)] at H; exact H
          clear H
          have H := H1
          clear H1
          have H' := Aside0.mk H
          clear H
          obtain ⟨Ao103, co103, eo103⟩ := Kd.R_slice HO_36.out
          subst eo103; go_wp2
          repeat (go_quiet (fail); try go_wp2)
          go_loopg [245] kj79 (fun kq v245 w' => ∃ (x245_4 : Int), v245 = .int .i64 x245_4 ∧ Aside0 (laws_FnScores.l4 kq t623 t627 (t623.length : Int) x245_4 = some r) ∧ Aside0 (kq ≤ kj79) ∧ Aside0 (Kd.R k85 85 w' w.heap.size (fun k_ => some k_ ≠ (v629 : Value).ownBlock) (.slice Ao103 t623.length co103) t623) ∧ Aside0 (Kd.R k85 85 w' w.heap.size (fun k_ => some k_ ≠ ((.slice Ao103 t623.length co103) : Value).ownBlock) v629 t627) ∧ Aside0 (Below w.heap.size w w'))
          case atStart => exact ⟨(0), er, H', ⟨Nat.le_refl _⟩, ⟨rdl HO_36⟩, ⟨rdl HO_38⟩, ⟨belowd HB⟩⟩
          case round =>
           clear H'
           (try clear c102)
           obtain ⟨x245_4, rfl, HA, HK4, HO_36, HO_38, HB⟩ := hrel
           cases gk with
           | zero => exact absurd HA.out (by simp [laws_FnScores.l4])
           | succ k4 =>
            have H := HA.out; clear HA
            simp only [laws_FnScores.l4] at H
            by_cases c104 : x245_4 < (t623.length : Int)
            ·rw [if_pos c104] at H
             have c104b0 : decide (x245_4 < (t623.length : Int)) = true := decide_eq_true c104
             clear c104; replace H := ifS H; obtain ⟨c105, H⟩ := H; have c105b0 := decide_eq_true c105; clear c105; replace H := ifS H; obtain ⟨c106, H⟩ := H; have c106b0 := decide_eq_true c106; clear c106; replace H := ifS H; obtain ⟨c107, H⟩ := H; have c107b0 := decide_eq_true c107; clear c107
             by_cases c108 : (!(((rd_T85 t623 x245_4).f0) == ((rd_T85 t627 x245_4).f0)) || (!(((rd_T85 t623 x245_4).f1) == ((rd_T85 t627 x245_4).f1)) || (!(((rd_T85 t623 x245_4).f2) == ((rd_T85 t627 x245_4).f2))))) = true
             ·rw [if_pos c108] at H
              have c108b0 : (!(((rd_T85 t623 x245_4).f0) == ((rd_T85 t627 x245_4).f0)) || (!(((rd_T85 t623 x245_4).f1) == ((rd_T85 t627 x245_4).f1)) || (!(((rd_T85 t623 x245_4).f2) == ((rd_T85 t627 x245_4).f2))))) = true := c108
              clear c108
              exact absurd (H.trans (congrArg some hr_)) (by simp)
             ·rw [if_neg c108] at H
              have c108b0 : (!(((rd_T85 t623 x245_4).f0) == ((rd_T85 t627 x245_4).f0)) || (!(((rd_T85 t623 x245_4).f1) == ((rd_T85 t627 x245_4).f1)) || (!(((rd_T85 t623 x245_4).f2) == ((rd_T85 t627 x245_4).f2))))) = false := by simpa using c108
              clear c108
              have H' := Aside0.mk H
              clear H
              have p632 : 0 ≤ (x245_4 : Int) := da
              have q632 : x245_4 < (t623.length : Int) := da
              obtain ⟨ad632, e632, hx632_0, hx632_1, hx632_2⟩ := at_T85 (Kd.R_reads' HO_36.out).2.2 x245_4 p632 q632
              cases e632
              replace p632 := eq_true p632; replace q632 := eq_true q632
              obtain ⟨Ao109, co109, eo109⟩ := Kd.R_slice HO_38.out
              subst eo109
              have p633 : 0 ≤ (x245_4 : Int) := da
              have q633 : x245_4 < (t627.length : Int) := da
              obtain ⟨ad633, e633, hx633_0, hx633_1, hx633_2⟩ := at_T85 (Kd.R_reads' HO_38.out).2.2 x245_4 p633 q633
              cases e633
              replace p633 := eq_true p633; replace q633 := eq_true q633; go_wp2
              repeat (go_quiet (fail); try go_wp2)
              go_roundg k4
              case measure => have := HJ6.out; have := HJ17.out; have := HJ79.out; have := HK4.out; omega
              case rel => exact ⟨(wrap64 (x245_4 + 1)), er, H', ⟨by have := HJ6.out; have := HJ17.out; have := HJ79.out; have := HK4.out; omega⟩, ⟨rdl HO_36⟩, ⟨rdl HO_38⟩, ⟨belowd HB⟩⟩
            ·rw [if_neg c104] at H
             have c104b0 : decide (x245_4 < (t623.length : Int)) = false := decide_eq_false c104
             clear c104
             obtain rfl := Option.some.inj H
             go_wp2
             repeat (go_quiet (fail); try go_wp2)
             go_ret
             exact ⟨er2, belowd HB⟩

/-- THE ONE PURE STATEMENT of laws_FnScores: yours. -/
def laws_FnScores.Pure : Prop := ∀ (l0 : List Int) (l1 : List Int), l0.length ≤ maxLen → l0.length * 1 ≤ 140737488351232 → (∀ x ∈ l0, (Lit.int .u8 x).wf = true) → l1.length ≤ maxLen → l1.length * 1 ≤ 140737488351232 → (∀ x ∈ l1, (Lit.int .u8 x).wf = true) → ∃ k, laws_FnScores.f k l0 l1 = some true
theorem laws_FnScores.walk (P : laws_FnScores.Pure) (a0 : Option Addr) (len0 cap0 : Nat) (z0 : List Int) (a1 : Option Addr) (len1 cap1 : Nat) (z1 : List Int) (w : World) (w0 : (a0 = none ∧ len0 = 0 ∧ cap0 = 0 ∧ z0 = []) ∨ ∃ x, a0 = some x ∧ len0 ≤ cap0 ∧ cap0 ≤ maxLen ∧ z0.length = cap0 ∧ (∀ i, i < z0.length → w.cell? (x.add i) = some (.int .u8 (z0.getD i 0))) ∧ ∀ n ∈ z0, (Lit.int .u8 n).wf = true) (y0 : len0 * 1 ≤ 140737488351232) (w1 : (a1 = none ∧ len1 = 0 ∧ cap1 = 0 ∧ z1 = []) ∨ ∃ x, a1 = some x ∧ len1 ≤ cap1 ∧ cap1 ≤ maxLen ∧ z1.length = cap1 ∧ (∀ i, i < z1.length → w.cell? (x.add i) = some (.int .u8 (z1.getD i 0))) ∧ ∀ n ∈ z1, (Lit.int .u8 n).wf = true) (y1 : len1 * 1 ≤ 140737488351232) :
  Calls Try.prog 11 #[.slice a0 len0 cap0, .slice a1 len1 cap1] w fun e w' => e = .returned (.bool true) ∧ Below w.heap.size w w' := by
 obtain ⟨l0, rfl, hr0, hm0, hw0, hc0⟩ := ReadsInt.ofRowC w0
 obtain ⟨l1, rfl, hr1, hm1, hw1, hc1⟩ := ReadsInt.ofRowC w1
 obtain ⟨k, h⟩ := P l0 l1 hm0 y0 hw0 hm1 y1 hw1
 refine (laws_FnScores.calls k _ _ l0 _ _ l1 true w (Kd.C_of_reads (d := (0 : Int)) (h1 := fun _ => rfl) hr0) hc0 (Kd.C_of_reads (d := (0 : Int)) (h1 := fun _ => rfl) hr1) hc1 h rfl).mono ?_
 rintro e w' ⟨rfl, hd⟩
 exact ⟨rfl, hd⟩

end Go.Proofs.Ytkgogglnipdcfaa.QFnScores
