-- printed by this session's own program (wip/tools/pp.py: the kit's print.py with changes); Lean checks it
import Derived.Test.YtpibdgknmjjolaaQFnWaysx0
import Derived.Test.YtpibdgknmjjolaaQFnWaysx3
import Derived.Test.YtpibdgknmjjolaaQFnWaysx6
import Derived.Test.YtpibdgknmjjolaaQFnWaysx7
import Derived.Test.YtpibdgknmjjolaaQFnWaysx8
namespace Go.Proofs.Ytpibdgknmjjolaa.QFnWays
open Go.RowKit Go.Proofs.YtpibdgknmjjolaaW.PrintWords Go.Proofs.YtpibdgknmjjolaaW.PrintLast Go.Proofs.YtpibdgknmjjolaaW.PrintMore
attribute [local go_sem] max2_int min2_int max_two min_two max_three min_three max_four min_four strLss strGtr strLeq strGeq   -- for this text's walks alone
set_option linter.unusedVariables false
set_option linter.unusedSimpArgs false

/-! ### laws_FnWays: function 10 -/
mutual
def laws_FnWays.j0 : Nat → List Int → List (S68) → Int → List (List Int) → Bool → List Int → Bool → Bool → Option (Bool)
 | 0, _, _, _, _, _, _, _, _ => none
 | k + 1, x1, x5, x6, x7, x8, x11, x12, x93 => if x93 = true then (some false) else (if x12 = true then (laws_FnWays.l0 k x1 x5 x6 x7 x8 x11 1) else (laws_FnWays.j2 k x1 x5 x6 x7 x8 x11))
def laws_FnWays.j2 : Nat → List Int → List (S68) → Int → List (List Int) → Bool → List Int → Option (Bool)
 | 0, _, _, _, _, _, _ => none
 | k + 1, x1, x5, x6, x7, x8, x11 => if x8 = true then (laws_FnWays.l1 k x1 x5 x6 x7 x11 ([] : List Int) (x7.length : Int) 0) else (laws_FnWays.j5 k x1)
def laws_FnWays.j5 : Nat → List Int → Option (Bool)
 | 0, _ => none
 | k + 1, x1 => (spec_DrawScoreOf.f k x1).bind fun bt397 => ((impl_ScoreOf.f bt397.1 bt397.2.1 bt397.2.2).bind fun bt401 => ((spec_ScoreOf.f bt397.1 bt397.2.1 bt397.2.2).bind fun bt403 => ((spec_DrawRankHands.f k x1).bind fun t405 => ((impl_RankHands.f k t405).bind fun bt408 => ((spec_RankHands.f k t405).bind fun bt412 => (if (bt401.2 == bt403.2) = true then (if bt401.1 = bt403.1 then (if (bt408.2 == bt412.2) = true then ((laws_sameInts.f k bt408.1 bt412.1).bind fun t416 => (if t416 = true then (if bt401.2 = true then (if bt401.1 ≥ 0 then (some (decide (bt401.1 ≤ 99))) else (some false)) else (some true)) else (some false))) else (some false)) else (some false)) else (some false)))))))
def laws_FnWays.l1 : Nat → List Int → List (S68) → Int → List (List Int) → List Int → List Int → Int → Int → Option (Bool)
 | 0, _, _, _, _, _, _, _, _ => none
 | k + 1, x1, x5, x6, x7, x11, x20, x154, x155 => if x155 < x154 then (if 0 ≤ x155 then (if x155 < (x7.length : Int) then (if ((rd_L2 x7 x155).length : Int) = x6 then (laws_FnWays.l2 k x1 x5 x6 x7 x11 x20 x154 x155 (rd_L2 x7 x155) ((rd_L2 x7 x155).length : Int) 0) else (some false)) else (none)) else (none)) else (if x6 = 0 then (none) else (if (x7.length : Int) = (wrap64 ((x5.length : Int) / x6)) then (laws_FnWays.j5 k x1) else (some false)))
def laws_FnWays.l2 : Nat → List Int → List (S68) → Int → List (List Int) → List Int → List Int → Int → Int → List Int → Int → Int → Option (Bool)
 | 0, _, _, _, _, _, _, _, _, _, _, _ => none
 | k + 1, x1, x5, x6, x7, x11, x20, x154, x155, x163, x164, x165 => if x165 < x164 then (if 0 ≤ x165 then (if x165 < (x163.length : Int) then ((laws_has.f k x20 (rd x163 x165)).bind fun t388 => (if t388 = true then (some false) else (if 0 ≤ (wrap64 ((x7.length : Int) * x6)) then (if (wrap64 ((x7.length : Int) * x6)) ≤ (x11.length : Int) then ((laws_has.f k (x11.take ((wrap64 ((x7.length : Int) * x6)) : Int).toNat) (rd x163 x165)).bind fun t393 => (if t393 = true then (if x20.length < 17592186044416 then (laws_FnWays.l2 k x1 x5 x6 x7 x11 (x20 ++ [rd x163 x165]) x154 x155 x163 x164 (wrap64 (x165 + 1))) else (none)) else (some false))) else (none)) else (none)))) else (none)) else (none)) else (laws_FnWays.l1 k x1 x5 x6 x7 x11 x20 x154 (wrap64 (x155 + 1)))
def laws_FnWays.l0 : Nat → List Int → List (S68) → Int → List (List Int) → Bool → List Int → Int → Option (Bool)
 | 0, _, _, _, _, _, _, _ => none
 | k + 1, x1, x5, x6, x7, x8, x11, x15 => if x15 < (x11.length : Int) then (if 0 ≤ (wrap64 (x15 - 1)) then (if (wrap64 (x15 - 1)) < (x11.length : Int) then (if 0 ≤ (rd x11 (wrap64 (x15 - 1))) then (if (rd x11 (wrap64 (x15 - 1))) < (x5.length : Int) then ((impl_ScoreOf.f ((rd_T68 x5 (rd x11 (wrap64 (x15 - 1)))).f0) ((rd_T68 x5 (rd x11 (wrap64 (x15 - 1)))).f1) ((rd_T68 x5 (rd x11 (wrap64 (x15 - 1)))).f2)).bind fun bt378 => (if 0 ≤ x15 then (if 0 ≤ (rd x11 x15) then (if (rd x11 x15) < (x5.length : Int) then ((impl_ScoreOf.f ((rd_T68 x5 (rd x11 x15)).f0) ((rd_T68 x5 (rd x11 x15)).f1) ((rd_T68 x5 (rd x11 x15)).f2)).bind fun bt382 => (if bt378.2 = true then (if bt382.2 = true then (if bt378.1 < bt382.1 then (some false) else (if bt378.1 = bt382.1 then (if (rd x11 (wrap64 (x15 - 1))) ≥ (rd x11 x15) then (some false) else (laws_FnWays.l0 k x1 x5 x6 x7 x8 x11 (wrap64 (x15 + 1)))) else (laws_FnWays.l0 k x1 x5 x6 x7 x8 x11 (wrap64 (x15 + 1))))) else (some false)) else (some false))) else (none)) else (none)) else (none))) else (none)) else (none)) else (none)) else (none)) else (laws_FnWays.j2 k x1 x5 x6 x7 x8 x11)
end
def laws_FnWays.f (k : Nat) (l0 : List Int) (l1 : List Int) : Option (Bool) := if (wrap64 ((l0.length : Int) + (l1.length : Int))) > 1048576 then (some true) else ((spec_DrawWaysOf.f k l0).bind fun bt353 => ((impl_WaysOf.f k bt353.1 bt353.2).bind fun bt357 => ((spec_WaysOf.f k bt353.1 bt353.2).bind fun bt361 => ((impl_RankHands.f k bt353.1).bind fun bt365 => ((spec_RankHands.f k bt353.1).bind fun bt369 => (if (bt357.2 != bt361.2) = true then (laws_FnWays.j0 k l1 bt353.1 bt353.2 bt357.1 bt357.2 bt365.1 bt365.2 true) else ((laws_sameRows.f k bt357.1 bt361.1).bind fun t373 => (if t373 = true then (if (bt365.2 != bt369.2) = true then (laws_FnWays.j0 k l1 bt353.1 bt353.2 bt357.1 bt357.2 bt365.1 bt365.2 true) else ((laws_sameInts.f k bt365.1 bt369.1).bind fun t374 => (if t374 = true then ((impl_GoodTallies.f k bt353.1).bind fun t375 => (laws_FnWays.j0 k l1 bt353.1 bt353.2 bt357.1 bt357.2 bt365.1 bt365.2 (t375 != bt365.2))) else (laws_FnWays.j0 k l1 bt353.1 bt353.2 bt357.1 bt357.2 bt365.1 bt365.2 true)))) else (laws_FnWays.j0 k l1 bt353.1 bt353.2 bt357.1 bt357.2 bt365.1 bt365.2 true)))))))))
theorem laws_FnWays.mono_l : ∀ k, (∀ y0 y1 y2 y3 y4 y5 y6 y7, LeO (laws_FnWays.j0 k y0 y1 y2 y3 y4 y5 y6 y7) (laws_FnWays.j0 (k + 1) y0 y1 y2 y3 y4 y5 y6 y7)) ∧ (∀ y0 y1 y2 y3 y4 y5, LeO (laws_FnWays.j2 k y0 y1 y2 y3 y4 y5) (laws_FnWays.j2 (k + 1) y0 y1 y2 y3 y4 y5)) ∧ (∀ y0, LeO (laws_FnWays.j5 k y0) (laws_FnWays.j5 (k + 1) y0)) ∧ (∀ y0 y1 y2 y3 y4 y5 y6 y7, LeO (laws_FnWays.l1 k y0 y1 y2 y3 y4 y5 y6 y7) (laws_FnWays.l1 (k + 1) y0 y1 y2 y3 y4 y5 y6 y7)) ∧ (∀ y0 y1 y2 y3 y4 y5 y6 y7 y8 y9 y10, LeO (laws_FnWays.l2 k y0 y1 y2 y3 y4 y5 y6 y7 y8 y9 y10) (laws_FnWays.l2 (k + 1) y0 y1 y2 y3 y4 y5 y6 y7 y8 y9 y10)) ∧ (∀ y0 y1 y2 y3 y4 y5 y6, LeO (laws_FnWays.l0 k y0 y1 y2 y3 y4 y5 y6) (laws_FnWays.l0 (k + 1) y0 y1 y2 y3 y4 y5 y6))
 | 0 => ⟨fun _ _ _ _ _ _ _ _ r h => by simp [laws_FnWays.j0] at h, fun _ _ _ _ _ _ r h => by simp [laws_FnWays.j2] at h, fun _ r h => by simp [laws_FnWays.j5] at h, fun _ _ _ _ _ _ _ _ r h => by simp [laws_FnWays.l1] at h, fun _ _ _ _ _ _ _ _ _ _ _ r h => by simp [laws_FnWays.l2] at h, fun _ _ _ _ _ _ _ r h => by simp [laws_FnWays.l0] at h⟩
 | k + 1 => by
  obtain ⟨ih0, ih1, ih2, ih3, ih4, ih5⟩ := laws_FnWays.mono_l k
  refine ⟨?_, ?_, ?_, ?_, ?_, ?_⟩
  ·intro y0 y1 y2 y3 y4 y5 y6 y7
   unfold laws_FnWays.j0
   repeat' first
   | (with_reducible exact ih0 _ _ _ _ _ _ _ _)
   | (with_reducible exact ih1 _ _ _ _ _ _)
   | (with_reducible exact ih2 _)
   | (with_reducible exact ih3 _ _ _ _ _ _ _ _)
   | (with_reducible exact ih4 _ _ _ _ _ _ _ _ _ _ _)
   | (with_reducible exact ih5 _ _ _ _ _ _ _)
   | (with_reducible exact impl_GoodTallies.mono _ _)
   | (with_reducible exact impl_RankHands.mono _ _)
   | (with_reducible exact impl_WaysOf.mono _ _ _)
   | (with_reducible exact laws_has.mono _ _ _)
   | (with_reducible exact laws_sameInts.mono _ _ _)
   | (with_reducible exact laws_sameRows.mono _ _ _)
   | (with_reducible exact spec_DrawRankHands.mono _ _)
   | (with_reducible exact spec_DrawScoreOf.mono _ _)
   | (with_reducible exact spec_DrawWaysOf.mono _ _)
   | (with_reducible exact spec_RankHands.mono _ _)
   | (with_reducible exact spec_WaysOf.mono _ _ _)
   | (with_reducible exact LeO.refl _)
   | (with_reducible exact LeO.none _)
   | (with_reducible refine LeO.ite ?_ ?_)
   | (with_reducible refine LeO.bind ?_ (fun _ => ?_))
   | exact ih0 _ _ _ _ _ _ _ _
   | exact ih1 _ _ _ _ _ _
   | exact ih2 _
   | exact ih3 _ _ _ _ _ _ _ _
   | exact ih4 _ _ _ _ _ _ _ _ _ _ _
   | exact ih5 _ _ _ _ _ _ _
   | exact impl_GoodTallies.mono _ _
   | exact impl_RankHands.mono _ _
   | exact impl_WaysOf.mono _ _ _
   | exact laws_has.mono _ _ _
   | exact laws_sameInts.mono _ _ _
   | exact laws_sameRows.mono _ _ _
   | exact spec_DrawRankHands.mono _ _
   | exact spec_DrawScoreOf.mono _ _
   | exact spec_DrawWaysOf.mono _ _
   | exact spec_RankHands.mono _ _
   | exact spec_WaysOf.mono _ _ _
   | exact LeO.none _
   | refine LeO.ite ?_ ?_
   | refine LeO.bind ?_ (fun _ => ?_)
  ·intro y0 y1 y2 y3 y4 y5
   unfold laws_FnWays.j2
   repeat' first
   | (with_reducible exact ih0 _ _ _ _ _ _ _ _)
   | (with_reducible exact ih1 _ _ _ _ _ _)
   | (with_reducible exact ih2 _)
   | (with_reducible exact ih3 _ _ _ _ _ _ _ _)
   | (with_reducible exact ih4 _ _ _ _ _ _ _ _ _ _ _)
   | (with_reducible exact ih5 _ _ _ _ _ _ _)
   | (with_reducible exact impl_GoodTallies.mono _ _)
   | (with_reducible exact impl_RankHands.mono _ _)
   | (with_reducible exact impl_WaysOf.mono _ _ _)
   | (with_reducible exact laws_has.mono _ _ _)
   | (with_reducible exact laws_sameInts.mono _ _ _)
   | (with_reducible exact laws_sameRows.mono _ _ _)
   | (with_reducible exact spec_DrawRankHands.mono _ _)
   | (with_reducible exact spec_DrawScoreOf.mono _ _)
   | (with_reducible exact spec_DrawWaysOf.mono _ _)
   | (with_reducible exact spec_RankHands.mono _ _)
   | (with_reducible exact spec_WaysOf.mono _ _ _)
   | (with_reducible exact LeO.refl _)
   | (with_reducible exact LeO.none _)
   | (with_reducible refine LeO.ite ?_ ?_)
   | (with_reducible refine LeO.bind ?_ (fun _ => ?_))
   | exact ih0 _ _ _ _ _ _ _ _
   | exact ih1 _ _ _ _ _ _
   | exact ih2 _
   | exact ih3 _ _ _ _ _ _ _ _
   | exact ih4 _ _ _ _ _ _ _ _ _ _ _
   | exact ih5 _ _ _ _ _ _ _
   | exact impl_GoodTallies.mono _ _
   | exact impl_RankHands.mono _ _
   | exact impl_WaysOf.mono _ _ _
   | exact laws_has.mono _ _ _
   | exact laws_sameInts.mono _ _ _
   | exact laws_sameRows.mono _ _ _
   | exact spec_DrawRankHands.mono _ _
   | exact spec_DrawScoreOf.mono _ _
   | exact spec_DrawWaysOf.mono _ _
   | exact spec_RankHands.mono _ _
   | exact spec_WaysOf.mono _ _ _
   | exact LeO.none _
   | refine LeO.ite ?_ ?_
   | refine LeO.bind ?_ (fun _ => ?_)
  ·intro y0
   unfold laws_FnWays.j5
   repeat' first
   | (with_reducible exact ih0 _ _ _ _ _ _ _ _)
   | (with_reducible exact ih1 _ _ _ _ _ _)
   | (with_reducible exact ih2 _)
   | (with_reducible exact ih3 _ _ _ _ _ _ _ _)
   | (with_reducible exact ih4 _ _ _ _ _ _ _ _ _ _ _)
   | (with_reducible exact ih5 _ _ _ _ _ _ _)
   | (with_reducible exact impl_GoodTallies.mono _ _)
   | (with_reducible exact impl_RankHands.mono _ _)
   | (with_reducible exact impl_WaysOf.mono _ _ _)
   | (with_reducible exact laws_has.mono _ _ _)
   | (with_reducible exact laws_sameInts.mono _ _ _)
   | (with_reducible exact laws_sameRows.mono _ _ _)
   | (with_reducible exact spec_DrawRankHands.mono _ _)
   | (with_reducible exact spec_DrawScoreOf.mono _ _)
   | (with_reducible exact spec_DrawWaysOf.mono _ _)
   | (with_reducible exact spec_RankHands.mono _ _)
   | (with_reducible exact spec_WaysOf.mono _ _ _)
   | (with_reducible exact LeO.refl _)
   | (with_reducible exact LeO.none _)
   | (with_reducible refine LeO.ite ?_ ?_)
   | (with_reducible refine LeO.bind ?_ (fun _ => ?_))
   | exact ih0 _ _ _ _ _ _ _ _
   | exact ih1 _ _ _ _ _ _
   | exact ih2 _
   | exact ih3 _ _ _ _ _ _ _ _
   | exact ih4 _ _ _ _ _ _ _ _ _ _ _
   | exact ih5 _ _ _ _ _ _ _
   | exact impl_GoodTallies.mono _ _
   | exact impl_RankHands.mono _ _
   | exact impl_WaysOf.mono _ _ _
   | exact laws_has.mono _ _ _
   | exact laws_sameInts.mono _ _ _
   | exact laws_sameRows.mono _ _ _
   | exact spec_DrawRankHands.mono _ _
   | exact spec_DrawScoreOf.mono _ _
   | exact spec_DrawWaysOf.mono _ _
   | exact spec_RankHands.mono _ _
   | exact spec_WaysOf.mono _ _ _
   | exact LeO.none _
   | refine LeO.ite ?_ ?_
   | refine LeO.bind ?_ (fun _ => ?_)
  ·intro y0 y1 y2 y3 y4 y5 y6 y7
   unfold laws_FnWays.l1
   repeat' first
   | (with_reducible exact ih0 _ _ _ _ _ _ _ _)
   | (with_reducible exact ih1 _ _ _ _ _ _)
   | (with_reducible exact ih2 _)
   | (with_reducible exact ih3 _ _ _ _ _ _ _ _)
   | (with_reducible exact ih4 _ _ _ _ _ _ _ _ _ _ _)
   | (with_reducible exact ih5 _ _ _ _ _ _ _)
   | (with_reducible exact impl_GoodTallies.mono _ _)
   | (with_reducible exact impl_RankHands.mono _ _)
   | (with_reducible exact impl_WaysOf.mono _ _ _)
   | (with_reducible exact laws_has.mono _ _ _)
   | (with_reducible exact laws_sameInts.mono _ _ _)
   | (with_reducible exact laws_sameRows.mono _ _ _)
   | (with_reducible exact spec_DrawRankHands.mono _ _)
   | (with_reducible exact spec_DrawScoreOf.mono _ _)
   | (with_reducible exact spec_DrawWaysOf.mono _ _)
   | (with_reducible exact spec_RankHands.mono _ _)
   | (with_reducible exact spec_WaysOf.mono _ _ _)
   | (with_reducible exact LeO.refl _)
   | (with_reducible exact LeO.none _)
   | (with_reducible refine LeO.ite ?_ ?_)
   | (with_reducible refine LeO.bind ?_ (fun _ => ?_))
   | exact ih0 _ _ _ _ _ _ _ _
   | exact ih1 _ _ _ _ _ _
   | exact ih2 _
   | exact ih3 _ _ _ _ _ _ _ _
   | exact ih4 _ _ _ _ _ _ _ _ _ _ _
   | exact ih5 _ _ _ _ _ _ _
   | exact impl_GoodTallies.mono _ _
   | exact impl_RankHands.mono _ _
   | exact impl_WaysOf.mono _ _ _
   | exact laws_has.mono _ _ _
   | exact laws_sameInts.mono _ _ _
   | exact laws_sameRows.mono _ _ _
   | exact spec_DrawRankHands.mono _ _
   | exact spec_DrawScoreOf.mono _ _
   | exact spec_DrawWaysOf.mono _ _
   | exact spec_RankHands.mono _ _
   | exact spec_WaysOf.mono _ _ _
   | exact LeO.none _
   | refine LeO.ite ?_ ?_
   | refine LeO.bind ?_ (fun _ => ?_)
  ·intro y0 y1 y2 y3 y4 y5 y6 y7 y8 y9 y10
   unfold laws_FnWays.l2
   repeat' first
   | (with_reducible exact ih0 _ _ _ _ _ _ _ _)
   | (with_reducible exact ih1 _ _ _ _ _ _)
   | (with_reducible exact ih2 _)
   | (with_reducible exact ih3 _ _ _ _ _ _ _ _)
   | (with_reducible exact ih4 _ _ _ _ _ _ _ _ _ _ _)
   | (with_reducible exact ih5 _ _ _ _ _ _ _)
   | (with_reducible exact impl_GoodTallies.mono _ _)
   | (with_reducible exact impl_RankHands.mono _ _)
   | (with_reducible exact impl_WaysOf.mono _ _ _)
   | (with_reducible exact laws_has.mono _ _ _)
   | (with_reducible exact laws_sameInts.mono _ _ _)
   | (with_reducible exact laws_sameRows.mono _ _ _)
   | (with_reducible exact spec_DrawRankHands.mono _ _)
   | (with_reducible exact spec_DrawScoreOf.mono _ _)
   | (with_reducible exact spec_DrawWaysOf.mono _ _)
   | (with_reducible exact spec_RankHands.mono _ _)
   | (with_reducible exact spec_WaysOf.mono _ _ _)
   | (with_reducible exact LeO.refl _)
   | (with_reducible exact LeO.none _)
   | (with_reducible refine LeO.ite ?_ ?_)
   | (with_reducible refine LeO.bind ?_ (fun _ => ?_))
   | exact ih0 _ _ _ _ _ _ _ _
   | exact ih1 _ _ _ _ _ _
   | exact ih2 _
   | exact ih3 _ _ _ _ _ _ _ _
   | exact ih4 _ _ _ _ _ _ _ _ _ _ _
   | exact ih5 _ _ _ _ _ _ _
   | exact impl_GoodTallies.mono _ _
   | exact impl_RankHands.mono _ _
   | exact impl_WaysOf.mono _ _ _
   | exact laws_has.mono _ _ _
   | exact laws_sameInts.mono _ _ _
   | exact laws_sameRows.mono _ _ _
   | exact spec_DrawRankHands.mono _ _
   | exact spec_DrawScoreOf.mono _ _
   | exact spec_DrawWaysOf.mono _ _
   | exact spec_RankHands.mono _ _
   | exact spec_WaysOf.mono _ _ _
   | exact LeO.none _
   | refine LeO.ite ?_ ?_
   | refine LeO.bind ?_ (fun _ => ?_)
  ·intro y0 y1 y2 y3 y4 y5 y6
   unfold laws_FnWays.l0
   repeat' first
   | (with_reducible exact ih0 _ _ _ _ _ _ _ _)
   | (with_reducible exact ih1 _ _ _ _ _ _)
   | (with_reducible exact ih2 _)
   | (with_reducible exact ih3 _ _ _ _ _ _ _ _)
   | (with_reducible exact ih4 _ _ _ _ _ _ _ _ _ _ _)
   | (with_reducible exact ih5 _ _ _ _ _ _ _)
   | (with_reducible exact impl_GoodTallies.mono _ _)
   | (with_reducible exact impl_RankHands.mono _ _)
   | (with_reducible exact impl_WaysOf.mono _ _ _)
   | (with_reducible exact laws_has.mono _ _ _)
   | (with_reducible exact laws_sameInts.mono _ _ _)
   | (with_reducible exact laws_sameRows.mono _ _ _)
   | (with_reducible exact spec_DrawRankHands.mono _ _)
   | (with_reducible exact spec_DrawScoreOf.mono _ _)
   | (with_reducible exact spec_DrawWaysOf.mono _ _)
   | (with_reducible exact spec_RankHands.mono _ _)
   | (with_reducible exact spec_WaysOf.mono _ _ _)
   | (with_reducible exact LeO.refl _)
   | (with_reducible exact LeO.none _)
   | (with_reducible refine LeO.ite ?_ ?_)
   | (with_reducible refine LeO.bind ?_ (fun _ => ?_))
   | exact ih0 _ _ _ _ _ _ _ _
   | exact ih1 _ _ _ _ _ _
   | exact ih2 _
   | exact ih3 _ _ _ _ _ _ _ _
   | exact ih4 _ _ _ _ _ _ _ _ _ _ _
   | exact ih5 _ _ _ _ _ _ _
   | exact impl_GoodTallies.mono _ _
   | exact impl_RankHands.mono _ _
   | exact impl_WaysOf.mono _ _ _
   | exact laws_has.mono _ _ _
   | exact laws_sameInts.mono _ _ _
   | exact laws_sameRows.mono _ _ _
   | exact spec_DrawRankHands.mono _ _
   | exact spec_DrawScoreOf.mono _ _
   | exact spec_DrawWaysOf.mono _ _
   | exact spec_RankHands.mono _ _
   | exact spec_WaysOf.mono _ _ _
   | exact LeO.none _
   | refine LeO.ite ?_ ?_
   | refine LeO.bind ?_ (fun _ => ?_)
theorem laws_FnWays.mono : ∀ a0 a1 k, LeO (laws_FnWays.f k a0 a1) (laws_FnWays.f (k + 1) a0 a1) := by
 intro a0 a1 k
 obtain ⟨ih0, ih1, ih2, ih3, ih4, ih5⟩ := laws_FnWays.mono_l k
 unfold laws_FnWays.f
 repeat' first
   | (with_reducible exact ih0 _ _ _ _ _ _ _ _)
   | (with_reducible exact ih1 _ _ _ _ _ _)
   | (with_reducible exact ih2 _)
   | (with_reducible exact ih3 _ _ _ _ _ _ _ _)
   | (with_reducible exact ih4 _ _ _ _ _ _ _ _ _ _ _)
   | (with_reducible exact ih5 _ _ _ _ _ _ _)
   | (with_reducible exact impl_GoodTallies.mono _ _)
   | (with_reducible exact impl_RankHands.mono _ _)
   | (with_reducible exact impl_WaysOf.mono _ _ _)
   | (with_reducible exact laws_has.mono _ _ _)
   | (with_reducible exact laws_sameInts.mono _ _ _)
   | (with_reducible exact laws_sameRows.mono _ _ _)
   | (with_reducible exact spec_DrawRankHands.mono _ _)
   | (with_reducible exact spec_DrawScoreOf.mono _ _)
   | (with_reducible exact spec_DrawWaysOf.mono _ _)
   | (with_reducible exact spec_RankHands.mono _ _)
   | (with_reducible exact spec_WaysOf.mono _ _ _)
   | (with_reducible exact LeO.refl _)
   | (with_reducible exact LeO.none _)
   | (with_reducible refine LeO.ite ?_ ?_)
   | (with_reducible refine LeO.bind ?_ (fun _ => ?_))
   | exact ih0 _ _ _ _ _ _ _ _
   | exact ih1 _ _ _ _ _ _
   | exact ih2 _
   | exact ih3 _ _ _ _ _ _ _ _
   | exact ih4 _ _ _ _ _ _ _ _ _ _ _
   | exact ih5 _ _ _ _ _ _ _
   | exact impl_GoodTallies.mono _ _
   | exact impl_RankHands.mono _ _
   | exact impl_WaysOf.mono _ _ _
   | exact laws_has.mono _ _ _
   | exact laws_sameInts.mono _ _ _
   | exact laws_sameRows.mono _ _ _
   | exact spec_DrawRankHands.mono _ _
   | exact spec_DrawScoreOf.mono _ _
   | exact spec_DrawWaysOf.mono _ _
   | exact spec_RankHands.mono _ _
   | exact spec_WaysOf.mono _ _ _
   | exact LeO.none _
   | refine LeO.ite ?_ ?_
   | refine LeO.bind ?_ (fun _ => ?_)
set_option maxHeartbeats 40000000 in
set_option maxRecDepth 100000 in
theorem laws_FnWays.calls (k : Nat) (A0 : Option Addr) (c0 : Nat) (l0 : List Int) (A1 : Option Addr) (c1 : Nat) (l1 : List Int) (r : Bool) (w : World) (hr0 : Kd.C (Kd.int .u8) w A0 l0.length l0) (hc0 : l0.length ≤ c0) (hr1 : Kd.C (Kd.int .u8) w A1 l1.length l1) (hc1 : l1.length ≤ c1) (h : laws_FnWays.f k l0 l1 = some r) (hr_ : r = true) :
  Calls Try.prog 10 #[.slice A0 l0.length c0, .slice A1 l1.length c1] w fun e w' => e = .returned (.bool r) ∧ Below w.heap.size w w' := by
 have hu68 := Try.underlying68
 have HR0 := Aside0.mk hr0
 have HC0 := Aside0.mk hc0
 clear hr0 hc0
 have HR1 := Aside0.mk hr1
 have HC1 := Aside0.mk hc1
 clear hr1 hc1
 have HB := Aside0.mk (Below.refl w.heap.size w)
 have H : (if (wrap64 ((l0.length : Int) + (l1.length : Int))) > 1048576 then (some true) else ((spec_DrawWaysOf.f k l0).bind fun bt353 => ((impl_WaysOf.f k bt353.1 bt353.2).bind fun bt357 => ((spec_WaysOf.f k bt353.1 bt353.2).bind fun bt361 => ((impl_RankHands.f k bt353.1).bind fun bt365 => ((spec_RankHands.f k bt353.1).bind fun bt369 => (if (bt357.2 != bt361.2) = true then (laws_FnWays.j0 k l1 bt353.1 bt353.2 bt357.1 bt357.2 bt365.1 bt365.2 true) else ((laws_sameRows.f k bt357.1 bt361.1).bind fun t373 => (if t373 = true then (if (bt365.2 != bt369.2) = true then (laws_FnWays.j0 k l1 bt353.1 bt353.2 bt357.1 bt357.2 bt365.1 bt365.2 true) else ((laws_sameInts.f k bt365.1 bt369.1).bind fun t374 => (if t374 = true then ((impl_GoodTallies.f k bt353.1).bind fun t375 => (laws_FnWays.j0 k l1 bt353.1 bt353.2 bt357.1 bt357.2 bt365.1 bt365.2 (t375 != bt365.2))) else (laws_FnWays.j0 k l1 bt353.1 bt353.2 bt357.1 bt357.2 bt365.1 bt365.2 true)))) else (laws_FnWays.j0 k l1 bt353.1 bt353.2 bt357.1 bt357.2 bt365.1 bt365.2 true)))))))))) = some r := h
 clear h
 by_cases c3 : (wrap64 ((l0.length : Int) + (l1.length : Int))) > 1048576
 ·rw [if_pos c3] at H
  have c3b0 : decide (1048576 < (wrap64 ((l0.length : Int) + (l1.length : Int)))) = true := decide_eq_true c3
  clear c3
  obtain rfl := Option.some.inj H
  go_enter Try.func10, Try.ntmps10
  go_wp2
  repeat (go_quiet (fail); try go_wp2)
  go_ret
  exact ⟨by first | rfl | (simp [errW_none, errW_some] <;> rfl) | (simp [*, errW_none, errW_some] <;> rfl), by repeat (first | (with_reducible first | exact HB.out | apply below_alloc | apply pw_below_drewN | apply below_drew1) | exact HB.out)⟩
 ·rw [if_neg c3] at H
  have c3b0 : decide (1048576 < (wrap64 ((l0.length : Int) + (l1.length : Int)))) = false := decide_eq_false c3
  clear c3
  replace H := Option.bind_eq_some_iff.mp H
  obtain ⟨⟨t353, t354⟩, A40, H⟩ := H
  replace H : ((impl_WaysOf.f k t353 t354).bind fun bt357 => ((spec_WaysOf.f k t353 t354).bind fun bt361 => ((impl_RankHands.f k t353).bind fun bt365 => ((spec_RankHands.f k t353).bind fun bt369 => (if (bt357.2 != bt361.2) = true then (laws_FnWays.j0 k l1 t353 t354 bt357.1 bt357.2 bt365.1 bt365.2 true) else ((laws_sameRows.f k bt357.1 bt361.1).bind fun t373 => (if t373 = true then (if (bt365.2 != bt369.2) = true then (laws_FnWays.j0 k l1 t353 t354 bt357.1 bt357.2 bt365.1 bt365.2 true) else ((laws_sameInts.f k bt365.1 bt369.1).bind fun t374 => (if t374 = true then ((impl_GoodTallies.f k t353).bind fun t375 => (laws_FnWays.j0 k l1 t353 t354 bt357.1 bt357.2 bt365.1 bt365.2 (t375 != bt365.2))) else (laws_FnWays.j0 k l1 t353 t354 bt357.1 bt357.2 bt365.1 bt365.2 true)))) else (laws_FnWays.j0 k l1 t353 t354 bt357.1 bt357.2 bt365.1 bt365.2 true)))))))) = some r := H
  have A4 := Aside0.mk A40
  clear A40
  replace H := Option.bind_eq_some_iff.mp H
  obtain ⟨⟨t357, t358⟩, A50, H⟩ := H
  replace H : ((spec_WaysOf.f k t353 t354).bind fun bt361 => ((impl_RankHands.f k t353).bind fun bt365 => ((spec_RankHands.f k t353).bind fun bt369 => (if (t358 != bt361.2) = true then (laws_FnWays.j0 k l1 t353 t354 t357 t358 bt365.1 bt365.2 true) else ((laws_sameRows.f k t357 bt361.1).bind fun t373 => (if t373 = true then (if (bt365.2 != bt369.2) = true then (laws_FnWays.j0 k l1 t353 t354 t357 t358 bt365.1 bt365.2 true) else ((laws_sameInts.f k bt365.1 bt369.1).bind fun t374 => (if t374 = true then ((impl_GoodTallies.f k t353).bind fun t375 => (laws_FnWays.j0 k l1 t353 t354 t357 t358 bt365.1 bt365.2 (t375 != bt365.2))) else (laws_FnWays.j0 k l1 t353 t354 t357 t358 bt365.1 bt365.2 true)))) else (laws_FnWays.j0 k l1 t353 t354 t357 t358 bt365.1 bt365.2 true))))))) = some r := H
  have A5 := Aside0.mk A50
  clear A50
  replace H := Option.bind_eq_some_iff.mp H
  obtain ⟨⟨t361, t362⟩, A60, H⟩ := H
  replace H : ((impl_RankHands.f k t353).bind fun bt365 => ((spec_RankHands.f k t353).bind fun bt369 => (if (t358 != t362) = true then (laws_FnWays.j0 k l1 t353 t354 t357 t358 bt365.1 bt365.2 true) else ((laws_sameRows.f k t357 t361).bind fun t373 => (if t373 = true then (if (bt365.2 != bt369.2) = true then (laws_FnWays.j0 k l1 t353 t354 t357 t358 bt365.1 bt365.2 true) else ((laws_sameInts.f k bt365.1 bt369.1).bind fun t374 => (if t374 = true then ((impl_GoodTallies.f k t353).bind fun t375 => (laws_FnWays.j0 k l1 t353 t354 t357 t358 bt365.1 bt365.2 (t375 != bt365.2))) else (laws_FnWays.j0 k l1 t353 t354 t357 t358 bt365.1 bt365.2 true)))) else (laws_FnWays.j0 k l1 t353 t354 t357 t358 bt365.1 bt365.2 true)))))) = some r := H
  have A6 := Aside0.mk A60
  clear A60
  replace H := Option.bind_eq_some_iff.mp H
  obtain ⟨⟨t365, t366⟩, A70, H⟩ := H
  replace H : ((spec_RankHands.f k t353).bind fun bt369 => (if (t358 != t362) = true then (laws_FnWays.j0 k l1 t353 t354 t357 t358 t365 t366 true) else ((laws_sameRows.f k t357 t361).bind fun t373 => (if t373 = true then (if (t366 != bt369.2) = true then (laws_FnWays.j0 k l1 t353 t354 t357 t358 t365 t366 true) else ((laws_sameInts.f k t365 bt369.1).bind fun t374 => (if t374 = true then ((impl_GoodTallies.f k t353).bind fun t375 => (laws_FnWays.j0 k l1 t353 t354 t357 t358 t365 t366 (t375 != t366))) else (laws_FnWays.j0 k l1 t353 t354 t357 t358 t365 t366 true)))) else (laws_FnWays.j0 k l1 t353 t354 t357 t358 t365 t366 true))))) = some r := H
  have A7 := Aside0.mk A70
  clear A70
  replace H := Option.bind_eq_some_iff.mp H
  obtain ⟨⟨t369, t370⟩, A80, H⟩ := H
  replace H : (if (t358 != t362) = true then (laws_FnWays.j0 k l1 t353 t354 t357 t358 t365 t366 true) else ((laws_sameRows.f k t357 t361).bind fun t373 => (if t373 = true then (if (t366 != t370) = true then (laws_FnWays.j0 k l1 t353 t354 t357 t358 t365 t366 true) else ((laws_sameInts.f k t365 t369).bind fun t374 => (if t374 = true then ((impl_GoodTallies.f k t353).bind fun t375 => (laws_FnWays.j0 k l1 t353 t354 t357 t358 t365 t366 (t375 != t366))) else (laws_FnWays.j0 k l1 t353 t354 t357 t358 t365 t366 true)))) else (laws_FnWays.j0 k l1 t353 t354 t357 t358 t365 t366 true)))) = some r := H
  have A8 := Aside0.mk A80
  clear A80
  have HC9 := Aside0.mk H
  clear H
  go_enter Try.func10, Try.ntmps10
  go_upto_region 8 with (first | (go_at_call 46; (with_reducible refine (spec_DrawWaysOf.calls k _ _ l0 t353 t354 _ ?side1 ?side2 A4.out).mono ?_); (case side1 => repeat (first | exact HR0.out | (with_reducible refine Kd.C_alloc ?_ _) | (with_reducible refine Kd.C_drewN ?_ _) | (with_reducible refine Kd.C_drew ?_))); (case side2 => exact HC0.out); rintro e w10 ⟨v355, rfl, ho0, hb⟩; have n0_ := Aside0.mk (Kd.R_lower ho0 (below_size (belowd HB))); have n1_ := Aside0.mk (below_step (belowd HB) hb); clear HB; have HO356 := n0_; have HB := n1_; clear n0_ n1_; (try clear hb); (try clear hb2); (try clear hk); (try clear hi); (try clear ho0); obtain ⟨Ao11, co11, eo11⟩ := Kd.R_slice HO356.out; subst eo11) | (go_at_call 45; (with_reducible refine (impl_WaysOf.calls k _ _ t353 t354 t357 t358 _ ?side1 ?side2 A5.out).mono ?_); (case side1 => repeat (first | exact (Kd.R_reads' HO356.out).2.2 | (with_reducible refine Kd.C_alloc ?_ _) | (with_reducible refine Kd.C_drewN ?_ _) | (with_reducible refine Kd.C_drew ?_))); (case side2 => exact (Kd.R_reads' HO356.out).2.1); rintro e w12 ⟨v359, rfl, ho0, hb⟩; have n0_ := Aside0.mk (Kd.R_below (by (with_reducible repeat (first | apply Kd.R_alloc | apply Kd.R_drewN | apply Kd.R_drew)); exact HO356.out) hb); have n1_ := Aside0.mk (Kd.S_lower ho0 (below_size (belowd HB))); have n2_ := Aside0.mk (below_step (belowd HB) hb); clear HO356; clear HB; have HO356 := n0_; have HO360 := n1_; have HB := n2_; clear n0_ n1_ n2_; (try clear hb); (try clear hb2); (try clear hk); (try clear hi); (try clear ho0)) | (go_at_call 44; (with_reducible refine (spec_WaysOf.calls k _ _ t353 t354 t361 t362 _ ?side1 ?side2 A6.out).mono ?_); (case side1 => repeat (first | exact (Kd.R_reads' HO356.out).2.2 | (with_reducible refine Kd.C_alloc ?_ _) | (with_reducible refine Kd.C_drewN ?_ _) | (with_reducible refine Kd.C_drew ?_))); (case side2 => exact (Kd.R_reads' HO356.out).2.1); rintro e w13 ⟨v363, rfl, ho0, hb⟩; obtain ⟨N14, eN14⟩ := below_num hb; have n0_ := Aside0.mk (Kd.R_below (by (with_reducible repeat (first | apply Kd.R_alloc | apply Kd.R_drewN | apply Kd.R_drew)); exact HO356.out) hb); have n1_ := Aside0.mk (Kd.S_elder' (S_ltN eN14 (by (with_reducible repeat (first | apply Kd.S_alloc | apply Kd.S_drewN | apply Kd.S_drew)); exact HO360.out)) (Kd.S_base ho0) hb); have n2_ := Aside0.mk (Kd.S_lower (Kd.S_new' (S_geN eN14 ho0) (Kd.S_lt (by (with_reducible repeat (first | apply Kd.S_alloc | apply Kd.S_drewN | apply Kd.S_drew)); exact HO360.out))) (below_size (belowd HB))); have n3_ := Aside0.mk (below_step (belowd HB) hb); clear HO356; clear HO360; clear HB; have HO356 := n0_; have HO360 := n1_; have HO364 := n2_; have HB := n3_; clear n0_ n1_ n2_ n3_; (try clear hb); (try clear hb2); (try clear hk); (try clear hi); (try clear ho0)) | (go_at_call 34; (with_reducible refine (impl_RankHands.calls k _ _ t353 t365 t366 _ ?side1 ?side2 A7.out).mono ?_); (case side1 => repeat (first | exact (Kd.R_reads' HO356.out).2.2 | (with_reducible refine Kd.C_alloc ?_ _) | (with_reducible refine Kd.C_drewN ?_ _) | (with_reducible refine Kd.C_drew ?_))); (case side2 => exact (Kd.R_reads' HO356.out).2.1); rintro e w15 ⟨v367, rfl, ho0, hb⟩; have n0_ := Aside0.mk (Kd.R_below (by (with_reducible repeat (first | apply Kd.R_alloc | apply Kd.R_drewN | apply Kd.R_drew)); exact HO356.out) hb); have n1_ := Aside0.mk (Kd.S_elder' (by (with_reducible repeat (first | apply Kd.S_alloc | apply Kd.S_drewN | apply Kd.S_drew)); exact HO360.out) (Kd.R_base ho0) hb); have n2_ := Aside0.mk (Kd.S_elder' (by (with_reducible repeat (first | apply Kd.S_alloc | apply Kd.S_drewN | apply Kd.S_drew)); exact HO364.out) (Kd.R_base ho0) hb); have n3_ := Aside0.mk (Kd.R_lower ho0 (below_size (belowd HB))); have n4_ := Aside0.mk (below_step (belowd HB) hb); clear HO356; clear HO360; clear HO364; clear HB; have HO356 := n0_; have HO360 := n1_; have HO364 := n2_; have HO368 := n3_; have HB := n4_; clear n0_ n1_ n2_ n3_ n4_; (try clear hb); (try clear hb2); (try clear hk); (try clear hi); (try clear ho0)) | (go_at_call 32; (with_reducible refine (spec_RankHands.calls k _ _ t353 t369 t370 _ ?side1 ?side2 A8.out).mono ?_); (case side1 => repeat (first | exact (Kd.R_reads' HO356.out).2.2 | (with_reducible refine Kd.C_alloc ?_ _) | (with_reducible refine Kd.C_drewN ?_ _) | (with_reducible refine Kd.C_drew ?_))); (case side2 => exact (Kd.R_reads' HO356.out).2.1); rintro e w16 ⟨v371, rfl, ho0, hb⟩; have n0_ := Aside0.mk (Kd.R_below (by (with_reducible repeat (first | apply Kd.R_alloc | apply Kd.R_drewN | apply Kd.R_drew)); exact HO356.out) hb); have n1_ := Aside0.mk (Kd.S_elder' (by (with_reducible repeat (first | apply Kd.S_alloc | apply Kd.S_drewN | apply Kd.S_drew)); exact HO360.out) (Kd.R_base ho0) hb); have n2_ := Aside0.mk (Kd.S_elder' (by (with_reducible repeat (first | apply Kd.S_alloc | apply Kd.S_drewN | apply Kd.S_drew)); exact HO364.out) (Kd.R_base ho0) hb); have n3_ := Aside0.mk (Kd.R_elder' (by (with_reducible repeat (first | apply Kd.R_alloc | apply Kd.R_drewN | apply Kd.R_drew)); exact HO368.out) (Kd.R_base ho0) hb); have n4_ := Aside0.mk (Kd.R_lower (Kd.R_new' ho0 (Kd.R_lt (by (with_reducible repeat (first | apply Kd.R_alloc | apply Kd.R_drewN | apply Kd.R_drew)); exact HO368.out))) (below_size (belowd HB))); have n5_ := Aside0.mk (below_step (belowd HB) hb); clear HO356; clear HO360; clear HO364; clear HO368; clear HB; have HO356 := n0_; have HO360 := n1_; have HO364 := n2_; have HO368 := n3_; have HO372 := n4_; have HB := n5_; clear n0_ n1_ n2_ n3_ n4_ n5_; (try clear hb); (try clear hb2); (try clear hk); (try clear hi); (try clear ho0)))
  repeat (go_quiet (first | (go_at_call 46; (with_reducible refine (spec_DrawWaysOf.calls k _ _ l0 t353 t354 _ ?side1 ?side2 A4.out).mono ?_); (case side1 => repeat (first | exact HR0.out | (with_reducible refine Kd.C_alloc ?_ _) | (with_reducible refine Kd.C_drewN ?_ _) | (with_reducible refine Kd.C_drew ?_))); (case side2 => exact HC0.out); rintro e w10 ⟨v355, rfl, ho0, hb⟩; have n0_ := Aside0.mk (Kd.R_lower ho0 (below_size (belowd HB))); have n1_ := Aside0.mk (below_step (belowd HB) hb); clear HB; have HO356 := n0_; have HB := n1_; clear n0_ n1_; (try clear hb); (try clear hb2); (try clear hk); (try clear hi); (try clear ho0); obtain ⟨Ao11, co11, eo11⟩ := Kd.R_slice HO356.out; subst eo11) | (go_at_call 45; (with_reducible refine (impl_WaysOf.calls k _ _ t353 t354 t357 t358 _ ?side1 ?side2 A5.out).mono ?_); (case side1 => repeat (first | exact (Kd.R_reads' HO356.out).2.2 | (with_reducible refine Kd.C_alloc ?_ _) | (with_reducible refine Kd.C_drewN ?_ _) | (with_reducible refine Kd.C_drew ?_))); (case side2 => exact (Kd.R_reads' HO356.out).2.1); rintro e w12 ⟨v359, rfl, ho0, hb⟩; have n0_ := Aside0.mk (Kd.R_below (by (with_reducible repeat (first | apply Kd.R_alloc | apply Kd.R_drewN | apply Kd.R_drew)); exact HO356.out) hb); have n1_ := Aside0.mk (Kd.S_lower ho0 (below_size (belowd HB))); have n2_ := Aside0.mk (below_step (belowd HB) hb); clear HO356; clear HB; have HO356 := n0_; have HO360 := n1_; have HB := n2_; clear n0_ n1_ n2_; (try clear hb); (try clear hb2); (try clear hk); (try clear hi); (try clear ho0)) | (go_at_call 44; (with_reducible refine (spec_WaysOf.calls k _ _ t353 t354 t361 t362 _ ?side1 ?side2 A6.out).mono ?_); (case side1 => repeat (first | exact (Kd.R_reads' HO356.out).2.2 | (with_reducible refine Kd.C_alloc ?_ _) | (with_reducible refine Kd.C_drewN ?_ _) | (with_reducible refine Kd.C_drew ?_))); (case side2 => exact (Kd.R_reads' HO356.out).2.1); rintro e w13 ⟨v363, rfl, ho0, hb⟩; obtain ⟨N14, eN14⟩ := below_num hb; have n0_ := Aside0.mk (Kd.R_below (by (with_reducible repeat (first | apply Kd.R_alloc | apply Kd.R_drewN | apply Kd.R_drew)); exact HO356.out) hb); have n1_ := Aside0.mk (Kd.S_elder' (S_ltN eN14 (by (with_reducible repeat (first | apply Kd.S_alloc | apply Kd.S_drewN | apply Kd.S_drew)); exact HO360.out)) (Kd.S_base ho0) hb); have n2_ := Aside0.mk (Kd.S_lower (Kd.S_new' (S_geN eN14 ho0) (Kd.S_lt (by (with_reducible repeat (first | apply Kd.S_alloc | apply Kd.S_drewN | apply Kd.S_drew)); exact HO360.out))) (below_size (belowd HB))); have n3_ := Aside0.mk (below_step (belowd HB) hb); clear HO356; clear HO360; clear HB; have HO356 := n0_; have HO360 := n1_; have HO364 := n2_; have HB := n3_; clear n0_ n1_ n2_ n3_; (try clear hb); (try clear hb2); (try clear hk); (try clear hi); (try clear ho0)) | (go_at_call 34; (with_reducible refine (impl_RankHands.calls k _ _ t353 t365 t366 _ ?side1 ?side2 A7.out).mono ?_); (case side1 => repeat (first | exact (Kd.R_reads' HO356.out).2.2 | (with_reducible refine Kd.C_alloc ?_ _) | (with_reducible refine Kd.C_drewN ?_ _) | (with_reducible refine Kd.C_drew ?_))); (case side2 => exact (Kd.R_reads' HO356.out).2.1); rintro e w15 ⟨v367, rfl, ho0, hb⟩; have n0_ := Aside0.mk (Kd.R_below (by (with_reducible repeat (first | apply Kd.R_alloc | apply Kd.R_drewN | apply Kd.R_drew)); exact HO356.out) hb); have n1_ := Aside0.mk (Kd.S_elder' (by (with_reducible repeat (first | apply Kd.S_alloc | apply Kd.S_drewN | apply Kd.S_drew)); exact HO360.out) (Kd.R_base ho0) hb); have n2_ := Aside0.mk (Kd.S_elder' (by (with_reducible repeat (first | apply Kd.S_alloc | apply Kd.S_drewN | apply Kd.S_drew)); exact HO364.out) (Kd.R_base ho0) hb); have n3_ := Aside0.mk (Kd.R_lower ho0 (below_size (belowd HB))); have n4_ := Aside0.mk (below_step (belowd HB) hb); clear HO356; clear HO360; clear HO364; clear HB; have HO356 := n0_; have HO360 := n1_; have HO364 := n2_; have HO368 := n3_; have HB := n4_; clear n0_ n1_ n2_ n3_ n4_; (try clear hb); (try clear hb2); (try clear hk); (try clear hi); (try clear ho0)) | (go_at_call 32; (with_reducible refine (spec_RankHands.calls k _ _ t353 t369 t370 _ ?side1 ?side2 A8.out).mono ?_); (case side1 => repeat (first | exact (Kd.R_reads' HO356.out).2.2 | (with_reducible refine Kd.C_alloc ?_ _) | (with_reducible refine Kd.C_drewN ?_ _) | (with_reducible refine Kd.C_drew ?_))); (case side2 => exact (Kd.R_reads' HO356.out).2.1); rintro e w16 ⟨v371, rfl, ho0, hb⟩; have n0_ := Aside0.mk (Kd.R_below (by (with_reducible repeat (first | apply Kd.R_alloc | apply Kd.R_drewN | apply Kd.R_drew)); exact HO356.out) hb); have n1_ := Aside0.mk (Kd.S_elder' (by (with_reducible repeat (first | apply Kd.S_alloc | apply Kd.S_drewN | apply Kd.S_drew)); exact HO360.out) (Kd.R_base ho0) hb); have n2_ := Aside0.mk (Kd.S_elder' (by (with_reducible repeat (first | apply Kd.S_alloc | apply Kd.S_drewN | apply Kd.S_drew)); exact HO364.out) (Kd.R_base ho0) hb); have n3_ := Aside0.mk (Kd.R_elder' (by (with_reducible repeat (first | apply Kd.R_alloc | apply Kd.R_drewN | apply Kd.R_drew)); exact HO368.out) (Kd.R_base ho0) hb); have n4_ := Aside0.mk (Kd.R_lower (Kd.R_new' ho0 (Kd.R_lt (by (with_reducible repeat (first | apply Kd.R_alloc | apply Kd.R_drewN | apply Kd.R_drew)); exact HO368.out))) (below_size (belowd HB))); have n5_ := Aside0.mk (below_step (belowd HB) hb); clear HO356; clear HO360; clear HO364; clear HO368; clear HB; have HO356 := n0_; have HO360 := n1_; have HO364 := n2_; have HO368 := n3_; have HO372 := n4_; have HB := n5_; clear n0_ n1_ n2_ n3_ n4_ n5_; (try clear hb); (try clear hb2); (try clear hk); (try clear hi); (try clear ho0))); go_upto_region 8 with (first | (go_at_call 46; (with_reducible refine (spec_DrawWaysOf.calls k _ _ l0 t353 t354 _ ?side1 ?side2 A4.out).mono ?_); (case side1 => repeat (first | exact HR0.out | (with_reducible refine Kd.C_alloc ?_ _) | (with_reducible refine Kd.C_drewN ?_ _) | (with_reducible refine Kd.C_drew ?_))); (case side2 => exact HC0.out); rintro e w10 ⟨v355, rfl, ho0, hb⟩; have n0_ := Aside0.mk (Kd.R_lower ho0 (below_size (belowd HB))); have n1_ := Aside0.mk (below_step (belowd HB) hb); clear HB; have HO356 := n0_; have HB := n1_; clear n0_ n1_; (try clear hb); (try clear hb2); (try clear hk); (try clear hi); (try clear ho0); obtain ⟨Ao11, co11, eo11⟩ := Kd.R_slice HO356.out; subst eo11) | (go_at_call 45; (with_reducible refine (impl_WaysOf.calls k _ _ t353 t354 t357 t358 _ ?side1 ?side2 A5.out).mono ?_); (case side1 => repeat (first | exact (Kd.R_reads' HO356.out).2.2 | (with_reducible refine Kd.C_alloc ?_ _) | (with_reducible refine Kd.C_drewN ?_ _) | (with_reducible refine Kd.C_drew ?_))); (case side2 => exact (Kd.R_reads' HO356.out).2.1); rintro e w12 ⟨v359, rfl, ho0, hb⟩; have n0_ := Aside0.mk (Kd.R_below (by (with_reducible repeat (first | apply Kd.R_alloc | apply Kd.R_drewN | apply Kd.R_drew)); exact HO356.out) hb); have n1_ := Aside0.mk (Kd.S_lower ho0 (below_size (belowd HB))); have n2_ := Aside0.mk (below_step (belowd HB) hb); clear HO356; clear HB; have HO356 := n0_; have HO360 := n1_; have HB := n2_; clear n0_ n1_ n2_; (try clear hb); (try clear hb2); (try clear hk); (try clear hi); (try clear ho0)) | (go_at_call 44; (with_reducible refine (spec_WaysOf.calls k _ _ t353 t354 t361 t362 _ ?side1 ?side2 A6.out).mono ?_); (case side1 => repeat (first | exact (Kd.R_reads' HO356.out).2.2 | (with_reducible refine Kd.C_alloc ?_ _) | (with_reducible refine Kd.C_drewN ?_ _) | (with_reducible refine Kd.C_drew ?_))); (case side2 => exact (Kd.R_reads' HO356.out).2.1); rintro e w13 ⟨v363, rfl, ho0, hb⟩; obtain ⟨N14, eN14⟩ := below_num hb; have n0_ := Aside0.mk (Kd.R_below (by (with_reducible repeat (first | apply Kd.R_alloc | apply Kd.R_drewN | apply Kd.R_drew)); exact HO356.out) hb); have n1_ := Aside0.mk (Kd.S_elder' (S_ltN eN14 (by (with_reducible repeat (first | apply Kd.S_alloc | apply Kd.S_drewN | apply Kd.S_drew)); exact HO360.out)) (Kd.S_base ho0) hb); have n2_ := Aside0.mk (Kd.S_lower (Kd.S_new' (S_geN eN14 ho0) (Kd.S_lt (by (with_reducible repeat (first | apply Kd.S_alloc | apply Kd.S_drewN | apply Kd.S_drew)); exact HO360.out))) (below_size (belowd HB))); have n3_ := Aside0.mk (below_step (belowd HB) hb); clear HO356; clear HO360; clear HB; have HO356 := n0_; have HO360 := n1_; have HO364 := n2_; have HB := n3_; clear n0_ n1_ n2_ n3_; (try clear hb); (try clear hb2); (try clear hk); (try clear hi); (try clear ho0)) | (go_at_call 34; (with_reducible refine (impl_RankHands.calls k _ _ t353 t365 t366 _ ?side1 ?side2 A7.out).mono ?_); (case side1 => repeat (first | exact (Kd.R_reads' HO356.out).2.2 | (with_reducible refine Kd.C_alloc ?_ _) | (with_reducible refine Kd.C_drewN ?_ _) | (with_reducible refine Kd.C_drew ?_))); (case side2 => exact (Kd.R_reads' HO356.out).2.1); rintro e w15 ⟨v367, rfl, ho0, hb⟩; have n0_ := Aside0.mk (Kd.R_below (by (with_reducible repeat (first | apply Kd.R_alloc | apply Kd.R_drewN | apply Kd.R_drew)); exact HO356.out) hb); have n1_ := Aside0.mk (Kd.S_elder' (by (with_reducible repeat (first | apply Kd.S_alloc | apply Kd.S_drewN | apply Kd.S_drew)); exact HO360.out) (Kd.R_base ho0) hb); have n2_ := Aside0.mk (Kd.S_elder' (by (with_reducible repeat (first | apply Kd.S_alloc | apply Kd.S_drewN | apply Kd.S_drew)); exact HO364.out) (Kd.R_base ho0) hb); have n3_ := Aside0.mk (Kd.R_lower ho0 (below_size (belowd HB))); have n4_ := Aside0.mk (below_step (belowd HB) hb); clear HO356; clear HO360; clear HO364; clear HB; have HO356 := n0_; have HO360 := n1_; have HO364 := n2_; have HO368 := n3_; have HB := n4_; clear n0_ n1_ n2_ n3_ n4_; (try clear hb); (try clear hb2); (try clear hk); (try clear hi); (try clear ho0)) | (go_at_call 32; (with_reducible refine (spec_RankHands.calls k _ _ t353 t369 t370 _ ?side1 ?side2 A8.out).mono ?_); (case side1 => repeat (first | exact (Kd.R_reads' HO356.out).2.2 | (with_reducible refine Kd.C_alloc ?_ _) | (with_reducible refine Kd.C_drewN ?_ _) | (with_reducible refine Kd.C_drew ?_))); (case side2 => exact (Kd.R_reads' HO356.out).2.1); rintro e w16 ⟨v371, rfl, ho0, hb⟩; have n0_ := Aside0.mk (Kd.R_below (by (with_reducible repeat (first | apply Kd.R_alloc | apply Kd.R_drewN | apply Kd.R_drew)); exact HO356.out) hb); have n1_ := Aside0.mk (Kd.S_elder' (by (with_reducible repeat (first | apply Kd.S_alloc | apply Kd.S_drewN | apply Kd.S_drew)); exact HO360.out) (Kd.R_base ho0) hb); have n2_ := Aside0.mk (Kd.S_elder' (by (with_reducible repeat (first | apply Kd.S_alloc | apply Kd.S_drewN | apply Kd.S_drew)); exact HO364.out) (Kd.R_base ho0) hb); have n3_ := Aside0.mk (Kd.R_elder' (by (with_reducible repeat (first | apply Kd.R_alloc | apply Kd.R_drewN | apply Kd.R_drew)); exact HO368.out) (Kd.R_base ho0) hb); have n4_ := Aside0.mk (Kd.R_lower (Kd.R_new' ho0 (Kd.R_lt (by (with_reducible repeat (first | apply Kd.R_alloc | apply Kd.R_drewN | apply Kd.R_drew)); exact HO368.out))) (below_size (belowd HB))); have n5_ := Aside0.mk (below_step (belowd HB) hb); clear HO356; clear HO360; clear HO364; clear HO368; clear HB; have HO356 := n0_; have HO360 := n1_; have HO364 := n2_; have HO368 := n3_; have HO372 := n4_; have HB := n5_; clear n0_ n1_ n2_ n3_ n4_ n5_; (try clear hb); (try clear hb2); (try clear hk); (try clear hi); (try clear ho0))))
  (try simp only [Act.put, List.setIfInBounds_toArray, List.set_cons_zero, List.set_cons_succ])
  go_cut [93] (fun v93 wc => ∃ (kq : Nat) (x93_8 : Bool), v93 = .bool x93_8 ∧ Aside0 (laws_FnWays.j0 kq l1 t353 t354 t357 t358 t365 t366 x93_8 = some r) ∧ Aside0 (kq ≤ k) ∧ Aside0 (Kd.R k68 68 wc w.heap.size (fun _ => True) (.slice Ao11 t353.length co11) t353) ∧ Aside0 (Kd.S (Kd.slice 3 (Kd.int .i64)) 22 wc w.heap.size (fun k_ => some k_ ≠ (v367 : Value).ownBlock ∧ k_ < N14) v359 t357) ∧ Aside0 (Kd.R (Kd.int .i64) 3 wc w.heap.size (fun _ => True) v367 t365) ∧ Aside0 (Below w.heap.size w wc))
  case first => as_aux_lemma =>
   have H := HC9.out
   clear HC9
   by_cases c17 : (t358 != t362) = true
   ·rw [if_pos c17] at H
    have c17b0 : (t358 != t362) = true := c17
    (try (have c17b1 : decide (t358 = t362) = false := by simpa using c17))
    (try (have c17b2 : (t358 == t362) = false := by simpa using c17))
    (try (have c17b3 : ¬ (t358 = t362) := by simpa using c17))
    clear c17
    (first | rw [c17b0] | (simp only [i64_w, i32_w]; rw [c17b0]) | skip)
    have H' := Aside0.mk H
    clear H
    go_wp2
    repeat (go_quiet (fail); try go_wp2)
    go_meet
    case rel => exact ⟨_, (true), (by first | rfl | (simp; done) | (simp [*]; done)), H', ⟨by first | omega | exact Nat.le_refl _⟩, ⟨by (with_reducible repeat (first | apply Kd.R_alloc | apply Kd.R_drewN | apply Kd.R_drew)); exact HO356.out⟩, ⟨by (with_reducible repeat (first | apply Kd.S_alloc | apply Kd.S_drewN | apply Kd.S_drew)); exact Kd.S_mono HO360.out (fun _ hk => ⟨hk.1.2, hk.1.1.1.2⟩)⟩, ⟨by (with_reducible repeat (first | apply Kd.R_alloc | apply Kd.R_drewN | apply Kd.R_drew)); exact Kd.R_mono HO368.out (fun _ hk => trivial)⟩, ⟨by repeat (first | (with_reducible first | exact HB.out | apply below_alloc | apply pw_below_drewN | apply below_drew1) | exact HB.out)⟩⟩
   ·rw [if_neg c17] at H
    have c17b0 : (t358 != t362) = false := by simpa using c17
    (try (have c17b1 : decide (t358 = t362) = true := by simpa using c17))
    (try (have c17b2 : (t358 == t362) = true := by simpa using c17))
    clear c17
    (first | rw [c17b0] | (simp only [i64_w, i32_w]; rw [c17b0]) | skip)
    replace H := Option.bind_eq_some_iff.mp H
    obtain ⟨t373, A180, H⟩ := H
    replace H : (if t373 = true then (if (t366 != t370) = true then (laws_FnWays.j0 k l1 t353 t354 t357 t358 t365 t366 true) else ((laws_sameInts.f k t365 t369).bind fun t374 => (if t374 = true then ((impl_GoodTallies.f k t353).bind fun t375 => (laws_FnWays.j0 k l1 t353 t354 t357 t358 t365 t366 (t375 != t366))) else (laws_FnWays.j0 k l1 t353 t354 t357 t358 t365 t366 true)))) else (laws_FnWays.j0 k l1 t353 t354 t357 t358 t365 t366 true)) = some r := H
    have A18 := Aside0.mk A180
    clear A180
    by_cases c19 : t373 = true
    ·subst c19
     have H1 : (if (t366 != t370) = true then (laws_FnWays.j0 k l1 t353 t354 t357 t358 t365 t366 true) else ((laws_sameInts.f k t365 t369).bind fun t374 => (if t374 = true then ((impl_GoodTallies.f k t353).bind fun t375 => (laws_FnWays.j0 k l1 t353 t354 t357 t358 t365 t366 (t375 != t366))) else (laws_FnWays.j0 k l1 t353 t354 t357 t358 t365 t366 true)))) = some r := by rw [if_pos rfl] at H; exact H
     clear H
     have H := H1
     clear H1
     by_cases c20 : (t366 != t370) = true
     ·rw [if_pos c20] at H
      have c20b0 : (t366 != t370) = true := c20
      (try (have c20b1 : decide (t366 = t370) = false := by simpa using c20))
      (try (have c20b2 : (t366 == t370) = false := by simpa using c20))
      (try (have c20b3 : ¬ (t366 = t370) := by simpa using c20))
      clear c20
      have H' := Aside0.mk H
      clear H
      obtain ⟨Ao21, co21, eo21⟩ := Kd.S_slice HO360.out
      subst eo21
      obtain ⟨Ao22, co22, eo22⟩ := Kd.S_slice HO364.out
      subst eo22
      go_wp2_with (first | (go_at_call 47; (with_reducible refine (laws_sameRows.calls k _ _ t357 _ _ t361 true _ ?side1 ?side2 ?side3 ?side4 A18.out).mono ?_); (case side1 => repeat (first | exact (Kd.S_reads' HO360.out).2.2 | (with_reducible refine Kd.C_alloc ?_ _) | (with_reducible refine Kd.C_drewN ?_ _) | (with_reducible refine Kd.C_drew ?_))); (case side2 => exact (Kd.S_reads' HO360.out).2.1); (case side3 => repeat (first | exact (Kd.S_reads' HO364.out).2.2 | (with_reducible refine Kd.C_alloc ?_ _) | (with_reducible refine Kd.C_drewN ?_ _) | (with_reducible refine Kd.C_drew ?_))); (case side4 => exact (Kd.S_reads' HO364.out).2.1); rintro e w' ⟨rfl, ⟨nd, rfl⟩⟩; (try first | exact ⟨rfl, _, World.drewN_drewN _ _ _⟩ | exact ⟨rfl, _, Eq.trans (World.drewN_drewN _ _ _) (congrArg (World.drewN _) (Nat.add_assoc _ _ _))⟩)))
      repeat (go_quiet (first | (go_at_call 47; (with_reducible refine (laws_sameRows.calls k _ _ t357 _ _ t361 true _ ?side1 ?side2 ?side3 ?side4 A18.out).mono ?_); (case side1 => repeat (first | exact (Kd.S_reads' HO360.out).2.2 | (with_reducible refine Kd.C_alloc ?_ _) | (with_reducible refine Kd.C_drewN ?_ _) | (with_reducible refine Kd.C_drew ?_))); (case side2 => exact (Kd.S_reads' HO360.out).2.1); (case side3 => repeat (first | exact (Kd.S_reads' HO364.out).2.2 | (with_reducible refine Kd.C_alloc ?_ _) | (with_reducible refine Kd.C_drewN ?_ _) | (with_reducible refine Kd.C_drew ?_))); (case side4 => exact (Kd.S_reads' HO364.out).2.1); rintro e w' ⟨rfl, ⟨nd, rfl⟩⟩; (try first | exact ⟨rfl, _, World.drewN_drewN _ _ _⟩ | exact ⟨rfl, _, Eq.trans (World.drewN_drewN _ _ _) (congrArg (World.drewN _) (Nat.add_assoc _ _ _))⟩))); try go_wp2_with (first | (go_at_call 47; (with_reducible refine (laws_sameRows.calls k _ _ t357 _ _ t361 true _ ?side1 ?side2 ?side3 ?side4 A18.out).mono ?_); (case side1 => repeat (first | exact (Kd.S_reads' HO360.out).2.2 | (with_reducible refine Kd.C_alloc ?_ _) | (with_reducible refine Kd.C_drewN ?_ _) | (with_reducible refine Kd.C_drew ?_))); (case side2 => exact (Kd.S_reads' HO360.out).2.1); (case side3 => repeat (first | exact (Kd.S_reads' HO364.out).2.2 | (with_reducible refine Kd.C_alloc ?_ _) | (with_reducible refine Kd.C_drewN ?_ _) | (with_reducible refine Kd.C_drew ?_))); (case side4 => exact (Kd.S_reads' HO364.out).2.1); rintro e w' ⟨rfl, ⟨nd, rfl⟩⟩; (try first | exact ⟨rfl, _, World.drewN_drewN _ _ _⟩ | exact ⟨rfl, _, Eq.trans (World.drewN_drewN _ _ _) (congrArg (World.drewN _) (Nat.add_assoc _ _ _))⟩))))
      go_meet
      case rel => exact ⟨_, (true), (by first | rfl | (simp; done) | (simp [*]; done)), H', ⟨by first | omega | exact Nat.le_refl _⟩, ⟨by (with_reducible repeat (first | apply Kd.R_alloc | apply Kd.R_drewN | apply Kd.R_drew)); exact HO356.out⟩, ⟨by (with_reducible repeat (first | apply Kd.S_alloc | apply Kd.S_drewN | apply Kd.S_drew)); exact Kd.S_mono HO360.out (fun _ hk => ⟨hk.1.2, hk.1.1.1.2⟩)⟩, ⟨by (with_reducible repeat (first | apply Kd.R_alloc | apply Kd.R_drewN | apply Kd.R_drew)); exact Kd.R_mono HO368.out (fun _ hk => trivial)⟩, ⟨by repeat (first | (with_reducible first | exact HB.out | apply below_alloc | apply pw_below_drewN | apply below_drew1) | exact HB.out)⟩⟩
     ·rw [if_neg c20] at H
      have c20b0 : (t366 != t370) = false := by simpa using c20
      (try (have c20b1 : decide (t366 = t370) = true := by simpa using c20))
      (try (have c20b2 : (t366 == t370) = true := by simpa using c20))
      clear c20
      replace H := Option.bind_eq_some_iff.mp H
      obtain ⟨t374, A230, H⟩ := H
      replace H : (if t374 = true then ((impl_GoodTallies.f k t353).bind fun t375 => (laws_FnWays.j0 k l1 t353 t354 t357 t358 t365 t366 (t375 != t366))) else (laws_FnWays.j0 k l1 t353 t354 t357 t358 t365 t366 true)) = some r := H
      have A23 := Aside0.mk A230
      clear A230
      by_cases c24 : t374 = true
      ·subst c24
       have H1 : ((impl_GoodTallies.f k t353).bind fun t375 => (laws_FnWays.j0 k l1 t353 t354 t357 t358 t365 t366 (t375 != t366))) = some r := by rw [if_pos rfl] at H; exact H
       clear H
       have H := H1
       clear H1
       replace H := Option.bind_eq_some_iff.mp H
       obtain ⟨t375, A250, H⟩ := H
       replace H : (laws_FnWays.j0 k l1 t353 t354 t357 t358 t365 t366 (t375 != t366)) = some r := H
       have A25 := Aside0.mk A250
       clear A250
       have H' := Aside0.mk H
       clear H
       obtain ⟨Ao26, co26, eo26⟩ := Kd.S_slice HO360.out
       subst eo26
       obtain ⟨Ao27, co27, eo27⟩ := Kd.S_slice HO364.out
       subst eo27
       go_wp2_with (first | (go_at_call 47; (with_reducible refine (laws_sameRows.calls k _ _ t357 _ _ t361 true _ ?side1 ?side2 ?side3 ?side4 A18.out).mono ?_); (case side1 => repeat (first | exact (Kd.S_reads' HO360.out).2.2 | (with_reducible refine Kd.C_alloc ?_ _) | (with_reducible refine Kd.C_drewN ?_ _) | (with_reducible refine Kd.C_drew ?_))); (case side2 => exact (Kd.S_reads' HO360.out).2.1); (case side3 => repeat (first | exact (Kd.S_reads' HO364.out).2.2 | (with_reducible refine Kd.C_alloc ?_ _) | (with_reducible refine Kd.C_drewN ?_ _) | (with_reducible refine Kd.C_drew ?_))); (case side4 => exact (Kd.S_reads' HO364.out).2.1); rintro e w' ⟨rfl, ⟨nd, rfl⟩⟩; (try first | exact ⟨rfl, _, World.drewN_drewN _ _ _⟩ | exact ⟨rfl, _, Eq.trans (World.drewN_drewN _ _ _) (congrArg (World.drewN _) (Nat.add_assoc _ _ _))⟩); obtain ⟨Ao28, co28, eo28⟩ := Kd.R_slice HO368.out; subst eo28; obtain ⟨Ao29, co29, eo29⟩ := Kd.R_slice HO372.out; subst eo29) | (go_at_call 48; (with_reducible refine (laws_sameInts.calls k _ _ t365 _ _ t369 true _ ?side1 ?side2 ?side3 ?side4 A23.out).mono ?_); (case side1 => repeat (first | exact (Kd.R_reads' HO368.out).2.2 | (with_reducible refine Kd.C_alloc ?_ _) | (with_reducible refine Kd.C_drewN ?_ _) | (with_reducible refine Kd.C_drew ?_))); (case side2 => exact (Kd.R_reads' HO368.out).2.1); (case side3 => repeat (first | exact (Kd.R_reads' HO372.out).2.2 | (with_reducible refine Kd.C_alloc ?_ _) | (with_reducible refine Kd.C_drewN ?_ _) | (with_reducible refine Kd.C_drew ?_))); (case side4 => exact (Kd.R_reads' HO372.out).2.1); rintro e w' ⟨rfl, ⟨nd, rfl⟩⟩; (try first | exact ⟨rfl, _, World.drewN_drewN _ _ _⟩ | exact ⟨rfl, _, Eq.trans (World.drewN_drewN _ _ _) (congrArg (World.drewN _) (Nat.add_assoc _ _ _))⟩)) | (go_at_call 49; (with_reducible refine (impl_GoodTallies.calls k _ _ t353 t375 _ ?side1 ?side2 A25.out).mono ?_); (case side1 => repeat (first | exact (Kd.R_reads' HO356.out).2.2 | (with_reducible refine Kd.C_alloc ?_ _) | (with_reducible refine Kd.C_drewN ?_ _) | (with_reducible refine Kd.C_drew ?_))); (case side2 => exact (Kd.R_reads' HO356.out).2.1); rintro e w30 ⟨rfl, hb⟩; have n0_ := Aside0.mk (Kd.R_below (by (with_reducible repeat (first | apply Kd.R_alloc | apply Kd.R_drewN | apply Kd.R_drew)); exact HO356.out) hb); have n1_ := Aside0.mk (Kd.S_below (by (with_reducible repeat (first | apply Kd.S_alloc | apply Kd.S_drewN | apply Kd.S_drew)); exact HO360.out) hb); have n2_ := Aside0.mk (Kd.S_below (by (with_reducible repeat (first | apply Kd.S_alloc | apply Kd.S_drewN | apply Kd.S_drew)); exact HO364.out) hb); have n3_ := Aside0.mk (Kd.R_below (by (with_reducible repeat (first | apply Kd.R_alloc | apply Kd.R_drewN | apply Kd.R_drew)); exact HO368.out) hb); have n4_ := Aside0.mk (Kd.R_below (by (with_reducible repeat (first | apply Kd.R_alloc | apply Kd.R_drewN | apply Kd.R_drew)); exact HO372.out) hb); have n5_ := Aside0.mk (below_step (belowd HB) hb); clear HO356; clear HO360; clear HO364; clear HO368; clear HO372; clear HB; have HO356 := n0_; have HO360 := n1_; have HO364 := n2_; have HO368 := n3_; have HO372 := n4_; have HB := n5_; clear n0_ n1_ n2_ n3_ n4_ n5_; (try clear hb); (try clear hb2); (try clear hk); (try clear hi)))
       repeat (go_quiet (first | (go_at_call 47; (with_reducible refine (laws_sameRows.calls k _ _ t357 _ _ t361 true _ ?side1 ?side2 ?side3 ?side4 A18.out).mono ?_); (case side1 => repeat (first | exact (Kd.S_reads' HO360.out).2.2 | (with_reducible refine Kd.C_alloc ?_ _) | (with_reducible refine Kd.C_drewN ?_ _) | (with_reducible refine Kd.C_drew ?_))); (case side2 => exact (Kd.S_reads' HO360.out).2.1); (case side3 => repeat (first | exact (Kd.S_reads' HO364.out).2.2 | (with_reducible refine Kd.C_alloc ?_ _) | (with_reducible refine Kd.C_drewN ?_ _) | (with_reducible refine Kd.C_drew ?_))); (case side4 => exact (Kd.S_reads' HO364.out).2.1); rintro e w' ⟨rfl, ⟨nd, rfl⟩⟩; (try first | exact ⟨rfl, _, World.drewN_drewN _ _ _⟩ | exact ⟨rfl, _, Eq.trans (World.drewN_drewN _ _ _) (congrArg (World.drewN _) (Nat.add_assoc _ _ _))⟩); obtain ⟨Ao28, co28, eo28⟩ := Kd.R_slice HO368.out; subst eo28; obtain ⟨Ao29, co29, eo29⟩ := Kd.R_slice HO372.out; subst eo29) | (go_at_call 48; (with_reducible refine (laws_sameInts.calls k _ _ t365 _ _ t369 true _ ?side1 ?side2 ?side3 ?side4 A23.out).mono ?_); (case side1 => repeat (first | exact (Kd.R_reads' HO368.out).2.2 | (with_reducible refine Kd.C_alloc ?_ _) | (with_reducible refine Kd.C_drewN ?_ _) | (with_reducible refine Kd.C_drew ?_))); (case side2 => exact (Kd.R_reads' HO368.out).2.1); (case side3 => repeat (first | exact (Kd.R_reads' HO372.out).2.2 | (with_reducible refine Kd.C_alloc ?_ _) | (with_reducible refine Kd.C_drewN ?_ _) | (with_reducible refine Kd.C_drew ?_))); (case side4 => exact (Kd.R_reads' HO372.out).2.1); rintro e w' ⟨rfl, ⟨nd, rfl⟩⟩; (try first | exact ⟨rfl, _, World.drewN_drewN _ _ _⟩ | exact ⟨rfl, _, Eq.trans (World.drewN_drewN _ _ _) (congrArg (World.drewN _) (Nat.add_assoc _ _ _))⟩)) | (go_at_call 49; (with_reducible refine (impl_GoodTallies.calls k _ _ t353 t375 _ ?side1 ?side2 A25.out).mono ?_); (case side1 => repeat (first | exact (Kd.R_reads' HO356.out).2.2 | (with_reducible refine Kd.C_alloc ?_ _) | (with_reducible refine Kd.C_drewN ?_ _) | (with_reducible refine Kd.C_drew ?_))); (case side2 => exact (Kd.R_reads' HO356.out).2.1); rintro e w30 ⟨rfl, hb⟩; have n0_ := Aside0.mk (Kd.R_below (by (with_reducible repeat (first | apply Kd.R_alloc | apply Kd.R_drewN | apply Kd.R_drew)); exact HO356.out) hb); have n1_ := Aside0.mk (Kd.S_below (by (with_reducible repeat (first | apply Kd.S_alloc | apply Kd.S_drewN | apply Kd.S_drew)); exact HO360.out) hb); have n2_ := Aside0.mk (Kd.S_below (by (with_reducible repeat (first | apply Kd.S_alloc | apply Kd.S_drewN | apply Kd.S_drew)); exact HO364.out) hb); have n3_ := Aside0.mk (Kd.R_below (by (with_reducible repeat (first | apply Kd.R_alloc | apply Kd.R_drewN | apply Kd.R_drew)); exact HO368.out) hb); have n4_ := Aside0.mk (Kd.R_below (by (with_reducible repeat (first | apply Kd.R_alloc | apply Kd.R_drewN | apply Kd.R_drew)); exact HO372.out) hb); have n5_ := Aside0.mk (below_step (belowd HB) hb); clear HO356; clear HO360; clear HO364; clear HO368; clear HO372; clear HB; have HO356 := n0_; have HO360 := n1_; have HO364 := n2_; have HO368 := n3_; have HO372 := n4_; have HB := n5_; clear n0_ n1_ n2_ n3_ n4_ n5_; (try clear hb); (try clear hb2); (try clear hk); (try clear hi))); try go_wp2_with (first | (go_at_call 47; (with_reducible refine (laws_sameRows.calls k _ _ t357 _ _ t361 true _ ?side1 ?side2 ?side3 ?side4 A18.out).mono ?_); (case side1 => repeat (first | exact (Kd.S_reads' HO360.out).2.2 | (with_reducible refine Kd.C_alloc ?_ _) | (with_reducible refine Kd.C_drewN ?_ _) | (with_reducible refine Kd.C_drew ?_))); (case side2 => exact (Kd.S_reads' HO360.out).2.1); (case side3 => repeat (first | exact (Kd.S_reads' HO364.out).2.2 | (with_reducible refine Kd.C_alloc ?_ _) | (with_reducible refine Kd.C_drewN ?_ _) | (with_reducible refine Kd.C_drew ?_))); (case side4 => exact (Kd.S_reads' HO364.out).2.1); rintro e w' ⟨rfl, ⟨nd, rfl⟩⟩; (try first | exact ⟨rfl, _, World.drewN_drewN _ _ _⟩ | exact ⟨rfl, _, Eq.trans (World.drewN_drewN _ _ _) (congrArg (World.drewN _) (Nat.add_assoc _ _ _))⟩); obtain ⟨Ao28, co28, eo28⟩ := Kd.R_slice HO368.out; subst eo28; obtain ⟨Ao29, co29, eo29⟩ := Kd.R_slice HO372.out; subst eo29) | (go_at_call 48; (with_reducible refine (laws_sameInts.calls k _ _ t365 _ _ t369 true _ ?side1 ?side2 ?side3 ?side4 A23.out).mono ?_); (case side1 => repeat (first | exact (Kd.R_reads' HO368.out).2.2 | (with_reducible refine Kd.C_alloc ?_ _) | (with_reducible refine Kd.C_drewN ?_ _) | (with_reducible refine Kd.C_drew ?_))); (case side2 => exact (Kd.R_reads' HO368.out).2.1); (case side3 => repeat (first | exact (Kd.R_reads' HO372.out).2.2 | (with_reducible refine Kd.C_alloc ?_ _) | (with_reducible refine Kd.C_drewN ?_ _) | (with_reducible refine Kd.C_drew ?_))); (case side4 => exact (Kd.R_reads' HO372.out).2.1); rintro e w' ⟨rfl, ⟨nd, rfl⟩⟩; (try first | exact ⟨rfl, _, World.drewN_drewN _ _ _⟩ | exact ⟨rfl, _, Eq.trans (World.drewN_drewN _ _ _) (congrArg (World.drewN _) (Nat.add_assoc _ _ _))⟩)) | (go_at_call 49; (with_reducible refine (impl_GoodTallies.calls k _ _ t353 t375 _ ?side1 ?side2 A25.out).mono ?_); (case side1 => repeat (first | exact (Kd.R_reads' HO356.out).2.2 | (with_reducible refine Kd.C_alloc ?_ _) | (with_reducible refine Kd.C_drewN ?_ _) | (with_reducible refine Kd.C_drew ?_))); (case side2 => exact (Kd.R_reads' HO356.out).2.1); rintro e w30 ⟨rfl, hb⟩; have n0_ := Aside0.mk (Kd.R_below (by (with_reducible repeat (first | apply Kd.R_alloc | apply Kd.R_drewN | apply Kd.R_drew)); exact HO356.out) hb); have n1_ := Aside0.mk (Kd.S_below (by (with_reducible repeat (first | apply Kd.S_alloc | apply Kd.S_drewN | apply Kd.S_drew)); exact HO360.out) hb); have n2_ := Aside0.mk (Kd.S_below (by (with_reducible repeat (first | apply Kd.S_alloc | apply Kd.S_drewN | apply Kd.S_drew)); exact HO364.out) hb); have n3_ := Aside0.mk (Kd.R_below (by (with_reducible repeat (first | apply Kd.R_alloc | apply Kd.R_drewN | apply Kd.R_drew)); exact HO368.out) hb); have n4_ := Aside0.mk (Kd.R_below (by (with_reducible repeat (first | apply Kd.R_alloc | apply Kd.R_drewN | apply Kd.R_drew)); exact HO372.out) hb); have n5_ := Aside0.mk (below_step (belowd HB) hb); clear HO356; clear HO360; clear HO364; clear HO368; clear HO372; clear HB; have HO356 := n0_; have HO360 := n1_; have HO364 := n2_; have HO368 := n3_; have HO372 := n4_; have HB := n5_; clear n0_ n1_ n2_ n3_ n4_ n5_; (try clear hb); (try clear hb2); (try clear hk); (try clear hi))))
       go_meet
       case rel => exact ⟨_, ((t375 != t366)), (by first | rfl | (simp; done) | (simp [*]; done)), H', ⟨by first | omega | exact Nat.le_refl _⟩, ⟨by (with_reducible repeat (first | apply Kd.R_alloc | apply Kd.R_drewN | apply Kd.R_drew)); exact HO356.out⟩, ⟨by (with_reducible repeat (first | apply Kd.S_alloc | apply Kd.S_drewN | apply Kd.S_drew)); exact Kd.S_mono HO360.out (fun _ hk => ⟨hk.1.2, hk.1.1.1.2⟩)⟩, ⟨by (with_reducible repeat (first | apply Kd.R_alloc | apply Kd.R_drewN | apply Kd.R_drew)); exact Kd.R_mono HO368.out (fun _ hk => trivial)⟩, ⟨by repeat (first | (with_reducible first | exact HB.out | apply below_alloc | apply pw_below_drewN | apply below_drew1) | exact HB.out)⟩⟩
      ·replace c24 := Bool.eq_false_iff.mpr c24
       subst c24
       have H1 : (laws_FnWays.j0 k l1 t353 t354 t357 t358 t365 t366 true) = some r := by rw [if_neg (show ¬ (false = true) by decide)] at H; exact H
       clear H
       have H := H1
       clear H1
       have H' := Aside0.mk H
       clear H
       obtain ⟨Ao31, co31, eo31⟩ := Kd.S_slice HO360.out
       subst eo31
       obtain ⟨Ao32, co32, eo32⟩ := Kd.S_slice HO364.out
       subst eo32
       go_wp2_with (first | (go_at_call 47; (with_reducible refine (laws_sameRows.calls k _ _ t357 _ _ t361 true _ ?side1 ?side2 ?side3 ?side4 A18.out).mono ?_); (case side1 => repeat (first | exact (Kd.S_reads' HO360.out).2.2 | (with_reducible refine Kd.C_alloc ?_ _) | (with_reducible refine Kd.C_drewN ?_ _) | (with_reducible refine Kd.C_drew ?_))); (case side2 => exact (Kd.S_reads' HO360.out).2.1); (case side3 => repeat (first | exact (Kd.S_reads' HO364.out).2.2 | (with_reducible refine Kd.C_alloc ?_ _) | (with_reducible refine Kd.C_drewN ?_ _) | (with_reducible refine Kd.C_drew ?_))); (case side4 => exact (Kd.S_reads' HO364.out).2.1); rintro e w' ⟨rfl, ⟨nd, rfl⟩⟩; (try first | exact ⟨rfl, _, World.drewN_drewN _ _ _⟩ | exact ⟨rfl, _, Eq.trans (World.drewN_drewN _ _ _) (congrArg (World.drewN _) (Nat.add_assoc _ _ _))⟩); obtain ⟨Ao33, co33, eo33⟩ := Kd.R_slice HO368.out; subst eo33; obtain ⟨Ao34, co34, eo34⟩ := Kd.R_slice HO372.out; subst eo34) | (go_at_call 48; (with_reducible refine (laws_sameInts.calls k _ _ t365 _ _ t369 false _ ?side1 ?side2 ?side3 ?side4 A23.out).mono ?_); (case side1 => repeat (first | exact (Kd.R_reads' HO368.out).2.2 | (with_reducible refine Kd.C_alloc ?_ _) | (with_reducible refine Kd.C_drewN ?_ _) | (with_reducible refine Kd.C_drew ?_))); (case side2 => exact (Kd.R_reads' HO368.out).2.1); (case side3 => repeat (first | exact (Kd.R_reads' HO372.out).2.2 | (with_reducible refine Kd.C_alloc ?_ _) | (with_reducible refine Kd.C_drewN ?_ _) | (with_reducible refine Kd.C_drew ?_))); (case side4 => exact (Kd.R_reads' HO372.out).2.1); rintro e w' ⟨rfl, ⟨nd, rfl⟩⟩; (try first | exact ⟨rfl, _, World.drewN_drewN _ _ _⟩ | exact ⟨rfl, _, Eq.trans (World.drewN_drewN _ _ _) (congrArg (World.drewN _) (Nat.add_assoc _ _ _))⟩)))
       repeat (go_quiet (first | (go_at_call 47; (with_reducible refine (laws_sameRows.calls k _ _ t357 _ _ t361 true _ ?side1 ?side2 ?side3 ?side4 A18.out).mono ?_); (case side1 => repeat (first | exact (Kd.S_reads' HO360.out).2.2 | (with_reducible refine Kd.C_alloc ?_ _) | (with_reducible refine Kd.C_drewN ?_ _) | (with_reducible refine Kd.C_drew ?_))); (case side2 => exact (Kd.S_reads' HO360.out).2.1); (case side3 => repeat (first | exact (Kd.S_reads' HO364.out).2.2 | (with_reducible refine Kd.C_alloc ?_ _) | (with_reducible refine Kd.C_drewN ?_ _) | (with_reducible refine Kd.C_drew ?_))); (case side4 => exact (Kd.S_reads' HO364.out).2.1); rintro e w' ⟨rfl, ⟨nd, rfl⟩⟩; (try first | exact ⟨rfl, _, World.drewN_drewN _ _ _⟩ | exact ⟨rfl, _, Eq.trans (World.drewN_drewN _ _ _) (congrArg (World.drewN _) (Nat.add_assoc _ _ _))⟩); obtain ⟨Ao33, co33, eo33⟩ := Kd.R_slice HO368.out; subst eo33; obtain ⟨Ao34, co34, eo34⟩ := Kd.R_slice HO372.out; subst eo34) | (go_at_call 48; (with_reducible refine (laws_sameInts.calls k _ _ t365 _ _ t369 false _ ?side1 ?side2 ?side3 ?side4 A23.out).mono ?_); (case side1 => repeat (first | exact (Kd.R_reads' HO368.out).2.2 | (with_reducible refine Kd.C_alloc ?_ _) | (with_reducible refine Kd.C_drewN ?_ _) | (with_reducible refine Kd.C_drew ?_))); (case side2 => exact (Kd.R_reads' HO368.out).2.1); (case side3 => repeat (first | exact (Kd.R_reads' HO372.out).2.2 | (with_reducible refine Kd.C_alloc ?_ _) | (with_reducible refine Kd.C_drewN ?_ _) | (with_reducible refine Kd.C_drew ?_))); (case side4 => exact (Kd.R_reads' HO372.out).2.1); rintro e w' ⟨rfl, ⟨nd, rfl⟩⟩; (try first | exact ⟨rfl, _, World.drewN_drewN _ _ _⟩ | exact ⟨rfl, _, Eq.trans (World.drewN_drewN _ _ _) (congrArg (World.drewN _) (Nat.add_assoc _ _ _))⟩))); try go_wp2_with (first | (go_at_call 47; (with_reducible refine (laws_sameRows.calls k _ _ t357 _ _ t361 true _ ?side1 ?side2 ?side3 ?side4 A18.out).mono ?_); (case side1 => repeat (first | exact (Kd.S_reads' HO360.out).2.2 | (with_reducible refine Kd.C_alloc ?_ _) | (with_reducible refine Kd.C_drewN ?_ _) | (with_reducible refine Kd.C_drew ?_))); (case side2 => exact (Kd.S_reads' HO360.out).2.1); (case side3 => repeat (first | exact (Kd.S_reads' HO364.out).2.2 | (with_reducible refine Kd.C_alloc ?_ _) | (with_reducible refine Kd.C_drewN ?_ _) | (with_reducible refine Kd.C_drew ?_))); (case side4 => exact (Kd.S_reads' HO364.out).2.1); rintro e w' ⟨rfl, ⟨nd, rfl⟩⟩; (try first | exact ⟨rfl, _, World.drewN_drewN _ _ _⟩ | exact ⟨rfl, _, Eq.trans (World.drewN_drewN _ _ _) (congrArg (World.drewN _) (Nat.add_assoc _ _ _))⟩); obtain ⟨Ao33, co33, eo33⟩ := Kd.R_slice HO368.out; subst eo33; obtain ⟨Ao34, co34, eo34⟩ := Kd.R_slice HO372.out; subst eo34) | (go_at_call 48; (with_reducible refine (laws_sameInts.calls k _ _ t365 _ _ t369 false _ ?side1 ?side2 ?side3 ?side4 A23.out).mono ?_); (case side1 => repeat (first | exact (Kd.R_reads' HO368.out).2.2 | (with_reducible refine Kd.C_alloc ?_ _) | (with_reducible refine Kd.C_drewN ?_ _) | (with_reducible refine Kd.C_drew ?_))); (case side2 => exact (Kd.R_reads' HO368.out).2.1); (case side3 => repeat (first | exact (Kd.R_reads' HO372.out).2.2 | (with_reducible refine Kd.C_alloc ?_ _) | (with_reducible refine Kd.C_drewN ?_ _) | (with_reducible refine Kd.C_drew ?_))); (case side4 => exact (Kd.R_reads' HO372.out).2.1); rintro e w' ⟨rfl, ⟨nd, rfl⟩⟩; (try first | exact ⟨rfl, _, World.drewN_drewN _ _ _⟩ | exact ⟨rfl, _, Eq.trans (World.drewN_drewN _ _ _) (congrArg (World.drewN _) (Nat.add_assoc _ _ _))⟩))))
       go_meet
       case rel => exact ⟨_, (true), (by first | rfl | (simp; done) | (simp [*]; done)), H', ⟨by first | omega | exact Nat.le_refl _⟩, ⟨by (with_reducible repeat (first | apply Kd.R_alloc | apply Kd.R_drewN | apply Kd.R_drew)); exact HO356.out⟩, ⟨by (with_reducible repeat (first | apply Kd.S_alloc | apply Kd.S_drewN | apply Kd.S_drew)); exact Kd.S_mono HO360.out (fun _ hk => ⟨hk.1.2, hk.1.1.1.2⟩)⟩, ⟨by (with_reducible repeat (first | apply Kd.R_alloc | apply Kd.R_drewN | apply Kd.R_drew)); exact Kd.R_mono HO368.out (fun _ hk => trivial)⟩, ⟨by repeat (first | (with_reducible first | exact HB.out | apply below_alloc | apply pw_below_drewN | apply below_drew1) | exact HB.out)⟩⟩
    ·replace c19 := Bool.eq_false_iff.mpr c19
     subst c19
     have H1 : (laws_FnWays.j0 k l1 t353 t354 t357 t358 t365 t366 true) = some r := by rw [if_neg (show ¬ (false = true) by decide)] at H; exact H
     clear H
     have H := H1
     clear H1
     have H' := Aside0.mk H
     clear H
     obtain ⟨Ao35, co35, eo35⟩ := Kd.S_slice HO360.out
     subst eo35
     obtain ⟨Ao36, co36, eo36⟩ := Kd.S_slice HO364.out
     subst eo36
     go_wp2_with (first | (go_at_call 47; (with_reducible refine (laws_sameRows.calls k _ _ t357 _ _ t361 false _ ?side1 ?side2 ?side3 ?side4 A18.out).mono ?_); (case side1 => repeat (first | exact (Kd.S_reads' HO360.out).2.2 | (with_reducible refine Kd.C_alloc ?_ _) | (with_reducible refine Kd.C_drewN ?_ _) | (with_reducible refine Kd.C_drew ?_))); (case side2 => exact (Kd.S_reads' HO360.out).2.1); (case side3 => repeat (first | exact (Kd.S_reads' HO364.out).2.2 | (with_reducible refine Kd.C_alloc ?_ _) | (with_reducible refine Kd.C_drewN ?_ _) | (with_reducible refine Kd.C_drew ?_))); (case side4 => exact (Kd.S_reads' HO364.out).2.1); rintro e w' ⟨rfl, ⟨nd, rfl⟩⟩; (try first | exact ⟨rfl, _, World.drewN_drewN _ _ _⟩ | exact ⟨rfl, _, Eq.trans (World.drewN_drewN _ _ _) (congrArg (World.drewN _) (Nat.add_assoc _ _ _))⟩)))
     repeat (go_quiet (first | (go_at_call 47; (with_reducible refine (laws_sameRows.calls k _ _ t357 _ _ t361 false _ ?side1 ?side2 ?side3 ?side4 A18.out).mono ?_); (case side1 => repeat (first | exact (Kd.S_reads' HO360.out).2.2 | (with_reducible refine Kd.C_alloc ?_ _) | (with_reducible refine Kd.C_drewN ?_ _) | (with_reducible refine Kd.C_drew ?_))); (case side2 => exact (Kd.S_reads' HO360.out).2.1); (case side3 => repeat (first | exact (Kd.S_reads' HO364.out).2.2 | (with_reducible refine Kd.C_alloc ?_ _) | (with_reducible refine Kd.C_drewN ?_ _) | (with_reducible refine Kd.C_drew ?_))); (case side4 => exact (Kd.S_reads' HO364.out).2.1); rintro e w' ⟨rfl, ⟨nd, rfl⟩⟩; (try first | exact ⟨rfl, _, World.drewN_drewN _ _ _⟩ | exact ⟨rfl, _, Eq.trans (World.drewN_drewN _ _ _) (congrArg (World.drewN _) (Nat.add_assoc _ _ _))⟩))); try go_wp2_with (first | (go_at_call 47; (with_reducible refine (laws_sameRows.calls k _ _ t357 _ _ t361 false _ ?side1 ?side2 ?side3 ?side4 A18.out).mono ?_); (case side1 => repeat (first | exact (Kd.S_reads' HO360.out).2.2 | (with_reducible refine Kd.C_alloc ?_ _) | (with_reducible refine Kd.C_drewN ?_ _) | (with_reducible refine Kd.C_drew ?_))); (case side2 => exact (Kd.S_reads' HO360.out).2.1); (case side3 => repeat (first | exact (Kd.S_reads' HO364.out).2.2 | (with_reducible refine Kd.C_alloc ?_ _) | (with_reducible refine Kd.C_drewN ?_ _) | (with_reducible refine Kd.C_drew ?_))); (case side4 => exact (Kd.S_reads' HO364.out).2.1); rintro e w' ⟨rfl, ⟨nd, rfl⟩⟩; (try first | exact ⟨rfl, _, World.drewN_drewN _ _ _⟩ | exact ⟨rfl, _, Eq.trans (World.drewN_drewN _ _ _) (congrArg (World.drewN _) (Nat.add_assoc _ _ _))⟩))))
     go_meet
     case rel => exact ⟨_, (true), (by first | rfl | (simp; done) | (simp [*]; done)), H', ⟨by first | omega | exact Nat.le_refl _⟩, ⟨by (with_reducible repeat (first | apply Kd.R_alloc | apply Kd.R_drewN | apply Kd.R_drew)); exact HO356.out⟩, ⟨by (with_reducible repeat (first | apply Kd.S_alloc | apply Kd.S_drewN | apply Kd.S_drew)); exact Kd.S_mono HO360.out (fun _ hk => ⟨hk.1.2, hk.1.1.1.2⟩)⟩, ⟨by (with_reducible repeat (first | apply Kd.R_alloc | apply Kd.R_drewN | apply Kd.R_drew)); exact Kd.R_mono HO368.out (fun _ hk => trivial)⟩, ⟨by repeat (first | (with_reducible first | exact HB.out | apply below_alloc | apply pw_below_drewN | apply below_drew1) | exact HB.out)⟩⟩
  case rest => as_aux_lemma =>
   clear HC9
   try clear c1
   try clear c2
   try clear p2
   try clear c3
   try clear c3b0
   try clear p6
   try clear c10
   try clear c17
   try clear c17b0
   try clear c17b1
   try clear c17b2
   try clear c19
   try clear c20
   try clear c20b0
   try clear c20b1
   try clear c20b2
   try clear c24
   obtain ⟨kq, x93_8, rfl, HA, HJ8, HO_5, HO_7, HO_11, HB⟩ := hcut
   cases kq with
   | zero => exact absurd HA.out (by simp [laws_FnWays.j0])
   | succ kj8 =>
    have H := HA.out
    clear HA
    simp only [laws_FnWays.j0] at H
    by_cases c37 : x93_8 = true
    ·subst c37
     have H1 : (some false) = some r := by rw [if_pos rfl] at H; exact H
     clear H
     have H := H1
     clear H1
     exact absurd (H.trans (congrArg some hr_)) (by simp)
    ·replace c37 := Bool.eq_false_iff.mpr c37
     subst c37
     have H1 : (if t366 = true then (laws_FnWays.l0 kj8 l1 t353 t354 t357 t358 t365 1) else (laws_FnWays.j2 kj8 l1 t353 t354 t357 t358 t365)) = some r := by rw [if_neg (show ¬ (false = true) by decide)] at H; exact H
     clear H
     have H := H1
     clear H1
     have HC38 := Aside0.mk H
     clear H
     go_upto_if 94 with (fail)
     repeat (go_quiet (fail); go_upto_if 94 with (fail))
     go_cut [] (fun wc => ∃ (kq : Nat), Aside0 (laws_FnWays.j2 kq l1 t353 t354 t357 t358 t365 = some r) ∧ Aside0 (kq ≤ kj8) ∧ Aside0 (Kd.R k68 68 wc w.heap.size (fun _ => True) (.slice Ao11 t353.length co11) t353) ∧ Aside0 (Kd.S (Kd.slice 3 (Kd.int .i64)) 22 wc w.heap.size (fun k_ => some k_ ≠ (v367 : Value).ownBlock ∧ k_ < N14) v359 t357) ∧ Aside0 (Kd.R (Kd.int .i64) 3 wc w.heap.size (fun _ => True) v367 t365) ∧ Aside0 (Below w.heap.size w wc))
     case first => as_aux_lemma =>
      have H := HC38.out
      clear HC38
      by_cases c39 : t366 = true
      ·subst c39
       have H1 : (laws_FnWays.l0 kj8 l1 t353 t354 t357 t358 t365 1) = some r := by rw [if_pos rfl] at H; exact H
       clear H
       have H := H1
       clear H1
       have H' := Aside0.mk H
       clear H
       go_wp2
       repeat (go_quiet (fail); try go_wp2)
       go_loopg [15] kj8 (fun kq v15 w' => ∃ (x15_2 : Int), v15 = .int .i64 x15_2 ∧ Aside0 (laws_FnWays.l0 kq l1 t353 t354 t357 t358 t365 x15_2 = some r) ∧ Aside0 (kq ≤ kj8) ∧ Aside0 (Kd.R k68 68 w' w.heap.size (fun _ => True) (.slice Ao11 t353.length co11) t353) ∧ Aside0 (Kd.S (Kd.slice 3 (Kd.int .i64)) 22 w' w.heap.size (fun k_ => some k_ ≠ (v367 : Value).ownBlock ∧ k_ < N14) v359 t357) ∧ Aside0 (Kd.R (Kd.int .i64) 3 w' w.heap.size (fun _ => True) v367 t365) ∧ Aside0 (Below w.heap.size w w'))
       case atStart => exact ⟨(1), (by first | rfl | (simp; done) | (simp [*]; done)), H', ⟨Nat.le_refl _⟩, ⟨by (with_reducible repeat (first | apply Kd.R_alloc | apply Kd.R_drewN | apply Kd.R_drew)); exact HO_5.out⟩, ⟨by (with_reducible repeat (first | apply Kd.S_alloc | apply Kd.S_drewN | apply Kd.S_drew)); exact HO_7.out⟩, ⟨by (with_reducible repeat (first | apply Kd.R_alloc | apply Kd.R_drewN | apply Kd.R_drew)); exact HO_11.out⟩, ⟨by repeat (first | (with_reducible first | exact HB.out | apply below_alloc | apply pw_below_drewN | apply below_drew1) | exact HB.out)⟩⟩
       case round => as_aux_lemma =>
        clear H'
        try clear c1
        try clear c2
        try clear p2
        try clear c3
        try clear c3b0
        try clear p6
        try clear c10
        try clear c17
        try clear c17b0
        try clear c17b1
        try clear c17b2
        try clear c19
        try clear c20
        try clear c20b0
        try clear c20b1
        try clear c20b2
        try clear c24
        try clear c37
        try clear c39
        try clear p2
        try clear p6
        obtain ⟨x15_2, rfl, HA, HK2, HO_5, HO_7, HO_11, HB⟩ := hrel
        cases gk with
        | zero => exact absurd HA.out (by simp [laws_FnWays.l0])
        | succ k2 =>
         have H := HA.out
         clear HA
         simp only [laws_FnWays.l0] at H
         by_cases c40 : x15_2 < (t365.length : Int)
         ·rw [if_pos c40] at H
          have c40b0 : decide (x15_2 < (t365.length : Int)) = true := decide_eq_true c40
          clear c40
          (first | rw [c40b0] | (simp only [i64_w, i32_w]; rw [c40b0]) | skip)
          obtain ⟨ji41, hji41⟩ : ∃ j_ : Int, (wrap64 (x15_2 - 1)) = j_ := ⟨_, rfl⟩
          replace H : (if 0 ≤ (ji41) then (if (ji41) < (t365.length : Int) then (if 0 ≤ (rd t365 (ji41)) then (if (rd t365 (ji41)) < (t353.length : Int) then ((impl_ScoreOf.f ((rd_T68 t353 (rd t365 (ji41))).f0) ((rd_T68 t353 (rd t365 (ji41))).f1) ((rd_T68 t353 (rd t365 (ji41))).f2)).bind fun bt378 => (if 0 ≤ x15_2 then (if 0 ≤ (rd t365 x15_2) then (if (rd t365 x15_2) < (t353.length : Int) then ((impl_ScoreOf.f ((rd_T68 t353 (rd t365 x15_2)).f0) ((rd_T68 t353 (rd t365 x15_2)).f1) ((rd_T68 t353 (rd t365 x15_2)).f2)).bind fun bt382 => (if bt378.2 = true then (if bt382.2 = true then (if bt378.1 < bt382.1 then (some false) else (if bt378.1 = bt382.1 then (if (rd t365 (ji41)) ≥ (rd t365 x15_2) then (some false) else (laws_FnWays.l0 k2 l1 t353 t354 t357 t358 t365 (wrap64 (x15_2 + 1)))) else (laws_FnWays.l0 k2 l1 t353 t354 t357 t358 t365 (wrap64 (x15_2 + 1))))) else (some false)) else (some false))) else (none)) else (none)) else (none))) else (none)) else (none)) else (none)) else (none)) = some r := by first | (rw [hji41] at H; exact H) | (simp only [hji41] at H ⊢; exact H)
          have hji41w : (IntKind.i64.wrap (x15_2 - 1)) = ji41 := (i64_w _).trans hji41
          by_cases c42 : 0 ≤ (ji41)
          ·rw [if_pos c42] at H
           have c42b0 : decide (0 ≤ (ji41)) = true := decide_eq_true c42
           clear c42
           by_cases c43 : (ji41) < (t365.length : Int)
           ·rw [if_pos c43] at H
            have c43b0 : decide ((ji41) < (t365.length : Int)) = true := decide_eq_true c43
            clear c43
            by_cases c44 : 0 ≤ (rd t365 (ji41))
            ·rw [if_pos c44] at H
             have c44b0 : decide (0 ≤ (rd t365 (ji41))) = true := decide_eq_true c44
             clear c44
             by_cases c45 : (rd t365 (ji41)) < (t353.length : Int)
             ·rw [if_pos c45] at H
              have c45b0 : decide ((rd t365 (ji41)) < (t353.length : Int)) = true := decide_eq_true c45
              clear c45
              replace H := Option.bind_eq_some_iff.mp H
              obtain ⟨⟨t378, t379⟩, A460, H⟩ := H
              replace H : (if 0 ≤ x15_2 then (if 0 ≤ (rd t365 x15_2) then (if (rd t365 x15_2) < (t353.length : Int) then ((impl_ScoreOf.f ((rd_T68 t353 (rd t365 x15_2)).f0) ((rd_T68 t353 (rd t365 x15_2)).f1) ((rd_T68 t353 (rd t365 x15_2)).f2)).bind fun bt382 => (if t379 = true then (if bt382.2 = true then (if t378 < bt382.1 then (some false) else (if t378 = bt382.1 then (if (rd t365 (ji41)) ≥ (rd t365 x15_2) then (some false) else (laws_FnWays.l0 k2 l1 t353 t354 t357 t358 t365 (wrap64 (x15_2 + 1)))) else (laws_FnWays.l0 k2 l1 t353 t354 t357 t358 t365 (wrap64 (x15_2 + 1))))) else (some false)) else (some false))) else (none)) else (none)) else (none)) = some r := H
              have A46 := Aside0.mk A460
              clear A460
              by_cases c47 : 0 ≤ x15_2
              ·rw [if_pos c47] at H
               have c47b0 : decide (0 ≤ x15_2) = true := decide_eq_true c47
               clear c47
               by_cases c48 : 0 ≤ (rd t365 x15_2)
               ·rw [if_pos c48] at H
                have c48b0 : decide (0 ≤ (rd t365 x15_2)) = true := decide_eq_true c48
                clear c48
                by_cases c49 : (rd t365 x15_2) < (t353.length : Int)
                ·rw [if_pos c49] at H
                 have c49b0 : decide ((rd t365 x15_2) < (t353.length : Int)) = true := decide_eq_true c49
                 clear c49
                 replace H := Option.bind_eq_some_iff.mp H
                 obtain ⟨⟨t382, t383⟩, A500, H⟩ := H
                 replace H : (if t379 = true then (if t383 = true then (if t378 < t382 then (some false) else (if t378 = t382 then (if (rd t365 (ji41)) ≥ (rd t365 x15_2) then (some false) else (laws_FnWays.l0 k2 l1 t353 t354 t357 t358 t365 (wrap64 (x15_2 + 1)))) else (laws_FnWays.l0 k2 l1 t353 t354 t357 t358 t365 (wrap64 (x15_2 + 1))))) else (some false)) else (some false)) = some r := H
                 have A50 := Aside0.mk A500
                 clear A500
                 by_cases c51 : t379 = true
                 ·subst c51
                  have H1 : (if t383 = true then (if t378 < t382 then (some false) else (if t378 = t382 then (if (rd t365 (ji41)) ≥ (rd t365 x15_2) then (some false) else (laws_FnWays.l0 k2 l1 t353 t354 t357 t358 t365 (wrap64 (x15_2 + 1)))) else (laws_FnWays.l0 k2 l1 t353 t354 t357 t358 t365 (wrap64 (x15_2 + 1))))) else (some false)) = some r := by rw [if_pos rfl] at H; exact H
                  clear H
                  have H := H1
                  clear H1
                  by_cases c52 : t383 = true
                  ·subst c52
                   have H1 : (if t378 < t382 then (some false) else (if t378 = t382 then (if (rd t365 (ji41)) ≥ (rd t365 x15_2) then (some false) else (laws_FnWays.l0 k2 l1 t353 t354 t357 t358 t365 (wrap64 (x15_2 + 1)))) else (laws_FnWays.l0 k2 l1 t353 t354 t357 t358 t365 (wrap64 (x15_2 + 1))))) = some r := by rw [if_pos rfl] at H; exact H
                   clear H
                   have H := H1
                   clear H1
                   by_cases c53 : t378 < t382
                   ·rw [if_pos c53] at H
                    have c53b0 : decide (t378 < t382) = true := decide_eq_true c53
                    clear c53
                    exact absurd (H.trans (congrArg some hr_)) (by simp)
                   ·rw [if_neg c53] at H
                    have c53b0 : decide (t378 < t382) = false := decide_eq_false c53
                    clear c53
                    by_cases c54 : t378 = t382
                    ·rw [if_pos c54] at H
                     have c54b0 : (t378 == t382) = true := beq_iff_eq.mpr c54
                     have c54b1 : (t378 != t382) = false := bne_eq_false_iff_eq.mpr c54
                     clear c54
                     by_cases c55 : (rd t365 (ji41)) ≥ (rd t365 x15_2)
                     ·rw [if_pos c55] at H
                      have c55b0 : decide ((rd t365 x15_2) ≤ (rd t365 (ji41))) = true := decide_eq_true c55
                      clear c55
                      exact absurd (H.trans (congrArg some hr_)) (by simp)
                     ·rw [if_neg c55] at H
                      have c55b0 : decide ((rd t365 x15_2) ≤ (rd t365 (ji41))) = false := decide_eq_false c55
                      clear c55
                      have H' := Aside0.mk H
                      clear H
                      obtain ⟨Ao56, co56, eo56⟩ := Kd.R_slice HO_11.out
                      subst eo56
                      have p376 : 0 ≤ ((ji41) : Int) := of_decide_eq_true (by first | (with_reducible assumption) | assumption)
                      have q376 : (ji41) < (t365.length : Int) := of_decide_eq_true (by first | (with_reducible assumption) | assumption)
                      obtain ⟨ad376, e376, hx376_0⟩ := Kd.at_int (Kd.R_reads' HO_11.out).2.2 (ji41) p376 q376
                      cases e376
                      replace p376 := eq_true p376
                      replace q376 := eq_true q376
                      have p377 : 0 ≤ ((rd t365 (ji41)) : Int) := of_decide_eq_true (by first | (with_reducible assumption) | assumption)
                      have q377 : (rd t365 (ji41)) < (t353.length : Int) := of_decide_eq_true (by first | (with_reducible assumption) | assumption)
                      obtain ⟨ad377, e377, hx377_0, hx377_1, hx377_2⟩ := at_T68 (Kd.R_reads' HO_5.out).2.2 (rd t365 (ji41)) p377 q377
                      cases e377
                      replace p377 := eq_true p377
                      replace q377 := eq_true q377
                      go_wp2_with (first | (go_at_call 50; (with_reducible refine (impl_ScoreOf.calls ((rd_T68 t353 (rd t365 (ji41))).f0) ((rd_T68 t353 (rd t365 (ji41))).f1) ((rd_T68 t353 (rd t365 (ji41))).f2) t378 true _ A46.out).mono ?_); rintro e w57 ⟨rfl, hb⟩; have n0_ := Aside0.mk (Kd.R_below (by (with_reducible repeat (first | apply Kd.R_alloc | apply Kd.R_drewN | apply Kd.R_drew)); exact HO_5.out) hb); have n1_ := Aside0.mk (Kd.S_below (by (with_reducible repeat (first | apply Kd.S_alloc | apply Kd.S_drewN | apply Kd.S_drew)); exact HO_7.out) hb); have n2_ := Aside0.mk (Kd.R_below (by (with_reducible repeat (first | apply Kd.R_alloc | apply Kd.R_drewN | apply Kd.R_drew)); exact HO_11.out) hb); have n3_ := Aside0.mk (below_step (belowd HB) hb); clear HO_5; clear HO_7; clear HO_11; clear HB; have HO_5 := n0_; have HO_7 := n1_; have HO_11 := n2_; have HB := n3_; clear n0_ n1_ n2_ n3_; (try clear hb); (try clear hb2); (try clear hk); (try clear hi); have p380 : 0 ≤ (x15_2 : Int) := of_decide_eq_true (by first | (with_reducible assumption) | assumption); have q380 : x15_2 < (t365.length : Int) := of_decide_eq_true (by first | (with_reducible assumption) | assumption); obtain ⟨ad380, e380, hx380_0⟩ := Kd.at_int (Kd.R_reads' HO_11.out).2.2 x15_2 p380 q380; obtain rfl : ad376 = ad380 := (by injection e380); replace p380 := eq_true p380; replace q380 := eq_true q380; have p381 : 0 ≤ ((rd t365 x15_2) : Int) := of_decide_eq_true (by first | (with_reducible assumption) | assumption); have q381 : (rd t365 x15_2) < (t353.length : Int) := of_decide_eq_true (by first | (with_reducible assumption) | assumption); obtain ⟨ad381, e381, hx381_0, hx381_1, hx381_2⟩ := at_T68 (Kd.R_reads' HO_5.out).2.2 (rd t365 x15_2) p381 q381; obtain rfl : ad377 = ad381 := (by injection e381); replace p381 := eq_true p381; replace q381 := eq_true q381) | (go_at_call 50; (with_reducible refine (impl_ScoreOf.calls ((rd_T68 t353 (rd t365 x15_2)).f0) ((rd_T68 t353 (rd t365 x15_2)).f1) ((rd_T68 t353 (rd t365 x15_2)).f2) t382 true _ A50.out).mono ?_); rintro e w58 ⟨rfl, hb⟩; have n0_ := Aside0.mk (Kd.R_below (by (with_reducible repeat (first | apply Kd.R_alloc | apply Kd.R_drewN | apply Kd.R_drew)); exact HO_5.out) hb); have n1_ := Aside0.mk (Kd.S_below (by (with_reducible repeat (first | apply Kd.S_alloc | apply Kd.S_drewN | apply Kd.S_drew)); exact HO_7.out) hb); have n2_ := Aside0.mk (Kd.R_below (by (with_reducible repeat (first | apply Kd.R_alloc | apply Kd.R_drewN | apply Kd.R_drew)); exact HO_11.out) hb); have n3_ := Aside0.mk (below_step (belowd HB) hb); clear HO_5; clear HO_7; clear HO_11; clear HB; have HO_5 := n0_; have HO_7 := n1_; have HO_11 := n2_; have HB := n3_; clear n0_ n1_ n2_ n3_; (try clear hb); (try clear hb2); (try clear hk); (try clear hi); have p384 : 0 ≤ ((ji41) : Int) := of_decide_eq_true (by first | (with_reducible assumption) | assumption); have q384 : (ji41) < (t365.length : Int) := of_decide_eq_true (by first | (with_reducible assumption) | assumption); obtain ⟨ad384, e384, hx384_0⟩ := Kd.at_int (Kd.R_reads' HO_11.out).2.2 (ji41) p384 q384; obtain rfl : ad376 = ad384 := (by injection e384); replace p384 := eq_true p384; replace q384 := eq_true q384; have p385 : 0 ≤ (x15_2 : Int) := of_decide_eq_true (by first | (with_reducible assumption) | assumption); have q385 : x15_2 < (t365.length : Int) := of_decide_eq_true (by first | (with_reducible assumption) | assumption); obtain ⟨ad385, e385, hx385_0⟩ := Kd.at_int (Kd.R_reads' HO_11.out).2.2 x15_2 p385 q385; obtain rfl : ad376 = ad385 := (by injection e385); replace p385 := eq_true p385; replace q385 := eq_true q385))
                      repeat (go_quiet (first | (go_at_call 50; (with_reducible refine (impl_ScoreOf.calls ((rd_T68 t353 (rd t365 (ji41))).f0) ((rd_T68 t353 (rd t365 (ji41))).f1) ((rd_T68 t353 (rd t365 (ji41))).f2) t378 true _ A46.out).mono ?_); rintro e w57 ⟨rfl, hb⟩; have n0_ := Aside0.mk (Kd.R_below (by (with_reducible repeat (first | apply Kd.R_alloc | apply Kd.R_drewN | apply Kd.R_drew)); exact HO_5.out) hb); have n1_ := Aside0.mk (Kd.S_below (by (with_reducible repeat (first | apply Kd.S_alloc | apply Kd.S_drewN | apply Kd.S_drew)); exact HO_7.out) hb); have n2_ := Aside0.mk (Kd.R_below (by (with_reducible repeat (first | apply Kd.R_alloc | apply Kd.R_drewN | apply Kd.R_drew)); exact HO_11.out) hb); have n3_ := Aside0.mk (below_step (belowd HB) hb); clear HO_5; clear HO_7; clear HO_11; clear HB; have HO_5 := n0_; have HO_7 := n1_; have HO_11 := n2_; have HB := n3_; clear n0_ n1_ n2_ n3_; (try clear hb); (try clear hb2); (try clear hk); (try clear hi); have p380 : 0 ≤ (x15_2 : Int) := of_decide_eq_true (by first | (with_reducible assumption) | assumption); have q380 : x15_2 < (t365.length : Int) := of_decide_eq_true (by first | (with_reducible assumption) | assumption); obtain ⟨ad380, e380, hx380_0⟩ := Kd.at_int (Kd.R_reads' HO_11.out).2.2 x15_2 p380 q380; obtain rfl : ad376 = ad380 := (by injection e380); replace p380 := eq_true p380; replace q380 := eq_true q380; have p381 : 0 ≤ ((rd t365 x15_2) : Int) := of_decide_eq_true (by first | (with_reducible assumption) | assumption); have q381 : (rd t365 x15_2) < (t353.length : Int) := of_decide_eq_true (by first | (with_reducible assumption) | assumption); obtain ⟨ad381, e381, hx381_0, hx381_1, hx381_2⟩ := at_T68 (Kd.R_reads' HO_5.out).2.2 (rd t365 x15_2) p381 q381; obtain rfl : ad377 = ad381 := (by injection e381); replace p381 := eq_true p381; replace q381 := eq_true q381) | (go_at_call 50; (with_reducible refine (impl_ScoreOf.calls ((rd_T68 t353 (rd t365 x15_2)).f0) ((rd_T68 t353 (rd t365 x15_2)).f1) ((rd_T68 t353 (rd t365 x15_2)).f2) t382 true _ A50.out).mono ?_); rintro e w58 ⟨rfl, hb⟩; have n0_ := Aside0.mk (Kd.R_below (by (with_reducible repeat (first | apply Kd.R_alloc | apply Kd.R_drewN | apply Kd.R_drew)); exact HO_5.out) hb); have n1_ := Aside0.mk (Kd.S_below (by (with_reducible repeat (first | apply Kd.S_alloc | apply Kd.S_drewN | apply Kd.S_drew)); exact HO_7.out) hb); have n2_ := Aside0.mk (Kd.R_below (by (with_reducible repeat (first | apply Kd.R_alloc | apply Kd.R_drewN | apply Kd.R_drew)); exact HO_11.out) hb); have n3_ := Aside0.mk (below_step (belowd HB) hb); clear HO_5; clear HO_7; clear HO_11; clear HB; have HO_5 := n0_; have HO_7 := n1_; have HO_11 := n2_; have HB := n3_; clear n0_ n1_ n2_ n3_; (try clear hb); (try clear hb2); (try clear hk); (try clear hi); have p384 : 0 ≤ ((ji41) : Int) := of_decide_eq_true (by first | (with_reducible assumption) | assumption); have q384 : (ji41) < (t365.length : Int) := of_decide_eq_true (by first | (with_reducible assumption) | assumption); obtain ⟨ad384, e384, hx384_0⟩ := Kd.at_int (Kd.R_reads' HO_11.out).2.2 (ji41) p384 q384; obtain rfl : ad376 = ad384 := (by injection e384); replace p384 := eq_true p384; replace q384 := eq_true q384; have p385 : 0 ≤ (x15_2 : Int) := of_decide_eq_true (by first | (with_reducible assumption) | assumption); have q385 : x15_2 < (t365.length : Int) := of_decide_eq_true (by first | (with_reducible assumption) | assumption); obtain ⟨ad385, e385, hx385_0⟩ := Kd.at_int (Kd.R_reads' HO_11.out).2.2 x15_2 p385 q385; obtain rfl : ad376 = ad385 := (by injection e385); replace p385 := eq_true p385; replace q385 := eq_true q385)); try go_wp2_with (first | (go_at_call 50; (with_reducible refine (impl_ScoreOf.calls ((rd_T68 t353 (rd t365 (ji41))).f0) ((rd_T68 t353 (rd t365 (ji41))).f1) ((rd_T68 t353 (rd t365 (ji41))).f2) t378 true _ A46.out).mono ?_); rintro e w57 ⟨rfl, hb⟩; have n0_ := Aside0.mk (Kd.R_below (by (with_reducible repeat (first | apply Kd.R_alloc | apply Kd.R_drewN | apply Kd.R_drew)); exact HO_5.out) hb); have n1_ := Aside0.mk (Kd.S_below (by (with_reducible repeat (first | apply Kd.S_alloc | apply Kd.S_drewN | apply Kd.S_drew)); exact HO_7.out) hb); have n2_ := Aside0.mk (Kd.R_below (by (with_reducible repeat (first | apply Kd.R_alloc | apply Kd.R_drewN | apply Kd.R_drew)); exact HO_11.out) hb); have n3_ := Aside0.mk (below_step (belowd HB) hb); clear HO_5; clear HO_7; clear HO_11; clear HB; have HO_5 := n0_; have HO_7 := n1_; have HO_11 := n2_; have HB := n3_; clear n0_ n1_ n2_ n3_; (try clear hb); (try clear hb2); (try clear hk); (try clear hi); have p380 : 0 ≤ (x15_2 : Int) := of_decide_eq_true (by first | (with_reducible assumption) | assumption); have q380 : x15_2 < (t365.length : Int) := of_decide_eq_true (by first | (with_reducible assumption) | assumption); obtain ⟨ad380, e380, hx380_0⟩ := Kd.at_int (Kd.R_reads' HO_11.out).2.2 x15_2 p380 q380; obtain rfl : ad376 = ad380 := (by injection e380); replace p380 := eq_true p380; replace q380 := eq_true q380; have p381 : 0 ≤ ((rd t365 x15_2) : Int) := of_decide_eq_true (by first | (with_reducible assumption) | assumption); have q381 : (rd t365 x15_2) < (t353.length : Int) := of_decide_eq_true (by first | (with_reducible assumption) | assumption); obtain ⟨ad381, e381, hx381_0, hx381_1, hx381_2⟩ := at_T68 (Kd.R_reads' HO_5.out).2.2 (rd t365 x15_2) p381 q381; obtain rfl : ad377 = ad381 := (by injection e381); replace p381 := eq_true p381; replace q381 := eq_true q381) | (go_at_call 50; (with_reducible refine (impl_ScoreOf.calls ((rd_T68 t353 (rd t365 x15_2)).f0) ((rd_T68 t353 (rd t365 x15_2)).f1) ((rd_T68 t353 (rd t365 x15_2)).f2) t382 true _ A50.out).mono ?_); rintro e w58 ⟨rfl, hb⟩; have n0_ := Aside0.mk (Kd.R_below (by (with_reducible repeat (first | apply Kd.R_alloc | apply Kd.R_drewN | apply Kd.R_drew)); exact HO_5.out) hb); have n1_ := Aside0.mk (Kd.S_below (by (with_reducible repeat (first | apply Kd.S_alloc | apply Kd.S_drewN | apply Kd.S_drew)); exact HO_7.out) hb); have n2_ := Aside0.mk (Kd.R_below (by (with_reducible repeat (first | apply Kd.R_alloc | apply Kd.R_drewN | apply Kd.R_drew)); exact HO_11.out) hb); have n3_ := Aside0.mk (below_step (belowd HB) hb); clear HO_5; clear HO_7; clear HO_11; clear HB; have HO_5 := n0_; have HO_7 := n1_; have HO_11 := n2_; have HB := n3_; clear n0_ n1_ n2_ n3_; (try clear hb); (try clear hb2); (try clear hk); (try clear hi); have p384 : 0 ≤ ((ji41) : Int) := of_decide_eq_true (by first | (with_reducible assumption) | assumption); have q384 : (ji41) < (t365.length : Int) := of_decide_eq_true (by first | (with_reducible assumption) | assumption); obtain ⟨ad384, e384, hx384_0⟩ := Kd.at_int (Kd.R_reads' HO_11.out).2.2 (ji41) p384 q384; obtain rfl : ad376 = ad384 := (by injection e384); replace p384 := eq_true p384; replace q384 := eq_true q384; have p385 : 0 ≤ (x15_2 : Int) := of_decide_eq_true (by first | (with_reducible assumption) | assumption); have q385 : x15_2 < (t365.length : Int) := of_decide_eq_true (by first | (with_reducible assumption) | assumption); obtain ⟨ad385, e385, hx385_0⟩ := Kd.at_int (Kd.R_reads' HO_11.out).2.2 x15_2 p385 q385; obtain rfl : ad376 = ad385 := (by injection e385); replace p385 := eq_true p385; replace q385 := eq_true q385)))
                      go_roundg k2
                      case measure => have := HJ8.out; have := HK2.out; omega
                      case rel => exact ⟨(wrap64 (x15_2 + 1)), (by first | rfl | (simp; done) | (simp [*]; done)), H', ⟨by have := HJ8.out; have := HK2.out; omega⟩, ⟨by (with_reducible repeat (first | apply Kd.R_alloc | apply Kd.R_drewN | apply Kd.R_drew)); exact HO_5.out⟩, ⟨by (with_reducible repeat (first | apply Kd.S_alloc | apply Kd.S_drewN | apply Kd.S_drew)); exact HO_7.out⟩, ⟨by (with_reducible repeat (first | apply Kd.R_alloc | apply Kd.R_drewN | apply Kd.R_drew)); exact HO_11.out⟩, ⟨by repeat (first | (with_reducible first | exact HB.out | apply below_alloc | apply pw_below_drewN | apply below_drew1) | exact HB.out)⟩⟩
                    ·rw [if_neg c54] at H
                     have c54b0 : (t378 == t382) = false := beq_eq_false_iff_ne.mpr c54
                     have c54b1 : (t378 != t382) = true := bne_iff_ne.mpr c54
                     have H' := Aside0.mk H
                     clear H
                     obtain ⟨Ao59, co59, eo59⟩ := Kd.R_slice HO_11.out
                     subst eo59
                     have p376 : 0 ≤ ((ji41) : Int) := of_decide_eq_true (by first | (with_reducible assumption) | assumption)
                     have q376 : (ji41) < (t365.length : Int) := of_decide_eq_true (by first | (with_reducible assumption) | assumption)
                     obtain ⟨ad376, e376, hx376_0⟩ := Kd.at_int (Kd.R_reads' HO_11.out).2.2 (ji41) p376 q376
                     cases e376
                     replace p376 := eq_true p376
                     replace q376 := eq_true q376
                     have p377 : 0 ≤ ((rd t365 (ji41)) : Int) := of_decide_eq_true (by first | (with_reducible assumption) | assumption)
                     have q377 : (rd t365 (ji41)) < (t353.length : Int) := of_decide_eq_true (by first | (with_reducible assumption) | assumption)
                     obtain ⟨ad377, e377, hx377_0, hx377_1, hx377_2⟩ := at_T68 (Kd.R_reads' HO_5.out).2.2 (rd t365 (ji41)) p377 q377
                     cases e377
                     replace p377 := eq_true p377
                     replace q377 := eq_true q377
                     go_wp2_with (first | (go_at_call 50; (with_reducible refine (impl_ScoreOf.calls ((rd_T68 t353 (rd t365 (ji41))).f0) ((rd_T68 t353 (rd t365 (ji41))).f1) ((rd_T68 t353 (rd t365 (ji41))).f2) t378 true _ A46.out).mono ?_); rintro e w60 ⟨rfl, hb⟩; have n0_ := Aside0.mk (Kd.R_below (by (with_reducible repeat (first | apply Kd.R_alloc | apply Kd.R_drewN | apply Kd.R_drew)); exact HO_5.out) hb); have n1_ := Aside0.mk (Kd.S_below (by (with_reducible repeat (first | apply Kd.S_alloc | apply Kd.S_drewN | apply Kd.S_drew)); exact HO_7.out) hb); have n2_ := Aside0.mk (Kd.R_below (by (with_reducible repeat (first | apply Kd.R_alloc | apply Kd.R_drewN | apply Kd.R_drew)); exact HO_11.out) hb); have n3_ := Aside0.mk (below_step (belowd HB) hb); clear HO_5; clear HO_7; clear HO_11; clear HB; have HO_5 := n0_; have HO_7 := n1_; have HO_11 := n2_; have HB := n3_; clear n0_ n1_ n2_ n3_; (try clear hb); (try clear hb2); (try clear hk); (try clear hi); have p380 : 0 ≤ (x15_2 : Int) := of_decide_eq_true (by first | (with_reducible assumption) | assumption); have q380 : x15_2 < (t365.length : Int) := of_decide_eq_true (by first | (with_reducible assumption) | assumption); obtain ⟨ad380, e380, hx380_0⟩ := Kd.at_int (Kd.R_reads' HO_11.out).2.2 x15_2 p380 q380; obtain rfl : ad376 = ad380 := (by injection e380); replace p380 := eq_true p380; replace q380 := eq_true q380; have p381 : 0 ≤ ((rd t365 x15_2) : Int) := of_decide_eq_true (by first | (with_reducible assumption) | assumption); have q381 : (rd t365 x15_2) < (t353.length : Int) := of_decide_eq_true (by first | (with_reducible assumption) | assumption); obtain ⟨ad381, e381, hx381_0, hx381_1, hx381_2⟩ := at_T68 (Kd.R_reads' HO_5.out).2.2 (rd t365 x15_2) p381 q381; obtain rfl : ad377 = ad381 := (by injection e381); replace p381 := eq_true p381; replace q381 := eq_true q381) | (go_at_call 50; (with_reducible refine (impl_ScoreOf.calls ((rd_T68 t353 (rd t365 x15_2)).f0) ((rd_T68 t353 (rd t365 x15_2)).f1) ((rd_T68 t353 (rd t365 x15_2)).f2) t382 true _ A50.out).mono ?_); rintro e w61 ⟨rfl, hb⟩; have n0_ := Aside0.mk (Kd.R_below (by (with_reducible repeat (first | apply Kd.R_alloc | apply Kd.R_drewN | apply Kd.R_drew)); exact HO_5.out) hb); have n1_ := Aside0.mk (Kd.S_below (by (with_reducible repeat (first | apply Kd.S_alloc | apply Kd.S_drewN | apply Kd.S_drew)); exact HO_7.out) hb); have n2_ := Aside0.mk (Kd.R_below (by (with_reducible repeat (first | apply Kd.R_alloc | apply Kd.R_drewN | apply Kd.R_drew)); exact HO_11.out) hb); have n3_ := Aside0.mk (below_step (belowd HB) hb); clear HO_5; clear HO_7; clear HO_11; clear HB; have HO_5 := n0_; have HO_7 := n1_; have HO_11 := n2_; have HB := n3_; clear n0_ n1_ n2_ n3_; (try clear hb); (try clear hb2); (try clear hk); (try clear hi)))
                     repeat (go_quiet (first | (go_at_call 50; (with_reducible refine (impl_ScoreOf.calls ((rd_T68 t353 (rd t365 (ji41))).f0) ((rd_T68 t353 (rd t365 (ji41))).f1) ((rd_T68 t353 (rd t365 (ji41))).f2) t378 true _ A46.out).mono ?_); rintro e w60 ⟨rfl, hb⟩; have n0_ := Aside0.mk (Kd.R_below (by (with_reducible repeat (first | apply Kd.R_alloc | apply Kd.R_drewN | apply Kd.R_drew)); exact HO_5.out) hb); have n1_ := Aside0.mk (Kd.S_below (by (with_reducible repeat (first | apply Kd.S_alloc | apply Kd.S_drewN | apply Kd.S_drew)); exact HO_7.out) hb); have n2_ := Aside0.mk (Kd.R_below (by (with_reducible repeat (first | apply Kd.R_alloc | apply Kd.R_drewN | apply Kd.R_drew)); exact HO_11.out) hb); have n3_ := Aside0.mk (below_step (belowd HB) hb); clear HO_5; clear HO_7; clear HO_11; clear HB; have HO_5 := n0_; have HO_7 := n1_; have HO_11 := n2_; have HB := n3_; clear n0_ n1_ n2_ n3_; (try clear hb); (try clear hb2); (try clear hk); (try clear hi); have p380 : 0 ≤ (x15_2 : Int) := of_decide_eq_true (by first | (with_reducible assumption) | assumption); have q380 : x15_2 < (t365.length : Int) := of_decide_eq_true (by first | (with_reducible assumption) | assumption); obtain ⟨ad380, e380, hx380_0⟩ := Kd.at_int (Kd.R_reads' HO_11.out).2.2 x15_2 p380 q380; obtain rfl : ad376 = ad380 := (by injection e380); replace p380 := eq_true p380; replace q380 := eq_true q380; have p381 : 0 ≤ ((rd t365 x15_2) : Int) := of_decide_eq_true (by first | (with_reducible assumption) | assumption); have q381 : (rd t365 x15_2) < (t353.length : Int) := of_decide_eq_true (by first | (with_reducible assumption) | assumption); obtain ⟨ad381, e381, hx381_0, hx381_1, hx381_2⟩ := at_T68 (Kd.R_reads' HO_5.out).2.2 (rd t365 x15_2) p381 q381; obtain rfl : ad377 = ad381 := (by injection e381); replace p381 := eq_true p381; replace q381 := eq_true q381) | (go_at_call 50; (with_reducible refine (impl_ScoreOf.calls ((rd_T68 t353 (rd t365 x15_2)).f0) ((rd_T68 t353 (rd t365 x15_2)).f1) ((rd_T68 t353 (rd t365 x15_2)).f2) t382 true _ A50.out).mono ?_); rintro e w61 ⟨rfl, hb⟩; have n0_ := Aside0.mk (Kd.R_below (by (with_reducible repeat (first | apply Kd.R_alloc | apply Kd.R_drewN | apply Kd.R_drew)); exact HO_5.out) hb); have n1_ := Aside0.mk (Kd.S_below (by (with_reducible repeat (first | apply Kd.S_alloc | apply Kd.S_drewN | apply Kd.S_drew)); exact HO_7.out) hb); have n2_ := Aside0.mk (Kd.R_below (by (with_reducible repeat (first | apply Kd.R_alloc | apply Kd.R_drewN | apply Kd.R_drew)); exact HO_11.out) hb); have n3_ := Aside0.mk (below_step (belowd HB) hb); clear HO_5; clear HO_7; clear HO_11; clear HB; have HO_5 := n0_; have HO_7 := n1_; have HO_11 := n2_; have HB := n3_; clear n0_ n1_ n2_ n3_; (try clear hb); (try clear hb2); (try clear hk); (try clear hi))); try go_wp2_with (first | (go_at_call 50; (with_reducible refine (impl_ScoreOf.calls ((rd_T68 t353 (rd t365 (ji41))).f0) ((rd_T68 t353 (rd t365 (ji41))).f1) ((rd_T68 t353 (rd t365 (ji41))).f2) t378 true _ A46.out).mono ?_); rintro e w60 ⟨rfl, hb⟩; have n0_ := Aside0.mk (Kd.R_below (by (with_reducible repeat (first | apply Kd.R_alloc | apply Kd.R_drewN | apply Kd.R_drew)); exact HO_5.out) hb); have n1_ := Aside0.mk (Kd.S_below (by (with_reducible repeat (first | apply Kd.S_alloc | apply Kd.S_drewN | apply Kd.S_drew)); exact HO_7.out) hb); have n2_ := Aside0.mk (Kd.R_below (by (with_reducible repeat (first | apply Kd.R_alloc | apply Kd.R_drewN | apply Kd.R_drew)); exact HO_11.out) hb); have n3_ := Aside0.mk (below_step (belowd HB) hb); clear HO_5; clear HO_7; clear HO_11; clear HB; have HO_5 := n0_; have HO_7 := n1_; have HO_11 := n2_; have HB := n3_; clear n0_ n1_ n2_ n3_; (try clear hb); (try clear hb2); (try clear hk); (try clear hi); have p380 : 0 ≤ (x15_2 : Int) := of_decide_eq_true (by first | (with_reducible assumption) | assumption); have q380 : x15_2 < (t365.length : Int) := of_decide_eq_true (by first | (with_reducible assumption) | assumption); obtain ⟨ad380, e380, hx380_0⟩ := Kd.at_int (Kd.R_reads' HO_11.out).2.2 x15_2 p380 q380; obtain rfl : ad376 = ad380 := (by injection e380); replace p380 := eq_true p380; replace q380 := eq_true q380; have p381 : 0 ≤ ((rd t365 x15_2) : Int) := of_decide_eq_true (by first | (with_reducible assumption) | assumption); have q381 : (rd t365 x15_2) < (t353.length : Int) := of_decide_eq_true (by first | (with_reducible assumption) | assumption); obtain ⟨ad381, e381, hx381_0, hx381_1, hx381_2⟩ := at_T68 (Kd.R_reads' HO_5.out).2.2 (rd t365 x15_2) p381 q381; obtain rfl : ad377 = ad381 := (by injection e381); replace p381 := eq_true p381; replace q381 := eq_true q381) | (go_at_call 50; (with_reducible refine (impl_ScoreOf.calls ((rd_T68 t353 (rd t365 x15_2)).f0) ((rd_T68 t353 (rd t365 x15_2)).f1) ((rd_T68 t353 (rd t365 x15_2)).f2) t382 true _ A50.out).mono ?_); rintro e w61 ⟨rfl, hb⟩; have n0_ := Aside0.mk (Kd.R_below (by (with_reducible repeat (first | apply Kd.R_alloc | apply Kd.R_drewN | apply Kd.R_drew)); exact HO_5.out) hb); have n1_ := Aside0.mk (Kd.S_below (by (with_reducible repeat (first | apply Kd.S_alloc | apply Kd.S_drewN | apply Kd.S_drew)); exact HO_7.out) hb); have n2_ := Aside0.mk (Kd.R_below (by (with_reducible repeat (first | apply Kd.R_alloc | apply Kd.R_drewN | apply Kd.R_drew)); exact HO_11.out) hb); have n3_ := Aside0.mk (below_step (belowd HB) hb); clear HO_5; clear HO_7; clear HO_11; clear HB; have HO_5 := n0_; have HO_7 := n1_; have HO_11 := n2_; have HB := n3_; clear n0_ n1_ n2_ n3_; (try clear hb); (try clear hb2); (try clear hk); (try clear hi))))
                     go_roundg k2
                     case measure => have := HJ8.out; have := HK2.out; omega
                     case rel => exact ⟨(wrap64 (x15_2 + 1)), (by first | rfl | (simp; done) | (simp [*]; done)), H', ⟨by have := HJ8.out; have := HK2.out; omega⟩, ⟨by (with_reducible repeat (first | apply Kd.R_alloc | apply Kd.R_drewN | apply Kd.R_drew)); exact HO_5.out⟩, ⟨by (with_reducible repeat (first | apply Kd.S_alloc | apply Kd.S_drewN | apply Kd.S_drew)); exact HO_7.out⟩, ⟨by (with_reducible repeat (first | apply Kd.R_alloc | apply Kd.R_drewN | apply Kd.R_drew)); exact HO_11.out⟩, ⟨by repeat (first | (with_reducible first | exact HB.out | apply below_alloc | apply pw_below_drewN | apply below_drew1) | exact HB.out)⟩⟩
                  ·replace c52 := Bool.eq_false_iff.mpr c52
                   subst c52
                   have H1 : (some false) = some r := by rw [if_neg (show ¬ (false = true) by decide)] at H; exact H
                   clear H
                   have H := H1
                   clear H1
                   exact absurd (H.trans (congrArg some hr_)) (by simp)
                 ·replace c51 := Bool.eq_false_iff.mpr c51
                  subst c51
                  have H1 : (some false) = some r := by rw [if_neg (show ¬ (false = true) by decide)] at H; exact H
                  clear H
                  have H := H1
                  clear H1
                  exact absurd (H.trans (congrArg some hr_)) (by simp)
                ·rw [if_neg c49] at H
                 exact absurd H (by simp)
               ·rw [if_neg c48] at H
                exact absurd H (by simp)
              ·rw [if_neg c47] at H
               exact absurd H (by simp)
             ·rw [if_neg c45] at H
              exact absurd H (by simp)
            ·rw [if_neg c44] at H
             exact absurd H (by simp)
           ·rw [if_neg c43] at H
            exact absurd H (by simp)
          ·rw [if_neg c42] at H
           exact absurd H (by simp)
         ·rw [if_neg c40] at H
          have c40b0 : decide (x15_2 < (t365.length : Int)) = false := decide_eq_false c40
          clear c40
          (first | rw [c40b0] | (simp only [i64_w, i32_w]; rw [c40b0]) | skip)
          have H' := Aside0.mk H
          clear H
          obtain ⟨Ao62, co62, eo62⟩ := Kd.R_slice HO_11.out
          subst eo62
          go_wp2
          repeat (go_quiet (fail); try go_wp2)
          go_meet
          case rel => exact ⟨_, H', ⟨by have := HJ8.out; have := HK2.out; first | omega | exact Nat.le_refl _⟩, ⟨by (with_reducible repeat (first | apply Kd.R_alloc | apply Kd.R_drewN | apply Kd.R_drew)); exact HO_5.out⟩, ⟨by (with_reducible repeat (first | apply Kd.S_alloc | apply Kd.S_drewN | apply Kd.S_drew)); exact HO_7.out⟩, ⟨by (with_reducible repeat (first | apply Kd.R_alloc | apply Kd.R_drewN | apply Kd.R_drew)); exact HO_11.out⟩, ⟨by repeat (first | (with_reducible first | exact HB.out | apply below_alloc | apply pw_below_drewN | apply below_drew1) | exact HB.out)⟩⟩
      ·replace c39 := Bool.eq_false_iff.mpr c39
       subst c39
       have H1 : (laws_FnWays.j2 kj8 l1 t353 t354 t357 t358 t365) = some r := by rw [if_neg (show ¬ (false = true) by decide)] at H; exact H
       clear H
       have H := H1
       clear H1
       have H' := Aside0.mk H
       clear H
       go_wp2
       repeat (go_quiet (fail); try go_wp2)
       go_meet
       case rel => exact ⟨_, H', ⟨by have := HJ8.out; first | omega | exact Nat.le_refl _⟩, ⟨by (with_reducible repeat (first | apply Kd.R_alloc | apply Kd.R_drewN | apply Kd.R_drew)); exact HO_5.out⟩, ⟨by (with_reducible repeat (first | apply Kd.S_alloc | apply Kd.S_drewN | apply Kd.S_drew)); exact HO_7.out⟩, ⟨by (with_reducible repeat (first | apply Kd.R_alloc | apply Kd.R_drewN | apply Kd.R_drew)); exact HO_11.out⟩, ⟨by repeat (first | (with_reducible first | exact HB.out | apply below_alloc | apply pw_below_drewN | apply below_drew1) | exact HB.out)⟩⟩
     case rest => as_aux_lemma =>
      clear HC38
      try clear c1
      try clear c2
      try clear p2
      try clear c3
      try clear c3b0
      try clear p3
      try clear q3
      try clear hx3
      try clear c4
      try clear c5
      try clear p6
      try clear c10
      try clear c17
      try clear c17b0
      try clear c17b1
      try clear c17b2
      try clear c19
      try clear c20
      try clear c20b0
      try clear c20b1
      try clear c20b2
      try clear c24
      try clear c37
      try clear p37
      try clear q37
      try clear hx37
      try clear p38
      try clear q38
      try clear hx38
      try clear c39
      try clear c40
      try clear c40b0
      try clear c42
      try clear c42b0
      try clear c43
      try clear c43b0
      try clear c44
      try clear c44b0
      try clear c45
      try clear c45b0
      try clear c47
      try clear c47b0
      try clear c48
      try clear c48b0
      try clear c49
      try clear c49b0
      try clear c51
      try clear c52
      try clear c53
      try clear c53b0
      try clear c54
      try clear c54b0
      try clear c54b1
      try clear c55
      try clear c55b0
      try clear hx376_0
      try clear hx377_0
      try clear hx377_1
      try clear hx377_2
      try clear hx380_0
      try clear hx381_0
      try clear hx381_1
      try clear hx381_2
      try clear hx384_0
      try clear hx385_0
      try clear p2
      try clear p376
      try clear p377
      try clear p380
      try clear p381
      try clear p384
      try clear p385
      try clear p6
      try clear q376
      try clear q377
      try clear q380
      try clear q381
      try clear q384
      try clear q385
      obtain ⟨kq, HA, HJ37, HO_5, HO_7, HO_11, HB⟩ := hcut
      cases kq with
      | zero => exact absurd HA.out (by simp [laws_FnWays.j2])
      | succ kj37 =>
       have H := HA.out
       clear HA
       simp only [laws_FnWays.j2] at H
       have HC63 := Aside0.mk H
       clear H
       go_upto_if 152 with (fail)
       repeat (go_quiet (fail); go_upto_if 152 with (fail))
       go_cut [] (fun wc => ∃ (kq : Nat), Aside0 (laws_FnWays.j5 kq l1 = some r) ∧ Aside0 (kq ≤ kj37) ∧ Aside0 (Below w.heap.size w wc))
       case first => as_aux_lemma =>
        have H := HC63.out
        clear HC63
        by_cases c64 : t358 = true
        ·subst c64
         have H1 : (laws_FnWays.l1 kj37 l1 t353 t354 t357 t365 ([] : List Int) (t357.length : Int) 0) = some r := by rw [if_pos rfl] at H; exact H
         clear H
         have H := H1
         clear H1
         have H' := Aside0.mk H
         clear H
         obtain ⟨Ao65, co65, eo65⟩ := Kd.S_slice HO_7.out
         subst eo65
         go_wp2
         repeat (go_quiet (fail); try go_wp2)
         go_loopg [20, 155] kj37 (fun kq v20 v155 w' => ∃ (x20_3 : List Int) (x155_3 : Int), v155 = .int .i64 x155_3 ∧ Aside0 (laws_FnWays.l1 kq l1 t353 t354 t357 t365 x20_3 (t357.length : Int) x155_3 = some r) ∧ Aside0 (kq ≤ kj37) ∧ Aside0 (Kd.R k68 68 w' w.heap.size (fun _ => True) (.slice Ao11 t353.length co11) t353) ∧ Aside0 (Kd.S (Kd.slice 3 (Kd.int .i64)) 22 w' w.heap.size (fun k_ => some k_ ≠ (v367 : Value).ownBlock ∧ some k_ ≠ (v20 : Value).ownBlock ∧ k_ < N14) (.slice Ao65 t357.length co65) t357) ∧ Aside0 (Kd.R (Kd.int .i64) 3 w' w.heap.size (fun k_ => some k_ ≠ (v20 : Value).ownBlock) v367 t365) ∧ Aside0 (Kd.R (Kd.int .i64) 3 w' w.heap.size (fun k_ => some k_ ≠ (v367 : Value).ownBlock) v20 x20_3) ∧ Aside0 (Below w.heap.size w w'))
         case atStart => exact ⟨(([] : List Int)), (0), (by first | rfl | (simp; done) | (simp [*]; done)), H', ⟨Nat.le_refl _⟩, ⟨by (with_reducible repeat (first | apply Kd.R_alloc | apply Kd.R_drewN | apply Kd.R_drew)); exact HO_5.out⟩, ⟨by (with_reducible repeat (first | apply Kd.S_alloc | apply Kd.S_drewN | apply Kd.S_drew)); exact Kd.S_mono HO_7.out (fun _ hk => ⟨hk.1, ⟨(by simp [Value.ownBlock]), hk.2⟩⟩)⟩, ⟨by (with_reducible repeat (first | apply Kd.R_alloc | apply Kd.R_drewN | apply Kd.R_drew)); exact Kd.R_mono HO_11.out (fun _ hk => (by simp [Value.ownBlock]))⟩, ⟨by first | exact Kd.R_nil _ _ _ _ _ | exact Kd.N_nil _ _ _ _ _ | exact Kd.V_nil _ _ _ _ _ | exact Kd.Q_nil _ _ _ _ _ | exact Kd.S_nil _ _ _ _ _⟩, ⟨by repeat (first | (with_reducible first | exact HB.out | apply below_alloc | apply pw_below_drewN | apply below_drew1) | exact HB.out)⟩⟩
         case round => as_aux_lemma =>
          clear H'
          try clear c1
          try clear c2
          try clear p2
          try clear c3
          try clear c3b0
          try clear p3
          try clear q3
          try clear hx3
          try clear c4
          try clear c5
          try clear c6
          try clear p6
          try clear c10
          try clear c17
          try clear c17b0
          try clear c17b1
          try clear c17b2
          try clear c19
          try clear c20
          try clear c20b0
          try clear c20b1
          try clear c20b2
          try clear c24
          try clear c37
          try clear p37
          try clear q37
          try clear hx37
          try clear p38
          try clear q38
          try clear hx38
          try clear c39
          try clear c40
          try clear c40b0
          try clear c42
          try clear c42b0
          try clear c43
          try clear c43b0
          try clear c44
          try clear c44b0
          try clear c45
          try clear c45b0
          try clear c47
          try clear c47b0
          try clear c48
          try clear c48b0
          try clear c49
          try clear c49b0
          try clear c51
          try clear c52
          try clear c53
          try clear c53b0
          try clear c54
          try clear c54b0
          try clear c54b1
          try clear c55
          try clear c55b0
          try clear c64
          try clear p64
          try clear hx376_0
          try clear hx377_0
          try clear hx377_1
          try clear hx377_2
          try clear hx380_0
          try clear hx381_0
          try clear hx381_1
          try clear hx381_2
          try clear hx384_0
          try clear hx385_0
          try clear p2
          try clear p3
          try clear p37
          try clear p376
          try clear p377
          try clear p38
          try clear p380
          try clear p381
          try clear p384
          try clear p385
          try clear p6
          try clear q3
          try clear q37
          try clear q376
          try clear q377
          try clear q38
          try clear q380
          try clear q381
          try clear q384
          try clear q385
          obtain ⟨x20_3, x155_3, rfl, HA, HK3, HO_5, HO_7, HO_11, HO_20, HB⟩ := hrel
          cases gk with
          | zero => exact absurd HA.out (by simp [laws_FnWays.l1])
          | succ k3 =>
           have H := HA.out
           clear HA
           simp only [laws_FnWays.l1] at H
           by_cases c66 : x155_3 < (t357.length : Int)
           ·rw [if_pos c66] at H
            have c66b0 : decide (x155_3 < (t357.length : Int)) = true := decide_eq_true c66
            clear c66
            (first | rw [c66b0] | (simp only [i64_w, i32_w]; rw [c66b0]) | skip)
            by_cases c67 : 0 ≤ x155_3
            ·rw [if_pos c67] at H
             have c67b0 : decide (0 ≤ x155_3) = true := decide_eq_true c67
             clear c67
             by_cases c68 : x155_3 < (t357.length : Int)
             ·rw [if_pos c68] at H
              have c68b0 : decide (x155_3 < (t357.length : Int)) = true := decide_eq_true c68
              clear c68
              by_cases c69 : ((rd_L2 t357 x155_3).length : Int) = t354
              ·rw [if_pos c69] at H
               have c69b0 : (((rd_L2 t357 x155_3).length : Int) == t354) = true := beq_iff_eq.mpr c69
               have c69b1 : (((rd_L2 t357 x155_3).length : Int) != t354) = false := bne_eq_false_iff_eq.mpr c69
               clear c69
               have H' := Aside0.mk H
               clear H
               have p386 : 0 ≤ (x155_3 : Int) := of_decide_eq_true (by first | (with_reducible assumption) | assumption)
               have q386 : x155_3 < (t357.length : Int) := of_decide_eq_true (by first | (with_reducible assumption) | assumption)
               obtain ⟨ad386, A386_0, c386_0, e386, hx386_0, hl386_0, hi386_0⟩ := at_L2 (Kd.S_reads' HO_7.out).2.2 x155_3 p386 q386
               cases e386
               obtain ⟨ce386, hce386, hMe386, hcc386⟩ := Kd.S_get HO_7.out [] x155_3 p386 (by first | exact q386 | exact of_decide_eq_true (by first | (with_reducible assumption) | assumption) | (have e_ := (Kd.S_reads' HO_7.out).1; omega))
               obtain ⟨ve386_0, rfl, ge386_0⟩ := hMe386
               have hv386_0 := hcc386 0 _ rfl
               rw [Nat.add_zero, show ((Kd.slice 3 (Kd.int .i64))).sz = 1 from rfl, Nat.mul_one] at hv386_0
               replace hv386_0 := Option.some.inj (hv386_0.symm.trans hx386_0)
               rw [hv386_0] at ge386_0
               have HL386_0 := Aside0.mk (show Kd.R (Kd.int .i64) 3 _ _ _ _ (rd_L2 t357 x155_3) from ge386_0)
               clear hv386_0 ge386_0
               clear hcc386 hce386
               have HR386_0 := Aside0.mk hi386_0
               have HC386_0 := Aside0.mk hl386_0
               clear hi386_0 hl386_0
               replace p386 := eq_true p386
               replace q386 := eq_true q386
               go_wp2
               repeat (go_quiet (fail); try go_wp2)
               go_loopg [20, 165] k3 (fun kq v20 v165 w' => ∃ (x20_4 : List Int) (x165_4 : Int), v165 = .int .i64 x165_4 ∧ Aside0 (laws_FnWays.l2 kq l1 t353 t354 t357 t365 x20_4 (t357.length : Int) x155_3 (rd_L2 t357 x155_3) ((rd_L2 t357 x155_3).length : Int) x165_4 = some r) ∧ Aside0 (kq ≤ k3) ∧ Aside0 (Kd.R k68 68 w' w.heap.size (fun _ => True) (.slice Ao11 t353.length co11) t353) ∧ Aside0 (Kd.S (Kd.slice 3 (Kd.int .i64)) 22 w' w.heap.size (fun k_ => some k_ ≠ (v367 : Value).ownBlock ∧ some k_ ≠ (v20 : Value).ownBlock ∧ k_ < N14) (.slice (some ad386) t357.length co65) t357) ∧ Aside0 (Kd.R (Kd.int .i64) 3 w' w.heap.size (fun k_ => some k_ ≠ (v20 : Value).ownBlock) v367 t365) ∧ Aside0 (Kd.R (Kd.int .i64) 3 w' w.heap.size (fun k_ => some k_ ≠ (v367 : Value).ownBlock) v20 x20_4) ∧ Aside0 (Kd.R (Kd.int .i64) 3 w' w.heap.size (fun k_ => some k_ ≠ (v367 : Value).ownBlock ∧ some k_ ≠ (v20 : Value).ownBlock) (.slice A386_0 (rd_L2 t357 x155_3).length c386_0) (rd_L2 t357 x155_3)) ∧ Aside0 (Below w.heap.size w w'))
               case atStart => exact ⟨(x20_3), (0), (by first | rfl | (simp; done) | (simp [*]; done)), H', ⟨Nat.le_refl _⟩, ⟨by (with_reducible repeat (first | apply Kd.R_alloc | apply Kd.R_drewN | apply Kd.R_drew)); exact HO_5.out⟩, ⟨by (with_reducible repeat (first | apply Kd.S_alloc | apply Kd.S_drewN | apply Kd.S_drew)); exact HO_7.out⟩, ⟨by (with_reducible repeat (first | apply Kd.R_alloc | apply Kd.R_drewN | apply Kd.R_drew)); exact HO_11.out⟩, ⟨by (with_reducible repeat (first | apply Kd.R_alloc | apply Kd.R_drewN | apply Kd.R_drew)); exact HO_20.out⟩, ⟨by (with_reducible repeat (first | apply Kd.R_alloc | apply Kd.R_drewN | apply Kd.R_drew)); exact Kd.R_mono HL386_0.out (fun _ hk => ⟨hk.1.1, hk.1.2.1⟩)⟩, ⟨by repeat (first | (with_reducible first | exact HB.out | apply below_alloc | apply pw_below_drewN | apply below_drew1) | exact HB.out)⟩⟩
               case round => as_aux_lemma =>
                clear H'
                try clear c1
                try clear c2
                try clear p2
                try clear c3
                try clear c3b0
                try clear p3
                try clear q3
                try clear hx3
                try clear c4
                try clear c5
                try clear c6
                try clear p6
                try clear c10
                try clear c17
                try clear c17b0
                try clear c17b1
                try clear c17b2
                try clear c19
                try clear c20
                try clear c20b0
                try clear c20b1
                try clear c20b2
                try clear c24
                try clear c37
                try clear p37
                try clear q37
                try clear hx37
                try clear c38
                try clear p38
                try clear q38
                try clear hx38
                try clear c39
                try clear c40
                try clear c40b0
                try clear c42
                try clear c42b0
                try clear c43
                try clear c43b0
                try clear c44
                try clear c44b0
                try clear c45
                try clear c45b0
                try clear c47
                try clear c47b0
                try clear c48
                try clear c48b0
                try clear c49
                try clear c49b0
                try clear c51
                try clear c52
                try clear c53
                try clear c53b0
                try clear c54
                try clear c54b0
                try clear c54b1
                try clear c55
                try clear c55b0
                try clear c64
                try clear p64
                try clear c66
                try clear c66b0
                try clear c67
                try clear c67b0
                try clear c68
                try clear c68b0
                try clear c69
                try clear c69b0
                try clear c69b1
                try clear hx376_0
                try clear hx377_0
                try clear hx377_1
                try clear hx377_2
                try clear hx380_0
                try clear hx381_0
                try clear hx381_1
                try clear hx381_2
                try clear hx384_0
                try clear hx385_0
                try clear hx386_0
                try clear p2
                try clear p3
                try clear p37
                try clear p376
                try clear p377
                try clear p38
                try clear p380
                try clear p381
                try clear p384
                try clear p385
                try clear p386
                try clear p6
                try clear p64
                try clear q3
                try clear q37
                try clear q376
                try clear q377
                try clear q38
                try clear q380
                try clear q381
                try clear q384
                try clear q385
                try clear q386
                obtain ⟨x20_4, x165_4, rfl, HA, HK4, HO_5, HO_7, HO_11, HO_20, HO_163, HB⟩ := hrel
                cases gk with
                | zero => exact absurd HA.out (by simp [laws_FnWays.l2])
                | succ k4 =>
                 have H := HA.out
                 clear HA
                 simp only [laws_FnWays.l2] at H
                 by_cases c70 : x165_4 < ((rd_L2 t357 x155_3).length : Int)
                 ·rw [if_pos c70] at H
                  have c70b0 : decide (x165_4 < ((rd_L2 t357 x155_3).length : Int)) = true := decide_eq_true c70
                  clear c70
                  by_cases c71 : 0 ≤ x165_4
                  ·rw [if_pos c71] at H
                   have c71b0 : decide (0 ≤ x165_4) = true := decide_eq_true c71
                   clear c71
                   by_cases c72 : x165_4 < ((rd_L2 t357 x155_3).length : Int)
                   ·rw [if_pos c72] at H
                    have c72b0 : decide (x165_4 < ((rd_L2 t357 x155_3).length : Int)) = true := decide_eq_true c72
                    clear c72
                    replace H := Option.bind_eq_some_iff.mp H
                    obtain ⟨t388, A730, H⟩ := H
                    replace H : (if t388 = true then (some false) else (if 0 ≤ (wrap64 ((t357.length : Int) * t354)) then (if (wrap64 ((t357.length : Int) * t354)) ≤ (t365.length : Int) then ((laws_has.f k4 (t365.take ((wrap64 ((t357.length : Int) * t354)) : Int).toNat) (rd (rd_L2 t357 x155_3) x165_4)).bind fun t393 => (if t393 = true then (if x20_4.length < 17592186044416 then (laws_FnWays.l2 k4 l1 t353 t354 t357 t365 (x20_4 ++ [rd (rd_L2 t357 x155_3) x165_4]) (t357.length : Int) x155_3 (rd_L2 t357 x155_3) ((rd_L2 t357 x155_3).length : Int) (wrap64 (x165_4 + 1))) else (none)) else (some false))) else (none)) else (none))) = some r := H
                    have A73 := Aside0.mk A730
                    clear A730
                    by_cases c74 : t388 = true
                    ·subst c74
                     have H1 : (some false) = some r := by rw [if_pos rfl] at H; exact H
                     clear H
                     have H := H1
                     clear H1
                     exact absurd (H.trans (congrArg some hr_)) (by simp)
                    ·replace c74 := Bool.eq_false_iff.mpr c74
                     subst c74
                     have H1 : (if 0 ≤ (wrap64 ((t357.length : Int) * t354)) then (if (wrap64 ((t357.length : Int) * t354)) ≤ (t365.length : Int) then ((laws_has.f k4 (t365.take ((wrap64 ((t357.length : Int) * t354)) : Int).toNat) (rd (rd_L2 t357 x155_3) x165_4)).bind fun t393 => (if t393 = true then (if x20_4.length < 17592186044416 then (laws_FnWays.l2 k4 l1 t353 t354 t357 t365 (x20_4 ++ [rd (rd_L2 t357 x155_3) x165_4]) (t357.length : Int) x155_3 (rd_L2 t357 x155_3) ((rd_L2 t357 x155_3).length : Int) (wrap64 (x165_4 + 1))) else (none)) else (some false))) else (none)) else (none)) = some r := by rw [if_neg (show ¬ (false = true) by decide)] at H; exact H
                     clear H
                     have H := H1
                     clear H1
                     obtain ⟨ji75, hji75⟩ : ∃ j_ : Int, (wrap64 ((t357.length : Int) * t354)) = j_ := ⟨_, rfl⟩
                     replace H : (if 0 ≤ (ji75) then (if (ji75) ≤ (t365.length : Int) then ((laws_has.f k4 (t365.take ((ji75) : Int).toNat) (rd (rd_L2 t357 x155_3) x165_4)).bind fun t393 => (if t393 = true then (if x20_4.length < 17592186044416 then (laws_FnWays.l2 k4 l1 t353 t354 t357 t365 (x20_4 ++ [rd (rd_L2 t357 x155_3) x165_4]) (t357.length : Int) x155_3 (rd_L2 t357 x155_3) ((rd_L2 t357 x155_3).length : Int) (wrap64 (x165_4 + 1))) else (none)) else (some false))) else (none)) else (none)) = some r := by first | (rw [hji75] at H; exact H) | (simp only [hji75] at H ⊢; exact H)
                     (try rw [hji75] at A73)
                     have hji75w : (IntKind.i64.wrap ((t357.length : Int) * t354)) = ji75 := (i64_w _).trans hji75
                     by_cases c76 : 0 ≤ (ji75)
                     ·rw [if_pos c76] at H
                      have c76b0 := eq_true c76
                      have c76b1 : decide (0 ≤ (ji75)) = true := decide_eq_true c76
                      clear c76
                      by_cases c77 : (ji75) ≤ (t365.length : Int)
                      ·rw [if_pos c77] at H
                       have c77b0 := eq_true c77
                       have c77b1 : decide ((ji75) ≤ (t365.length : Int)) = true := decide_eq_true c77
                       clear c77
                       obtain ⟨y389, hy389⟩ : ∃ y_ : List Int, y_ = (t365.take ((ji75) : Int).toNat) := ⟨_, rfl⟩
                       replace H : ((laws_has.f k4 y389 (rd (rd_L2 t357 x155_3) x165_4)).bind fun t393 => (if t393 = true then (if x20_4.length < 17592186044416 then (laws_FnWays.l2 k4 l1 t353 t354 t357 t365 (x20_4 ++ [rd (rd_L2 t357 x155_3) x165_4]) (t357.length : Int) x155_3 (rd_L2 t357 x155_3) ((rd_L2 t357 x155_3).length : Int) (wrap64 (x165_4 + 1))) else (none)) else (some false))) = some r := by first | (rw [hy389]; with_reducible exact H) | (have H2_ := (Option.bind_some _ _).symm.trans H; rw [hy389]; with_reducible exact H2_) | (have H2_ := (Option.bind_some _ _).symm.trans H; with_reducible exact H2_) | with_reducible exact H | (rw [hy389]; exact H) | exact H
                       have Ny389 := Aside0.mk hy389
                       clear hy389
                       replace H := Option.bind_eq_some_iff.mp H
                       obtain ⟨t393, A780, H⟩ := H
                       replace H : (if t393 = true then (if x20_4.length < 17592186044416 then (laws_FnWays.l2 k4 l1 t353 t354 t357 t365 (x20_4 ++ [rd (rd_L2 t357 x155_3) x165_4]) (t357.length : Int) x155_3 (rd_L2 t357 x155_3) ((rd_L2 t357 x155_3).length : Int) (wrap64 (x165_4 + 1))) else (none)) else (some false)) = some r := H
                       have A78 := Aside0.mk A780
                       clear A780
                       by_cases c79 : t393 = true
                       ·subst c79
                        have H1 : (if x20_4.length < 17592186044416 then (laws_FnWays.l2 k4 l1 t353 t354 t357 t365 (x20_4 ++ [rd (rd_L2 t357 x155_3) x165_4]) (t357.length : Int) x155_3 (rd_L2 t357 x155_3) ((rd_L2 t357 x155_3).length : Int) (wrap64 (x165_4 + 1))) else (none)) = some r := by rw [if_pos rfl] at H; exact H
                        clear H
                        have H := H1
                        clear H1
                        by_cases c80 : x20_4.length < 17592186044416
                        ·rw [if_pos c80] at H
                         have LMc80 := Aside0.mk c80
                         clear c80
                         obtain ⟨y394, hy394⟩ : ∃ y_ : List Int, y_ = (x20_4 ++ [rd (rd_L2 t357 x155_3) x165_4]) := ⟨_, rfl⟩
                         replace H : (laws_FnWays.l2 k4 l1 t353 t354 t357 t365 y394 (t357.length : Int) x155_3 (rd_L2 t357 x155_3) ((rd_L2 t357 x155_3).length : Int) (wrap64 (x165_4 + 1))) = some r := by first | (rw [hy394]; with_reducible exact H) | (have H2_ := (Option.bind_some _ _).symm.trans H; rw [hy394]; with_reducible exact H2_) | (have H2_ := (Option.bind_some _ _).symm.trans H; with_reducible exact H2_) | with_reducible exact H | (rw [hy394]; exact H) | exact H
                         have Ny394 := Aside0.mk hy394
                         clear hy394
                         have H' := Aside0.mk H
                         clear H
                         have p387 : 0 ≤ (x165_4 : Int) := of_decide_eq_true (by first | (with_reducible assumption) | assumption)
                         have q387 : x165_4 < ((rd_L2 t357 x155_3).length : Int) := of_decide_eq_true (by first | (with_reducible assumption) | assumption)
                         obtain ⟨ad387, e387, hx387_0⟩ := Kd.at_int (Kd.R_reads' HO_163.out).2.2 x165_4 p387 q387
                         cases e387
                         replace p387 := eq_true p387
                         replace q387 := eq_true q387
                         obtain ⟨Ao81, co81, eo81⟩ := Kd.R_slice HO_20.out
                         subst eo81
                         go_wp2_with (first | (go_at_call 51; (with_reducible refine (laws_has.calls k4 _ _ x20_4 (rd (rd_L2 t357 x155_3) x165_4) false _ ?side1 ?side2 A73.out).mono ?_); (case side1 => repeat (first | exact (Kd.R_reads' HO_20.out).2.2 | (with_reducible refine Kd.C_alloc ?_ _) | (with_reducible refine Kd.C_drewN ?_ _) | (with_reducible refine Kd.C_drew ?_))); (case side2 => exact (Kd.R_reads' HO_20.out).2.1); rintro e w' ⟨rfl, ⟨nd, rfl⟩⟩; (try first | exact ⟨rfl, _, World.drewN_drewN _ _ _⟩ | exact ⟨rfl, _, Eq.trans (World.drewN_drewN _ _ _) (congrArg (World.drewN _) (Nat.add_assoc _ _ _))⟩); obtain ⟨Ao83, co83, eo83⟩ := Kd.R_slice HO_11.out; subst eo83; have q82 : ((ji75) : Int) ≤ ((t365.length : Int) : Int) := of_decide_eq_true (by first | (with_reducible assumption) | assumption); obtain ⟨i082, hi082, _, hsz82, _⟩ := info_parts info3; have hroom82 : t365.length ≤ co83 := (Kd.R_reads' HO_11.out).2.1; have hC82 : Kd.C (Kd.int .i64) _ Ao83 t365.length t365 := (Kd.R_reads' HO_11.out).2.2; have hcut82 := cut_to (P := Try.prog) 22 3 .i64 Try.underlying22 hi082 Ao83 t365.length co83 (ji75) (of_decide_eq_true (by first | (with_reducible assumption) | assumption)) q82 hroom82; have hr82 := Kd.C_take (m := ((ji75) : Int).toNat) hC82 (by omega); have hy82 : y389.length = ((ji75) : Int).toNat := (by rw [Ny389.out, List.length_take]; omega); rw [← Ny389.out] at hr82; rw [← hy82] at hcut82; have HR392 := Aside0.mk hr82; have HC392 := Aside0.mk (show y389.length ≤ co83 from by omega); clear hr82 hC82 hroom82 hi082 hsz82; have KY82 := Aside0.mk hy82; clear hy82; have KL82 := Aside0.mk (show ((ji75) : Int).toNat ≤ t365.length from by omega); replace q82 := eq_true q82) | (go_at_call 51; (with_reducible refine (laws_has.calls k4 _ _ y389 (rd (rd_L2 t357 x155_3) x165_4) true _ ?side1 ?side2 A78.out).mono ?_); (case side1 => repeat (first | exact (by repeat (first | (with_reducible exact HR392.out) | (with_reducible refine Kd.C_alloc ?_ _) | (with_reducible refine Kd.C_drewN ?_ _) | (with_reducible refine Kd.C_drew ?_) | exact HR392.out)) | (with_reducible refine Kd.C_alloc ?_ _) | (with_reducible refine Kd.C_drewN ?_ _) | (with_reducible refine Kd.C_drew ?_))); (case side2 => exact HC392.out); rintro e w' ⟨rfl, ⟨nd, rfl⟩⟩; (try first | exact ⟨rfl, _, World.drewN_drewN _ _ _⟩ | exact ⟨rfl, _, Eq.trans (World.drewN_drewN _ _ _) (congrArg (World.drewN _) (Nat.add_assoc _ _ _))⟩)) | ((with_reducible refine gate_builtin (b := .append) (xs := #[.tmp 183, .tmp 185]) rfl ?_); (try (refine gate_guard (by rfl) ?_; dsimp only)); at_builtin; refine Kd.R_append (Kd.int .i64) (w0 := w) w.heap.size rfl (.tmp 183) (.tmp 185) 22 3 (.int .i64 0) 8 rfl Try.underlying22 info3 rfl (by decide) (by omega) (.slice Ao81 x20_4.length co81) x20_4 (rd (rd_L2 t357 x155_3) x165_4) [.int .i64 (rd (rd_L2 t357 x155_3) x165_4)] (fun k_ => some k_ ≠ (.slice Ao83 t365.length co83 : Value).ownBlock) (fun _ => False) rfl rfl ?aP (fun _ hk => hk.elim) ?aF ?aO ?aB ?aS ?aL ?_; (case aP => exact rfl); (case aB => exact (belowd HB)); (case aF => exact (fun k_ hk => Kd.fresh' (Kd.R_lt (by (with_reducible repeat (first | apply Kd.R_alloc | apply Kd.R_drewN | apply Kd.R_drew)); exact HO_11.out)) k_ hk)); (case aO => exact (by (with_reducible repeat (first | apply Kd.R_alloc | apply Kd.R_drewN | apply Kd.R_drew)); exact HO_20.out)); (case aS => exact (below_size (belowd HB))); (case aL => have := LMc80.out; omega); intro v395 w84 ho hb hg hat; rw [← Ny394.out] at ho; have n0_ := Aside0.mk (Kd.R_over' (by (with_reducible repeat (first | apply Kd.R_alloc | apply Kd.R_drewN | apply Kd.R_drew)); exact HO_5.out) (Kd.R_typed (by (with_reducible repeat (first | apply Kd.R_alloc | apply Kd.R_drewN | apply Kd.R_drew)); exact HO_20.out)) (by decide) hg); have n1_ := Aside0.mk (Kd.S_after (ok := (fun k_ => some k_ ≠ (.slice Ao83 t365.length co83 : Value).ownBlock ∧ k_ < N14)) (by (with_reducible repeat (first | apply Kd.S_alloc | apply Kd.S_drewN | apply Kd.S_drew)); exact Kd.S_mono HO_7.out (fun _ hk => ⟨⟨hk.1, hk.2.2⟩, hk.2.1⟩)) hg hat); have n2_ := Aside0.mk (Kd.R_after (ok := (fun _ => True)) (by (with_reducible repeat (first | apply Kd.R_alloc | apply Kd.R_drewN | apply Kd.R_drew)); exact Kd.R_mono HO_11.out (fun _ hk => ⟨trivial, hk⟩)) hg hat); have n3_ := Aside0.mk (Kd.R_after (ok := (fun k_ => some k_ ≠ (.slice Ao83 t365.length co83 : Value).ownBlock)) (by (with_reducible repeat (first | apply Kd.R_alloc | apply Kd.R_drewN | apply Kd.R_drew)); exact HO_163.out) hg hat); have n4_ := Aside0.mk (hb); have n5_ := Aside0.mk ((show Kd.C (Kd.int .i64) w84 Ao83 y389.length y389 from by rw [Ny389.out]; exact Kd.C_take (m := ((ji75) : Int).toNat) ((Kd.R_reads' (Kd.R_after (ok := (fun _ => True)) (by (with_reducible repeat (first | apply Kd.R_alloc | apply Kd.R_drewN | apply Kd.R_drew)); exact Kd.R_mono HO_11.out (fun _ hk => ⟨trivial, hk⟩)) hg hat)).2.2) KL82.out)); have n6_ := Aside0.mk (ho); clear HO_5; clear HO_7; clear HO_11; clear HO_163; clear HB; clear HR392; clear HO_20; have HO_5 := n0_; have HO_7 := n1_; have HO_11 := n2_; have HO_163 := n3_; have HB := n4_; have HR392 := n5_; have HO396 := n6_; clear n0_ n1_ n2_ n3_ n4_ n5_ n6_; clear ho hb hg hat))
                         repeat (go_quiet (first | (go_at_call 51; (with_reducible refine (laws_has.calls k4 _ _ x20_4 (rd (rd_L2 t357 x155_3) x165_4) false _ ?side1 ?side2 A73.out).mono ?_); (case side1 => repeat (first | exact (Kd.R_reads' HO_20.out).2.2 | (with_reducible refine Kd.C_alloc ?_ _) | (with_reducible refine Kd.C_drewN ?_ _) | (with_reducible refine Kd.C_drew ?_))); (case side2 => exact (Kd.R_reads' HO_20.out).2.1); rintro e w' ⟨rfl, ⟨nd, rfl⟩⟩; (try first | exact ⟨rfl, _, World.drewN_drewN _ _ _⟩ | exact ⟨rfl, _, Eq.trans (World.drewN_drewN _ _ _) (congrArg (World.drewN _) (Nat.add_assoc _ _ _))⟩); obtain ⟨Ao83, co83, eo83⟩ := Kd.R_slice HO_11.out; subst eo83; have q82 : ((ji75) : Int) ≤ ((t365.length : Int) : Int) := of_decide_eq_true (by first | (with_reducible assumption) | assumption); obtain ⟨i082, hi082, _, hsz82, _⟩ := info_parts info3; have hroom82 : t365.length ≤ co83 := (Kd.R_reads' HO_11.out).2.1; have hC82 : Kd.C (Kd.int .i64) _ Ao83 t365.length t365 := (Kd.R_reads' HO_11.out).2.2; have hcut82 := cut_to (P := Try.prog) 22 3 .i64 Try.underlying22 hi082 Ao83 t365.length co83 (ji75) (of_decide_eq_true (by first | (with_reducible assumption) | assumption)) q82 hroom82; have hr82 := Kd.C_take (m := ((ji75) : Int).toNat) hC82 (by omega); have hy82 : y389.length = ((ji75) : Int).toNat := (by rw [Ny389.out, List.length_take]; omega); rw [← Ny389.out] at hr82; rw [← hy82] at hcut82; have HR392 := Aside0.mk hr82; have HC392 := Aside0.mk (show y389.length ≤ co83 from by omega); clear hr82 hC82 hroom82 hi082 hsz82; have KY82 := Aside0.mk hy82; clear hy82; have KL82 := Aside0.mk (show ((ji75) : Int).toNat ≤ t365.length from by omega); replace q82 := eq_true q82) | (go_at_call 51; (with_reducible refine (laws_has.calls k4 _ _ y389 (rd (rd_L2 t357 x155_3) x165_4) true _ ?side1 ?side2 A78.out).mono ?_); (case side1 => repeat (first | exact (by repeat (first | (with_reducible exact HR392.out) | (with_reducible refine Kd.C_alloc ?_ _) | (with_reducible refine Kd.C_drewN ?_ _) | (with_reducible refine Kd.C_drew ?_) | exact HR392.out)) | (with_reducible refine Kd.C_alloc ?_ _) | (with_reducible refine Kd.C_drewN ?_ _) | (with_reducible refine Kd.C_drew ?_))); (case side2 => exact HC392.out); rintro e w' ⟨rfl, ⟨nd, rfl⟩⟩; (try first | exact ⟨rfl, _, World.drewN_drewN _ _ _⟩ | exact ⟨rfl, _, Eq.trans (World.drewN_drewN _ _ _) (congrArg (World.drewN _) (Nat.add_assoc _ _ _))⟩)) | ((with_reducible refine gate_builtin (b := .append) (xs := #[.tmp 183, .tmp 185]) rfl ?_); (try (refine gate_guard (by rfl) ?_; dsimp only)); at_builtin; refine Kd.R_append (Kd.int .i64) (w0 := w) w.heap.size rfl (.tmp 183) (.tmp 185) 22 3 (.int .i64 0) 8 rfl Try.underlying22 info3 rfl (by decide) (by omega) (.slice Ao81 x20_4.length co81) x20_4 (rd (rd_L2 t357 x155_3) x165_4) [.int .i64 (rd (rd_L2 t357 x155_3) x165_4)] (fun k_ => some k_ ≠ (.slice Ao83 t365.length co83 : Value).ownBlock) (fun _ => False) rfl rfl ?aP (fun _ hk => hk.elim) ?aF ?aO ?aB ?aS ?aL ?_; (case aP => exact rfl); (case aB => exact (belowd HB)); (case aF => exact (fun k_ hk => Kd.fresh' (Kd.R_lt (by (with_reducible repeat (first | apply Kd.R_alloc | apply Kd.R_drewN | apply Kd.R_drew)); exact HO_11.out)) k_ hk)); (case aO => exact (by (with_reducible repeat (first | apply Kd.R_alloc | apply Kd.R_drewN | apply Kd.R_drew)); exact HO_20.out)); (case aS => exact (below_size (belowd HB))); (case aL => have := LMc80.out; omega); intro v395 w84 ho hb hg hat; rw [← Ny394.out] at ho; have n0_ := Aside0.mk (Kd.R_over' (by (with_reducible repeat (first | apply Kd.R_alloc | apply Kd.R_drewN | apply Kd.R_drew)); exact HO_5.out) (Kd.R_typed (by (with_reducible repeat (first | apply Kd.R_alloc | apply Kd.R_drewN | apply Kd.R_drew)); exact HO_20.out)) (by decide) hg); have n1_ := Aside0.mk (Kd.S_after (ok := (fun k_ => some k_ ≠ (.slice Ao83 t365.length co83 : Value).ownBlock ∧ k_ < N14)) (by (with_reducible repeat (first | apply Kd.S_alloc | apply Kd.S_drewN | apply Kd.S_drew)); exact Kd.S_mono HO_7.out (fun _ hk => ⟨⟨hk.1, hk.2.2⟩, hk.2.1⟩)) hg hat); have n2_ := Aside0.mk (Kd.R_after (ok := (fun _ => True)) (by (with_reducible repeat (first | apply Kd.R_alloc | apply Kd.R_drewN | apply Kd.R_drew)); exact Kd.R_mono HO_11.out (fun _ hk => ⟨trivial, hk⟩)) hg hat); have n3_ := Aside0.mk (Kd.R_after (ok := (fun k_ => some k_ ≠ (.slice Ao83 t365.length co83 : Value).ownBlock)) (by (with_reducible repeat (first | apply Kd.R_alloc | apply Kd.R_drewN | apply Kd.R_drew)); exact HO_163.out) hg hat); have n4_ := Aside0.mk (hb); have n5_ := Aside0.mk ((show Kd.C (Kd.int .i64) w84 Ao83 y389.length y389 from by rw [Ny389.out]; exact Kd.C_take (m := ((ji75) : Int).toNat) ((Kd.R_reads' (Kd.R_after (ok := (fun _ => True)) (by (with_reducible repeat (first | apply Kd.R_alloc | apply Kd.R_drewN | apply Kd.R_drew)); exact Kd.R_mono HO_11.out (fun _ hk => ⟨trivial, hk⟩)) hg hat)).2.2) KL82.out)); have n6_ := Aside0.mk (ho); clear HO_5; clear HO_7; clear HO_11; clear HO_163; clear HB; clear HR392; clear HO_20; have HO_5 := n0_; have HO_7 := n1_; have HO_11 := n2_; have HO_163 := n3_; have HB := n4_; have HR392 := n5_; have HO396 := n6_; clear n0_ n1_ n2_ n3_ n4_ n5_ n6_; clear ho hb hg hat)); try go_wp2_with (first | (go_at_call 51; (with_reducible refine (laws_has.calls k4 _ _ x20_4 (rd (rd_L2 t357 x155_3) x165_4) false _ ?side1 ?side2 A73.out).mono ?_); (case side1 => repeat (first | exact (Kd.R_reads' HO_20.out).2.2 | (with_reducible refine Kd.C_alloc ?_ _) | (with_reducible refine Kd.C_drewN ?_ _) | (with_reducible refine Kd.C_drew ?_))); (case side2 => exact (Kd.R_reads' HO_20.out).2.1); rintro e w' ⟨rfl, ⟨nd, rfl⟩⟩; (try first | exact ⟨rfl, _, World.drewN_drewN _ _ _⟩ | exact ⟨rfl, _, Eq.trans (World.drewN_drewN _ _ _) (congrArg (World.drewN _) (Nat.add_assoc _ _ _))⟩); obtain ⟨Ao83, co83, eo83⟩ := Kd.R_slice HO_11.out; subst eo83; have q82 : ((ji75) : Int) ≤ ((t365.length : Int) : Int) := of_decide_eq_true (by first | (with_reducible assumption) | assumption); obtain ⟨i082, hi082, _, hsz82, _⟩ := info_parts info3; have hroom82 : t365.length ≤ co83 := (Kd.R_reads' HO_11.out).2.1; have hC82 : Kd.C (Kd.int .i64) _ Ao83 t365.length t365 := (Kd.R_reads' HO_11.out).2.2; have hcut82 := cut_to (P := Try.prog) 22 3 .i64 Try.underlying22 hi082 Ao83 t365.length co83 (ji75) (of_decide_eq_true (by first | (with_reducible assumption) | assumption)) q82 hroom82; have hr82 := Kd.C_take (m := ((ji75) : Int).toNat) hC82 (by omega); have hy82 : y389.length = ((ji75) : Int).toNat := (by rw [Ny389.out, List.length_take]; omega); rw [← Ny389.out] at hr82; rw [← hy82] at hcut82; have HR392 := Aside0.mk hr82; have HC392 := Aside0.mk (show y389.length ≤ co83 from by omega); clear hr82 hC82 hroom82 hi082 hsz82; have KY82 := Aside0.mk hy82; clear hy82; have KL82 := Aside0.mk (show ((ji75) : Int).toNat ≤ t365.length from by omega); replace q82 := eq_true q82) | (go_at_call 51; (with_reducible refine (laws_has.calls k4 _ _ y389 (rd (rd_L2 t357 x155_3) x165_4) true _ ?side1 ?side2 A78.out).mono ?_); (case side1 => repeat (first | exact (by repeat (first | (with_reducible exact HR392.out) | (with_reducible refine Kd.C_alloc ?_ _) | (with_reducible refine Kd.C_drewN ?_ _) | (with_reducible refine Kd.C_drew ?_) | exact HR392.out)) | (with_reducible refine Kd.C_alloc ?_ _) | (with_reducible refine Kd.C_drewN ?_ _) | (with_reducible refine Kd.C_drew ?_))); (case side2 => exact HC392.out); rintro e w' ⟨rfl, ⟨nd, rfl⟩⟩; (try first | exact ⟨rfl, _, World.drewN_drewN _ _ _⟩ | exact ⟨rfl, _, Eq.trans (World.drewN_drewN _ _ _) (congrArg (World.drewN _) (Nat.add_assoc _ _ _))⟩)) | ((with_reducible refine gate_builtin (b := .append) (xs := #[.tmp 183, .tmp 185]) rfl ?_); (try (refine gate_guard (by rfl) ?_; dsimp only)); at_builtin; refine Kd.R_append (Kd.int .i64) (w0 := w) w.heap.size rfl (.tmp 183) (.tmp 185) 22 3 (.int .i64 0) 8 rfl Try.underlying22 info3 rfl (by decide) (by omega) (.slice Ao81 x20_4.length co81) x20_4 (rd (rd_L2 t357 x155_3) x165_4) [.int .i64 (rd (rd_L2 t357 x155_3) x165_4)] (fun k_ => some k_ ≠ (.slice Ao83 t365.length co83 : Value).ownBlock) (fun _ => False) rfl rfl ?aP (fun _ hk => hk.elim) ?aF ?aO ?aB ?aS ?aL ?_; (case aP => exact rfl); (case aB => exact (belowd HB)); (case aF => exact (fun k_ hk => Kd.fresh' (Kd.R_lt (by (with_reducible repeat (first | apply Kd.R_alloc | apply Kd.R_drewN | apply Kd.R_drew)); exact HO_11.out)) k_ hk)); (case aO => exact (by (with_reducible repeat (first | apply Kd.R_alloc | apply Kd.R_drewN | apply Kd.R_drew)); exact HO_20.out)); (case aS => exact (below_size (belowd HB))); (case aL => have := LMc80.out; omega); intro v395 w84 ho hb hg hat; rw [← Ny394.out] at ho; have n0_ := Aside0.mk (Kd.R_over' (by (with_reducible repeat (first | apply Kd.R_alloc | apply Kd.R_drewN | apply Kd.R_drew)); exact HO_5.out) (Kd.R_typed (by (with_reducible repeat (first | apply Kd.R_alloc | apply Kd.R_drewN | apply Kd.R_drew)); exact HO_20.out)) (by decide) hg); have n1_ := Aside0.mk (Kd.S_after (ok := (fun k_ => some k_ ≠ (.slice Ao83 t365.length co83 : Value).ownBlock ∧ k_ < N14)) (by (with_reducible repeat (first | apply Kd.S_alloc | apply Kd.S_drewN | apply Kd.S_drew)); exact Kd.S_mono HO_7.out (fun _ hk => ⟨⟨hk.1, hk.2.2⟩, hk.2.1⟩)) hg hat); have n2_ := Aside0.mk (Kd.R_after (ok := (fun _ => True)) (by (with_reducible repeat (first | apply Kd.R_alloc | apply Kd.R_drewN | apply Kd.R_drew)); exact Kd.R_mono HO_11.out (fun _ hk => ⟨trivial, hk⟩)) hg hat); have n3_ := Aside0.mk (Kd.R_after (ok := (fun k_ => some k_ ≠ (.slice Ao83 t365.length co83 : Value).ownBlock)) (by (with_reducible repeat (first | apply Kd.R_alloc | apply Kd.R_drewN | apply Kd.R_drew)); exact HO_163.out) hg hat); have n4_ := Aside0.mk (hb); have n5_ := Aside0.mk ((show Kd.C (Kd.int .i64) w84 Ao83 y389.length y389 from by rw [Ny389.out]; exact Kd.C_take (m := ((ji75) : Int).toNat) ((Kd.R_reads' (Kd.R_after (ok := (fun _ => True)) (by (with_reducible repeat (first | apply Kd.R_alloc | apply Kd.R_drewN | apply Kd.R_drew)); exact Kd.R_mono HO_11.out (fun _ hk => ⟨trivial, hk⟩)) hg hat)).2.2) KL82.out)); have n6_ := Aside0.mk (ho); clear HO_5; clear HO_7; clear HO_11; clear HO_163; clear HB; clear HR392; clear HO_20; have HO_5 := n0_; have HO_7 := n1_; have HO_11 := n2_; have HO_163 := n3_; have HB := n4_; have HR392 := n5_; have HO396 := n6_; clear n0_ n1_ n2_ n3_ n4_ n5_ n6_; clear ho hb hg hat)))
                         go_roundg k4
                         case measure => have := HJ8.out; have := HJ37.out; have := HK3.out; have := HK4.out; omega
                         case rel => exact ⟨(y394), (wrap64 (x165_4 + 1)), (by first | rfl | (simp; done) | (simp [*]; done)), H', ⟨by have := HJ8.out; have := HJ37.out; have := HK3.out; have := HK4.out; omega⟩, ⟨by (with_reducible repeat (first | apply Kd.R_alloc | apply Kd.R_drewN | apply Kd.R_drew)); exact HO_5.out⟩, ⟨by (with_reducible repeat (first | apply Kd.S_alloc | apply Kd.S_drewN | apply Kd.S_drew)); exact Kd.S_mono HO_7.out (fun _ hk => ⟨hk.1.1, ⟨hk.2, hk.1.2⟩⟩)⟩, ⟨by (with_reducible repeat (first | apply Kd.R_alloc | apply Kd.R_drewN | apply Kd.R_drew)); exact Kd.R_mono HO_11.out (fun _ hk => hk.2)⟩, ⟨by (with_reducible repeat (first | apply Kd.R_alloc | apply Kd.R_drewN | apply Kd.R_drew)); exact HO396.out⟩, ⟨by (with_reducible repeat (first | apply Kd.R_alloc | apply Kd.R_drewN | apply Kd.R_drew)); exact HO_163.out⟩, ⟨by repeat (first | (with_reducible first | exact HB.out | apply below_alloc | apply pw_below_drewN | apply below_drew1) | exact HB.out)⟩⟩
                        ·rw [if_neg c80] at H
                         exact absurd H (by simp)
                       ·replace c79 := Bool.eq_false_iff.mpr c79
                        subst c79
                        have H1 : (some false) = some r := by rw [if_neg (show ¬ (false = true) by decide)] at H; exact H
                        clear H
                        have H := H1
                        clear H1
                        exact absurd (H.trans (congrArg some hr_)) (by simp)
                      ·rw [if_neg c77] at H
                       exact absurd H (by simp)
                     ·rw [if_neg c76] at H
                      exact absurd H (by simp)
                   ·rw [if_neg c72] at H
                    exact absurd H (by simp)
                  ·rw [if_neg c71] at H
                   exact absurd H (by simp)
                 ·rw [if_neg c70] at H
                  have c70b0 : decide (x165_4 < ((rd_L2 t357 x155_3).length : Int)) = false := decide_eq_false c70
                  clear c70
                  have H' := Aside0.mk H
                  clear H
                  go_wp2
                  repeat (go_quiet (fail); try go_wp2)
                  go_roundg k4
                  case measure => have := HJ8.out; have := HJ37.out; have := HK3.out; have := HK4.out; omega
                  case rel => exact ⟨(x20_4), (wrap64 (x155_3 + 1)), (by first | rfl | (simp; done) | (simp [*]; done)), H', ⟨by have := HJ8.out; have := HJ37.out; have := HK3.out; have := HK4.out; omega⟩, ⟨by (with_reducible repeat (first | apply Kd.R_alloc | apply Kd.R_drewN | apply Kd.R_drew)); exact HO_5.out⟩, ⟨by (with_reducible repeat (first | apply Kd.S_alloc | apply Kd.S_drewN | apply Kd.S_drew)); exact HO_7.out⟩, ⟨by (with_reducible repeat (first | apply Kd.R_alloc | apply Kd.R_drewN | apply Kd.R_drew)); exact HO_11.out⟩, ⟨by (with_reducible repeat (first | apply Kd.R_alloc | apply Kd.R_drewN | apply Kd.R_drew)); exact HO_20.out⟩, ⟨by repeat (first | (with_reducible first | exact HB.out | apply below_alloc | apply pw_below_drewN | apply below_drew1) | exact HB.out)⟩⟩
              ·rw [if_neg c69] at H
               have c69b0 : (((rd_L2 t357 x155_3).length : Int) == t354) = false := beq_eq_false_iff_ne.mpr c69
               have c69b1 : (((rd_L2 t357 x155_3).length : Int) != t354) = true := bne_iff_ne.mpr c69
               exact absurd (H.trans (congrArg some hr_)) (by simp)
             ·rw [if_neg c68] at H
              exact absurd H (by simp)
            ·rw [if_neg c67] at H
             exact absurd H (by simp)
           ·rw [if_neg c66] at H
            have c66b0 : decide (x155_3 < (t357.length : Int)) = false := decide_eq_false c66
            clear c66
            (first | rw [c66b0] | (simp only [i64_w, i32_w]; rw [c66b0]) | skip)
            by_cases c85 : t354 = 0
            ·rw [if_pos c85] at H
             exact absurd H (by simp)
            ·rw [if_neg c85] at H
             have c85b0 : (t354 == 0) = false := beq_eq_false_iff_ne.mpr c85
             have c85b1 : (t354 != 0) = true := bne_iff_ne.mpr c85
             by_cases c86 : (t357.length : Int) = (wrap64 ((t353.length : Int) / t354))
             ·rw [if_pos c86] at H
              have c86b0 : ((t357.length : Int) == (wrap64 ((t353.length : Int) / t354))) = true := beq_iff_eq.mpr c86
              have c86b1 : ((t357.length : Int) != (wrap64 ((t353.length : Int) / t354))) = false := bne_eq_false_iff_eq.mpr c86
              clear c86
              have H' := Aside0.mk H
              clear H
              go_wp2
              repeat (go_quiet (fail); try go_wp2)
              go_meet
              case rel => exact ⟨_, H', ⟨by have := HJ8.out; have := HJ37.out; have := HK3.out; first | omega | exact Nat.le_refl _⟩, ⟨by repeat (first | (with_reducible first | exact HB.out | apply below_alloc | apply pw_below_drewN | apply below_drew1) | exact HB.out)⟩⟩
             ·rw [if_neg c86] at H
              have c86b0 : ((t357.length : Int) == (wrap64 ((t353.length : Int) / t354))) = false := beq_eq_false_iff_ne.mpr c86
              have c86b1 : ((t357.length : Int) != (wrap64 ((t353.length : Int) / t354))) = true := bne_iff_ne.mpr c86
              exact absurd (H.trans (congrArg some hr_)) (by simp)
        ·replace c64 := Bool.eq_false_iff.mpr c64
         subst c64
         have H1 : (laws_FnWays.j5 kj37 l1) = some r := by rw [if_neg (show ¬ (false = true) by decide)] at H; exact H
         clear H
         have H := H1
         clear H1
         have H' := Aside0.mk H
         clear H
         go_wp2
         repeat (go_quiet (fail); try go_wp2)
         go_meet
         case rel => exact ⟨_, H', ⟨by have := HJ8.out; have := HJ37.out; first | omega | exact Nat.le_refl _⟩, ⟨by repeat (first | (with_reducible first | exact HB.out | apply below_alloc | apply pw_below_drewN | apply below_drew1) | exact HB.out)⟩⟩
       case rest => as_aux_lemma =>
        clear HC63
        try clear c1
        try clear c2
        try clear p2
        try clear c3
        try clear c3b0
        try clear p3
        try clear q3
        try clear hx3
        try clear c4
        try clear c5
        try clear c6
        try clear p6
        try clear c7
        try clear c8
        try clear q8
        try clear c10
        try clear c17
        try clear c17b0
        try clear c17b1
        try clear c17b2
        try clear c19
        try clear c20
        try clear c20b0
        try clear c20b1
        try clear c20b2
        try clear c24
        try clear c37
        try clear p37
        try clear q37
        try clear hx37
        try clear c38
        try clear p38
        try clear q38
        try clear hx38
        try clear c39
        try clear c40
        try clear c40b0
        try clear c42
        try clear c42b0
        try clear c43
        try clear c43b0
        try clear c44
        try clear c44b0
        try clear c45
        try clear c45b0
        try clear c47
        try clear c47b0
        try clear c48
        try clear c48b0
        try clear c49
        try clear c49b0
        try clear c51
        try clear c52
        try clear c53
        try clear c53b0
        try clear c54
        try clear c54b0
        try clear c54b1
        try clear c55
        try clear c55b0
        try clear c64
        try clear p64
        try clear c66
        try clear c66b0
        try clear c67
        try clear c67b0
        try clear c68
        try clear c68b0
        try clear c69
        try clear c69b0
        try clear c69b1
        try clear c70
        try clear c70b0
        try clear c71
        try clear c71b0
        try clear c72
        try clear c72b0
        try clear c74
        try clear c76
        try clear c76b0
        try clear c76b1
        try clear c77
        try clear c77b0
        try clear c77b1
        try clear c79
        try clear c80
        try clear q82
        try clear c85
        try clear c85b0
        try clear c85b1
        try clear c86
        try clear c86b0
        try clear c86b1
        try clear hx376_0
        try clear hx377_0
        try clear hx377_1
        try clear hx377_2
        try clear hx380_0
        try clear hx381_0
        try clear hx381_1
        try clear hx381_2
        try clear hx384_0
        try clear hx385_0
        try clear hx386_0
        try clear hx387_0
        try clear p2
        try clear p3
        try clear p37
        try clear p376
        try clear p377
        try clear p38
        try clear p380
        try clear p381
        try clear p384
        try clear p385
        try clear p386
        try clear p387
        try clear p6
        try clear p64
        try clear q3
        try clear q37
        try clear q376
        try clear q377
        try clear q38
        try clear q380
        try clear q381
        try clear q384
        try clear q385
        try clear q386
        try clear q387
        try clear q82
        obtain ⟨kq, HA, HJ62, HB⟩ := hcut
        cases kq with
        | zero => exact absurd HA.out (by simp [laws_FnWays.j5])
        | succ kj62 =>
         have H := HA.out
         clear HA
         simp only [laws_FnWays.j5] at H
         replace H := Option.bind_eq_some_iff.mp H
         obtain ⟨⟨t397, t398, t399⟩, A870, H⟩ := H
         replace H : ((impl_ScoreOf.f t397 t398 t399).bind fun bt401 => ((spec_ScoreOf.f t397 t398 t399).bind fun bt403 => ((spec_DrawRankHands.f kj62 l1).bind fun t405 => ((impl_RankHands.f kj62 t405).bind fun bt408 => ((spec_RankHands.f kj62 t405).bind fun bt412 => (if (bt401.2 == bt403.2) = true then (if bt401.1 = bt403.1 then (if (bt408.2 == bt412.2) = true then ((laws_sameInts.f kj62 bt408.1 bt412.1).bind fun t416 => (if t416 = true then (if bt401.2 = true then (if bt401.1 ≥ 0 then (some (decide (bt401.1 ≤ 99))) else (some false)) else (some true)) else (some false))) else (some false)) else (some false)) else (some false))))))) = some r := H
         have A87 := Aside0.mk A870
         clear A870
         replace H := Option.bind_eq_some_iff.mp H
         obtain ⟨⟨t401, t402⟩, A880, H⟩ := H
         replace H : ((spec_ScoreOf.f t397 t398 t399).bind fun bt403 => ((spec_DrawRankHands.f kj62 l1).bind fun t405 => ((impl_RankHands.f kj62 t405).bind fun bt408 => ((spec_RankHands.f kj62 t405).bind fun bt412 => (if (t402 == bt403.2) = true then (if t401 = bt403.1 then (if (bt408.2 == bt412.2) = true then ((laws_sameInts.f kj62 bt408.1 bt412.1).bind fun t416 => (if t416 = true then (if t402 = true then (if t401 ≥ 0 then (some (decide (t401 ≤ 99))) else (some false)) else (some true)) else (some false))) else (some false)) else (some false)) else (some false)))))) = some r := H
         have A88 := Aside0.mk A880
         clear A880
         replace H := Option.bind_eq_some_iff.mp H
         obtain ⟨⟨t403, t404⟩, A890, H⟩ := H
         replace H : ((spec_DrawRankHands.f kj62 l1).bind fun t405 => ((impl_RankHands.f kj62 t405).bind fun bt408 => ((spec_RankHands.f kj62 t405).bind fun bt412 => (if (t402 == t404) = true then (if t401 = t403 then (if (bt408.2 == bt412.2) = true then ((laws_sameInts.f kj62 bt408.1 bt412.1).bind fun t416 => (if t416 = true then (if t402 = true then (if t401 ≥ 0 then (some (decide (t401 ≤ 99))) else (some false)) else (some true)) else (some false))) else (some false)) else (some false)) else (some false))))) = some r := H
         have A89 := Aside0.mk A890
         clear A890
         replace H := Option.bind_eq_some_iff.mp H
         obtain ⟨t405, A900, H⟩ := H
         replace H : ((impl_RankHands.f kj62 t405).bind fun bt408 => ((spec_RankHands.f kj62 t405).bind fun bt412 => (if (t402 == t404) = true then (if t401 = t403 then (if (bt408.2 == bt412.2) = true then ((laws_sameInts.f kj62 bt408.1 bt412.1).bind fun t416 => (if t416 = true then (if t402 = true then (if t401 ≥ 0 then (some (decide (t401 ≤ 99))) else (some false)) else (some true)) else (some false))) else (some false)) else (some false)) else (some false)))) = some r := H
         have A90 := Aside0.mk A900
         clear A900
         replace H := Option.bind_eq_some_iff.mp H
         obtain ⟨⟨t408, t409⟩, A910, H⟩ := H
         replace H : ((spec_RankHands.f kj62 t405).bind fun bt412 => (if (t402 == t404) = true then (if t401 = t403 then (if (t409 == bt412.2) = true then ((laws_sameInts.f kj62 t408 bt412.1).bind fun t416 => (if t416 = true then (if t402 = true then (if t401 ≥ 0 then (some (decide (t401 ≤ 99))) else (some false)) else (some true)) else (some false))) else (some false)) else (some false)) else (some false))) = some r := H
         have A91 := Aside0.mk A910
         clear A910
         replace H := Option.bind_eq_some_iff.mp H
         obtain ⟨⟨t412, t413⟩, A920, H⟩ := H
         replace H : (if (t402 == t404) = true then (if t401 = t403 then (if (t409 == t413) = true then ((laws_sameInts.f kj62 t408 t412).bind fun t416 => (if t416 = true then (if t402 = true then (if t401 ≥ 0 then (some (decide (t401 ≤ 99))) else (some false)) else (some true)) else (some false))) else (some false)) else (some false)) else (some false)) = some r := H
         have A92 := Aside0.mk A920
         clear A920
         by_cases c93 : (t402 == t404) = true
         ·rw [if_pos c93] at H
          have c93b0 : (t402 == t404) = true := c93
          (try (have c93b1 : decide (t402 = t404) = true := by simpa using c93))
          (try (have c93b2 : (t402 == t404) = true := by simpa using c93))
          clear c93
          by_cases c94 : t401 = t403
          ·rw [if_pos c94] at H
           have c94b0 : (t401 == t403) = true := beq_iff_eq.mpr c94
           have c94b1 : (t401 != t403) = false := bne_eq_false_iff_eq.mpr c94
           clear c94
           by_cases c95 : (t409 == t413) = true
           ·rw [if_pos c95] at H
            have c95b0 : (t409 == t413) = true := c95
            (try (have c95b1 : decide (t409 = t413) = true := by simpa using c95))
            (try (have c95b2 : (t409 == t413) = true := by simpa using c95))
            clear c95
            replace H := Option.bind_eq_some_iff.mp H
            obtain ⟨t416, A960, H⟩ := H
            replace H : (if t416 = true then (if t402 = true then (if t401 ≥ 0 then (some (decide (t401 ≤ 99))) else (some false)) else (some true)) else (some false)) = some r := H
            have A96 := Aside0.mk A960
            clear A960
            by_cases c97 : t416 = true
            ·subst c97
             have H1 : (if t402 = true then (if t401 ≥ 0 then (some (decide (t401 ≤ 99))) else (some false)) else (some true)) = some r := by rw [if_pos rfl] at H; exact H
             clear H
             have H := H1
             clear H1
             by_cases c98 : t402 = true
             ·subst c98
              have H1 : (if t401 ≥ 0 then (some (decide (t401 ≤ 99))) else (some false)) = some r := by rw [if_pos rfl] at H; exact H
              clear H
              have H := H1
              clear H1
              by_cases c99 : t401 ≥ 0
              ·rw [if_pos c99] at H
               have c99b0 : decide (0 ≤ t401) = true := decide_eq_true c99
               clear c99
               obtain rfl := Option.some.inj H
               go_wp2_with (first | (go_at_call 52; (with_reducible refine (spec_DrawScoreOf.calls kj62 _ _ l1 t397 t398 t399 _ ?side1 ?side2 A87.out).mono ?_); (case side1 => repeat (first | exact (Kd.C_below HR1.out HB.out) | (with_reducible refine Kd.C_alloc ?_ _) | (with_reducible refine Kd.C_drewN ?_ _) | (with_reducible refine Kd.C_drew ?_))); (case side2 => exact HC1.out); rintro e w100 ⟨rfl, hb⟩; have n0_ := Aside0.mk (below_step (belowd HB) hb); clear HB; have HB := n0_; clear n0_; (try clear hb); (try clear hb2); (try clear hk); (try clear hi)) | ((with_reducible refine gate_dst (N := 25) rfl ?_); (try (refine gate_guard (by rfl) ?_; dsimp only)); refine box_event ?hg (N := 25) ?hd (cs := #[.int .i64 0, .int .i64 0, .int .i64 0]) (t := 68) ?hr ?_; (case hd => rfl); (case hg => rfl); (case hr => first | (go_simp; done) | (go_simp; rfl)); intro gb400 hg w101 hbox hb; have n0_ := Aside0.mk (below_step (belowd HB) hb); have n1_ := Aside0.mk (hbox); have n2_ := Aside0.mk ((by rw [hg]; exact (below_size (belowd HB)) : w.heap.size ≤ gb400)); have n3_ := Aside0.mk ((by rw [hg]; exact (below_size (belowd HB)) : w.heap.size ≤ gb400)); clear HB; have HB := n0_; have BK400 := n1_; have GW400 := n2_; have GE400 := n3_; clear n0_ n1_ n2_ n3_; clear hb hbox hg; have hcz102_0 : w101.cell? ⟨gb400, 0, none⟩ = some (.int .i64 0) := (blk_cell BK400.out 0).trans rfl; have hcz102_1 : w101.cell? ⟨gb400, 1, none⟩ = some (.int .i64 0) := (blk_cell BK400.out 1).trans rfl; have hcz102_2 : w101.cell? ⟨gb400, 2, none⟩ = some (.int .i64 0) := (blk_cell BK400.out 2).trans rfl; have hfz102_0 := blk_frozen BK400.out 0; have hfz102_1 := blk_frozen BK400.out 1; have hfz102_2 := blk_frozen BK400.out 2) | (go_at_call 50; (with_reducible refine (impl_ScoreOf.calls t397 t398 t399 t401 true _ A88.out).mono ?_); rintro e w103 ⟨rfl, hb⟩; have n0_ := Aside0.mk (blk_below (g := gb400) (o := .cells #[.int .i64 t397, .int .i64 t398, .int .i64 t399] 68 (0, 0)) (by (with_reducible repeat (first | refine blk_drewN ?_ _ | refine blk_drew ?_ | refine blk_alloc ?_ _)); refine blk_put (cs := #[.int .i64 t397, .int .i64 t398, .int .i64 0]) ?_ 2 _ rfl; (with_reducible repeat (first | refine blk_drewN ?_ _ | refine blk_drew ?_ | refine blk_alloc ?_ _)); refine blk_put (cs := #[.int .i64 t397, .int .i64 0, .int .i64 0]) ?_ 1 _ rfl; (with_reducible repeat (first | refine blk_drewN ?_ _ | refine blk_drew ?_ | refine blk_alloc ?_ _)); refine blk_put (cs := #[.int .i64 0, .int .i64 0, .int .i64 0]) ?_ 0 _ rfl; (with_reducible repeat (first | refine blk_drewN ?_ _ | refine blk_drew ?_ | refine blk_alloc ?_ _)); exact BK400.out) hb); have n1_ := Aside0.mk (below_step (by repeat (first | (with_reducible first | exact HB.out | apply below_alloc | apply pw_below_drewN | apply below_drew1 | refine below_set ?_ GE400.out) | exact HB.out)) hb); clear BK400; clear HB; have BK400 := n0_; have HB := n1_; clear n0_ n1_; (try clear hb); (try clear hb2); (try clear hk); (try clear hi); have hcz104_0 : w103.cell? ⟨gb400, 0, none⟩ = some (.int .i64 t397) := (blk_cell BK400.out 0).trans rfl; have hcz104_1 : w103.cell? ⟨gb400, 1, none⟩ = some (.int .i64 t398) := (blk_cell BK400.out 1).trans rfl; have hcz104_2 : w103.cell? ⟨gb400, 2, none⟩ = some (.int .i64 t399) := (blk_cell BK400.out 2).trans rfl; have hfz104_0 := blk_frozen BK400.out 0; have hfz104_1 := blk_frozen BK400.out 1; have hfz104_2 := blk_frozen BK400.out 2) | (go_at_call 53; (with_reducible refine (spec_ScoreOf.calls t397 t398 t399 t403 t404 _ A89.out).mono ?_); rintro e w105 ⟨rfl, hb⟩; have n0_ := Aside0.mk (blk_below (blkd BK400) hb); have n1_ := Aside0.mk (below_step (by repeat (first | (with_reducible first | exact HB.out | apply below_alloc | apply pw_below_drewN | apply below_drew1 | refine below_set ?_ GE400.out) | exact HB.out)) hb); clear BK400; clear HB; have BK400 := n0_; have HB := n1_; clear n0_ n1_; (try clear hb); (try clear hb2); (try clear hk); (try clear hi)) | (go_at_call 54; (with_reducible refine (spec_DrawRankHands.calls kj62 _ _ l1 t405 _ ?side1 ?side2 A90.out).mono ?_); (case side1 => repeat (first | exact (Kd.C_below HR1.out HB.out) | (with_reducible refine Kd.C_alloc ?_ _) | (with_reducible refine Kd.C_drewN ?_ _) | (with_reducible refine Kd.C_drew ?_))); (case side2 => exact HC1.out); rintro e w106 ⟨v406, rfl, ho0, hb⟩; have n0_ := Aside0.mk (Kd.R_lower (Kd.R_newB ho0 (blkd BK400)) (below_size (by repeat (first | (with_reducible first | exact HB.out | apply below_alloc | apply pw_below_drewN | apply below_drew1 | refine below_set ?_ GE400.out) | exact HB.out)))); have n1_ := Aside0.mk (blk_below (blkd BK400) hb); have n2_ := Aside0.mk (below_step (by repeat (first | (with_reducible first | exact HB.out | apply below_alloc | apply pw_below_drewN | apply below_drew1 | refine below_set ?_ GE400.out) | exact HB.out)) hb); clear BK400; clear HB; have HO407 := n0_; have BK400 := n1_; have HB := n2_; clear n0_ n1_ n2_; (try clear hb); (try clear hb2); (try clear hk); (try clear hi); (try clear ho0); obtain ⟨Ao107, co107, eo107⟩ := Kd.R_slice HO407.out; subst eo107) | (go_at_call 34; (with_reducible refine (impl_RankHands.calls kj62 _ _ t405 t408 t409 _ ?side1 ?side2 A91.out).mono ?_); (case side1 => repeat (first | exact (Kd.R_reads' HO407.out).2.2 | (with_reducible refine Kd.C_alloc ?_ _) | (with_reducible refine Kd.C_drewN ?_ _) | (with_reducible refine Kd.C_drew ?_))); (case side2 => exact (Kd.R_reads' HO407.out).2.1); rintro e w108 ⟨v410, rfl, ho0, hb⟩; have n0_ := Aside0.mk (Kd.R_below (by (with_reducible repeat (first | apply Kd.R_alloc | apply Kd.R_drewN | apply Kd.R_drew)); exact HO407.out) hb); have n1_ := Aside0.mk (Kd.R_lower ho0 (below_size (by repeat (first | (with_reducible first | exact HB.out | apply below_alloc | apply pw_below_drewN | apply below_drew1 | refine below_set ?_ GE400.out) | exact HB.out)))); have n2_ := Aside0.mk (blk_below (blkd BK400) hb); have n3_ := Aside0.mk (below_step (by repeat (first | (with_reducible first | exact HB.out | apply below_alloc | apply pw_below_drewN | apply below_drew1 | refine below_set ?_ GE400.out) | exact HB.out)) hb); clear HO407; clear BK400; clear HB; have HO407 := n0_; have HO411 := n1_; have BK400 := n2_; have HB := n3_; clear n0_ n1_ n2_ n3_; (try clear hb); (try clear hb2); (try clear hk); (try clear hi); (try clear ho0)) | (go_at_call 32; (with_reducible refine (spec_RankHands.calls kj62 _ _ t405 t412 t413 _ ?side1 ?side2 A92.out).mono ?_); (case side1 => repeat (first | exact (Kd.R_reads' HO407.out).2.2 | (with_reducible refine Kd.C_alloc ?_ _) | (with_reducible refine Kd.C_drewN ?_ _) | (with_reducible refine Kd.C_drew ?_))); (case side2 => exact (Kd.R_reads' HO407.out).2.1); rintro e w109 ⟨v414, rfl, ho0, hb⟩; have n0_ := Aside0.mk (Kd.R_below (by (with_reducible repeat (first | apply Kd.R_alloc | apply Kd.R_drewN | apply Kd.R_drew)); exact HO407.out) hb); have n1_ := Aside0.mk (Kd.R_elder' (by (with_reducible repeat (first | apply Kd.R_alloc | apply Kd.R_drewN | apply Kd.R_drew)); exact HO411.out) (Kd.R_base ho0) hb); have n2_ := Aside0.mk (Kd.R_lower (Kd.R_new' ho0 (Kd.R_lt (by (with_reducible repeat (first | apply Kd.R_alloc | apply Kd.R_drewN | apply Kd.R_drew)); exact HO411.out))) (below_size (by repeat (first | (with_reducible first | exact HB.out | apply below_alloc | apply pw_below_drewN | apply below_drew1 | refine below_set ?_ GE400.out) | exact HB.out)))); have n3_ := Aside0.mk (blk_below (blkd BK400) hb); have n4_ := Aside0.mk (below_step (by repeat (first | (with_reducible first | exact HB.out | apply below_alloc | apply pw_below_drewN | apply below_drew1 | refine below_set ?_ GE400.out) | exact HB.out)) hb); clear HO407; clear HO411; clear BK400; clear HB; have HO407 := n0_; have HO411 := n1_; have HO415 := n2_; have BK400 := n3_; have HB := n4_; clear n0_ n1_ n2_ n3_ n4_; (try clear hb); (try clear hb2); (try clear hk); (try clear hi); (try clear ho0); obtain ⟨Ao110, co110, eo110⟩ := Kd.R_slice HO411.out; subst eo110; obtain ⟨Ao111, co111, eo111⟩ := Kd.R_slice HO415.out; subst eo111) | (go_at_call 48; (with_reducible refine (laws_sameInts.calls kj62 _ _ t408 _ _ t412 true _ ?side1 ?side2 ?side3 ?side4 A96.out).mono ?_); (case side1 => repeat (first | exact (Kd.R_reads' HO411.out).2.2 | (with_reducible refine Kd.C_alloc ?_ _) | (with_reducible refine Kd.C_drewN ?_ _) | (with_reducible refine Kd.C_drew ?_))); (case side2 => exact (Kd.R_reads' HO411.out).2.1); (case side3 => repeat (first | exact (Kd.R_reads' HO415.out).2.2 | (with_reducible refine Kd.C_alloc ?_ _) | (with_reducible refine Kd.C_drewN ?_ _) | (with_reducible refine Kd.C_drew ?_))); (case side4 => exact (Kd.R_reads' HO415.out).2.1); rintro e w' ⟨rfl, ⟨nd, rfl⟩⟩; (try first | exact ⟨rfl, _, World.drewN_drewN _ _ _⟩ | exact ⟨rfl, _, Eq.trans (World.drewN_drewN _ _ _) (congrArg (World.drewN _) (Nat.add_assoc _ _ _))⟩)))
               repeat (go_quiet (first | (go_at_call 52; (with_reducible refine (spec_DrawScoreOf.calls kj62 _ _ l1 t397 t398 t399 _ ?side1 ?side2 A87.out).mono ?_); (case side1 => repeat (first | exact (Kd.C_below HR1.out HB.out) | (with_reducible refine Kd.C_alloc ?_ _) | (with_reducible refine Kd.C_drewN ?_ _) | (with_reducible refine Kd.C_drew ?_))); (case side2 => exact HC1.out); rintro e w100 ⟨rfl, hb⟩; have n0_ := Aside0.mk (below_step (belowd HB) hb); clear HB; have HB := n0_; clear n0_; (try clear hb); (try clear hb2); (try clear hk); (try clear hi)) | ((with_reducible refine gate_dst (N := 25) rfl ?_); (try (refine gate_guard (by rfl) ?_; dsimp only)); refine box_event ?hg (N := 25) ?hd (cs := #[.int .i64 0, .int .i64 0, .int .i64 0]) (t := 68) ?hr ?_; (case hd => rfl); (case hg => rfl); (case hr => first | (go_simp; done) | (go_simp; rfl)); intro gb400 hg w101 hbox hb; have n0_ := Aside0.mk (below_step (belowd HB) hb); have n1_ := Aside0.mk (hbox); have n2_ := Aside0.mk ((by rw [hg]; exact (below_size (belowd HB)) : w.heap.size ≤ gb400)); have n3_ := Aside0.mk ((by rw [hg]; exact (below_size (belowd HB)) : w.heap.size ≤ gb400)); clear HB; have HB := n0_; have BK400 := n1_; have GW400 := n2_; have GE400 := n3_; clear n0_ n1_ n2_ n3_; clear hb hbox hg; have hcz102_0 : w101.cell? ⟨gb400, 0, none⟩ = some (.int .i64 0) := (blk_cell BK400.out 0).trans rfl; have hcz102_1 : w101.cell? ⟨gb400, 1, none⟩ = some (.int .i64 0) := (blk_cell BK400.out 1).trans rfl; have hcz102_2 : w101.cell? ⟨gb400, 2, none⟩ = some (.int .i64 0) := (blk_cell BK400.out 2).trans rfl; have hfz102_0 := blk_frozen BK400.out 0; have hfz102_1 := blk_frozen BK400.out 1; have hfz102_2 := blk_frozen BK400.out 2) | (go_at_call 50; (with_reducible refine (impl_ScoreOf.calls t397 t398 t399 t401 true _ A88.out).mono ?_); rintro e w103 ⟨rfl, hb⟩; have n0_ := Aside0.mk (blk_below (g := gb400) (o := .cells #[.int .i64 t397, .int .i64 t398, .int .i64 t399] 68 (0, 0)) (by (with_reducible repeat (first | refine blk_drewN ?_ _ | refine blk_drew ?_ | refine blk_alloc ?_ _)); refine blk_put (cs := #[.int .i64 t397, .int .i64 t398, .int .i64 0]) ?_ 2 _ rfl; (with_reducible repeat (first | refine blk_drewN ?_ _ | refine blk_drew ?_ | refine blk_alloc ?_ _)); refine blk_put (cs := #[.int .i64 t397, .int .i64 0, .int .i64 0]) ?_ 1 _ rfl; (with_reducible repeat (first | refine blk_drewN ?_ _ | refine blk_drew ?_ | refine blk_alloc ?_ _)); refine blk_put (cs := #[.int .i64 0, .int .i64 0, .int .i64 0]) ?_ 0 _ rfl; (with_reducible repeat (first | refine blk_drewN ?_ _ | refine blk_drew ?_ | refine blk_alloc ?_ _)); exact BK400.out) hb); have n1_ := Aside0.mk (below_step (by repeat (first | (with_reducible first | exact HB.out | apply below_alloc | apply pw_below_drewN | apply below_drew1 | refine below_set ?_ GE400.out) | exact HB.out)) hb); clear BK400; clear HB; have BK400 := n0_; have HB := n1_; clear n0_ n1_; (try clear hb); (try clear hb2); (try clear hk); (try clear hi); have hcz104_0 : w103.cell? ⟨gb400, 0, none⟩ = some (.int .i64 t397) := (blk_cell BK400.out 0).trans rfl; have hcz104_1 : w103.cell? ⟨gb400, 1, none⟩ = some (.int .i64 t398) := (blk_cell BK400.out 1).trans rfl; have hcz104_2 : w103.cell? ⟨gb400, 2, none⟩ = some (.int .i64 t399) := (blk_cell BK400.out 2).trans rfl; have hfz104_0 := blk_frozen BK400.out 0; have hfz104_1 := blk_frozen BK400.out 1; have hfz104_2 := blk_frozen BK400.out 2) | (go_at_call 53; (with_reducible refine (spec_ScoreOf.calls t397 t398 t399 t403 t404 _ A89.out).mono ?_); rintro e w105 ⟨rfl, hb⟩; have n0_ := Aside0.mk (blk_below (blkd BK400) hb); have n1_ := Aside0.mk (below_step (by repeat (first | (with_reducible first | exact HB.out | apply below_alloc | apply pw_below_drewN | apply below_drew1 | refine below_set ?_ GE400.out) | exact HB.out)) hb); clear BK400; clear HB; have BK400 := n0_; have HB := n1_; clear n0_ n1_; (try clear hb); (try clear hb2); (try clear hk); (try clear hi)) | (go_at_call 54; (with_reducible refine (spec_DrawRankHands.calls kj62 _ _ l1 t405 _ ?side1 ?side2 A90.out).mono ?_); (case side1 => repeat (first | exact (Kd.C_below HR1.out HB.out) | (with_reducible refine Kd.C_alloc ?_ _) | (with_reducible refine Kd.C_drewN ?_ _) | (with_reducible refine Kd.C_drew ?_))); (case side2 => exact HC1.out); rintro e w106 ⟨v406, rfl, ho0, hb⟩; have n0_ := Aside0.mk (Kd.R_lower (Kd.R_newB ho0 (blkd BK400)) (below_size (by repeat (first | (with_reducible first | exact HB.out | apply below_alloc | apply pw_below_drewN | apply below_drew1 | refine below_set ?_ GE400.out) | exact HB.out)))); have n1_ := Aside0.mk (blk_below (blkd BK400) hb); have n2_ := Aside0.mk (below_step (by repeat (first | (with_reducible first | exact HB.out | apply below_alloc | apply pw_below_drewN | apply below_drew1 | refine below_set ?_ GE400.out) | exact HB.out)) hb); clear BK400; clear HB; have HO407 := n0_; have BK400 := n1_; have HB := n2_; clear n0_ n1_ n2_; (try clear hb); (try clear hb2); (try clear hk); (try clear hi); (try clear ho0); obtain ⟨Ao107, co107, eo107⟩ := Kd.R_slice HO407.out; subst eo107) | (go_at_call 34; (with_reducible refine (impl_RankHands.calls kj62 _ _ t405 t408 t409 _ ?side1 ?side2 A91.out).mono ?_); (case side1 => repeat (first | exact (Kd.R_reads' HO407.out).2.2 | (with_reducible refine Kd.C_alloc ?_ _) | (with_reducible refine Kd.C_drewN ?_ _) | (with_reducible refine Kd.C_drew ?_))); (case side2 => exact (Kd.R_reads' HO407.out).2.1); rintro e w108 ⟨v410, rfl, ho0, hb⟩; have n0_ := Aside0.mk (Kd.R_below (by (with_reducible repeat (first | apply Kd.R_alloc | apply Kd.R_drewN | apply Kd.R_drew)); exact HO407.out) hb); have n1_ := Aside0.mk (Kd.R_lower ho0 (below_size (by repeat (first | (with_reducible first | exact HB.out | apply below_alloc | apply pw_below_drewN | apply below_drew1 | refine below_set ?_ GE400.out) | exact HB.out)))); have n2_ := Aside0.mk (blk_below (blkd BK400) hb); have n3_ := Aside0.mk (below_step (by repeat (first | (with_reducible first | exact HB.out | apply below_alloc | apply pw_below_drewN | apply below_drew1 | refine below_set ?_ GE400.out) | exact HB.out)) hb); clear HO407; clear BK400; clear HB; have HO407 := n0_; have HO411 := n1_; have BK400 := n2_; have HB := n3_; clear n0_ n1_ n2_ n3_; (try clear hb); (try clear hb2); (try clear hk); (try clear hi); (try clear ho0)) | (go_at_call 32; (with_reducible refine (spec_RankHands.calls kj62 _ _ t405 t412 t413 _ ?side1 ?side2 A92.out).mono ?_); (case side1 => repeat (first | exact (Kd.R_reads' HO407.out).2.2 | (with_reducible refine Kd.C_alloc ?_ _) | (with_reducible refine Kd.C_drewN ?_ _) | (with_reducible refine Kd.C_drew ?_))); (case side2 => exact (Kd.R_reads' HO407.out).2.1); rintro e w109 ⟨v414, rfl, ho0, hb⟩; have n0_ := Aside0.mk (Kd.R_below (by (with_reducible repeat (first | apply Kd.R_alloc | apply Kd.R_drewN | apply Kd.R_drew)); exact HO407.out) hb); have n1_ := Aside0.mk (Kd.R_elder' (by (with_reducible repeat (first | apply Kd.R_alloc | apply Kd.R_drewN | apply Kd.R_drew)); exact HO411.out) (Kd.R_base ho0) hb); have n2_ := Aside0.mk (Kd.R_lower (Kd.R_new' ho0 (Kd.R_lt (by (with_reducible repeat (first | apply Kd.R_alloc | apply Kd.R_drewN | apply Kd.R_drew)); exact HO411.out))) (below_size (by repeat (first | (with_reducible first | exact HB.out | apply below_alloc | apply pw_below_drewN | apply below_drew1 | refine below_set ?_ GE400.out) | exact HB.out)))); have n3_ := Aside0.mk (blk_below (blkd BK400) hb); have n4_ := Aside0.mk (below_step (by repeat (first | (with_reducible first | exact HB.out | apply below_alloc | apply pw_below_drewN | apply below_drew1 | refine below_set ?_ GE400.out) | exact HB.out)) hb); clear HO407; clear HO411; clear BK400; clear HB; have HO407 := n0_; have HO411 := n1_; have HO415 := n2_; have BK400 := n3_; have HB := n4_; clear n0_ n1_ n2_ n3_ n4_; (try clear hb); (try clear hb2); (try clear hk); (try clear hi); (try clear ho0); obtain ⟨Ao110, co110, eo110⟩ := Kd.R_slice HO411.out; subst eo110; obtain ⟨Ao111, co111, eo111⟩ := Kd.R_slice HO415.out; subst eo111) | (go_at_call 48; (with_reducible refine (laws_sameInts.calls kj62 _ _ t408 _ _ t412 true _ ?side1 ?side2 ?side3 ?side4 A96.out).mono ?_); (case side1 => repeat (first | exact (Kd.R_reads' HO411.out).2.2 | (with_reducible refine Kd.C_alloc ?_ _) | (with_reducible refine Kd.C_drewN ?_ _) | (with_reducible refine Kd.C_drew ?_))); (case side2 => exact (Kd.R_reads' HO411.out).2.1); (case side3 => repeat (first | exact (Kd.R_reads' HO415.out).2.2 | (with_reducible refine Kd.C_alloc ?_ _) | (with_reducible refine Kd.C_drewN ?_ _) | (with_reducible refine Kd.C_drew ?_))); (case side4 => exact (Kd.R_reads' HO415.out).2.1); rintro e w' ⟨rfl, ⟨nd, rfl⟩⟩; (try first | exact ⟨rfl, _, World.drewN_drewN _ _ _⟩ | exact ⟨rfl, _, Eq.trans (World.drewN_drewN _ _ _) (congrArg (World.drewN _) (Nat.add_assoc _ _ _))⟩))); try go_wp2_with (first | (go_at_call 52; (with_reducible refine (spec_DrawScoreOf.calls kj62 _ _ l1 t397 t398 t399 _ ?side1 ?side2 A87.out).mono ?_); (case side1 => repeat (first | exact (Kd.C_below HR1.out HB.out) | (with_reducible refine Kd.C_alloc ?_ _) | (with_reducible refine Kd.C_drewN ?_ _) | (with_reducible refine Kd.C_drew ?_))); (case side2 => exact HC1.out); rintro e w100 ⟨rfl, hb⟩; have n0_ := Aside0.mk (below_step (belowd HB) hb); clear HB; have HB := n0_; clear n0_; (try clear hb); (try clear hb2); (try clear hk); (try clear hi)) | ((with_reducible refine gate_dst (N := 25) rfl ?_); (try (refine gate_guard (by rfl) ?_; dsimp only)); refine box_event ?hg (N := 25) ?hd (cs := #[.int .i64 0, .int .i64 0, .int .i64 0]) (t := 68) ?hr ?_; (case hd => rfl); (case hg => rfl); (case hr => first | (go_simp; done) | (go_simp; rfl)); intro gb400 hg w101 hbox hb; have n0_ := Aside0.mk (below_step (belowd HB) hb); have n1_ := Aside0.mk (hbox); have n2_ := Aside0.mk ((by rw [hg]; exact (below_size (belowd HB)) : w.heap.size ≤ gb400)); have n3_ := Aside0.mk ((by rw [hg]; exact (below_size (belowd HB)) : w.heap.size ≤ gb400)); clear HB; have HB := n0_; have BK400 := n1_; have GW400 := n2_; have GE400 := n3_; clear n0_ n1_ n2_ n3_; clear hb hbox hg; have hcz102_0 : w101.cell? ⟨gb400, 0, none⟩ = some (.int .i64 0) := (blk_cell BK400.out 0).trans rfl; have hcz102_1 : w101.cell? ⟨gb400, 1, none⟩ = some (.int .i64 0) := (blk_cell BK400.out 1).trans rfl; have hcz102_2 : w101.cell? ⟨gb400, 2, none⟩ = some (.int .i64 0) := (blk_cell BK400.out 2).trans rfl; have hfz102_0 := blk_frozen BK400.out 0; have hfz102_1 := blk_frozen BK400.out 1; have hfz102_2 := blk_frozen BK400.out 2) | (go_at_call 50; (with_reducible refine (impl_ScoreOf.calls t397 t398 t399 t401 true _ A88.out).mono ?_); rintro e w103 ⟨rfl, hb⟩; have n0_ := Aside0.mk (blk_below (g := gb400) (o := .cells #[.int .i64 t397, .int .i64 t398, .int .i64 t399] 68 (0, 0)) (by (with_reducible repeat (first | refine blk_drewN ?_ _ | refine blk_drew ?_ | refine blk_alloc ?_ _)); refine blk_put (cs := #[.int .i64 t397, .int .i64 t398, .int .i64 0]) ?_ 2 _ rfl; (with_reducible repeat (first | refine blk_drewN ?_ _ | refine blk_drew ?_ | refine blk_alloc ?_ _)); refine blk_put (cs := #[.int .i64 t397, .int .i64 0, .int .i64 0]) ?_ 1 _ rfl; (with_reducible repeat (first | refine blk_drewN ?_ _ | refine blk_drew ?_ | refine blk_alloc ?_ _)); refine blk_put (cs := #[.int .i64 0, .int .i64 0, .int .i64 0]) ?_ 0 _ rfl; (with_reducible repeat (first | refine blk_drewN ?_ _ | refine blk_drew ?_ | refine blk_alloc ?_ _)); exact BK400.out) hb); have n1_ := Aside0.mk (below_step (by repeat (first | (with_reducible first | exact HB.out | apply below_alloc | apply pw_below_drewN | apply below_drew1 | refine below_set ?_ GE400.out) | exact HB.out)) hb); clear BK400; clear HB; have BK400 := n0_; have HB := n1_; clear n0_ n1_; (try clear hb); (try clear hb2); (try clear hk); (try clear hi); have hcz104_0 : w103.cell? ⟨gb400, 0, none⟩ = some (.int .i64 t397) := (blk_cell BK400.out 0).trans rfl; have hcz104_1 : w103.cell? ⟨gb400, 1, none⟩ = some (.int .i64 t398) := (blk_cell BK400.out 1).trans rfl; have hcz104_2 : w103.cell? ⟨gb400, 2, none⟩ = some (.int .i64 t399) := (blk_cell BK400.out 2).trans rfl; have hfz104_0 := blk_frozen BK400.out 0; have hfz104_1 := blk_frozen BK400.out 1; have hfz104_2 := blk_frozen BK400.out 2) | (go_at_call 53; (with_reducible refine (spec_ScoreOf.calls t397 t398 t399 t403 t404 _ A89.out).mono ?_); rintro e w105 ⟨rfl, hb⟩; have n0_ := Aside0.mk (blk_below (blkd BK400) hb); have n1_ := Aside0.mk (below_step (by repeat (first | (with_reducible first | exact HB.out | apply below_alloc | apply pw_below_drewN | apply below_drew1 | refine below_set ?_ GE400.out) | exact HB.out)) hb); clear BK400; clear HB; have BK400 := n0_; have HB := n1_; clear n0_ n1_; (try clear hb); (try clear hb2); (try clear hk); (try clear hi)) | (go_at_call 54; (with_reducible refine (spec_DrawRankHands.calls kj62 _ _ l1 t405 _ ?side1 ?side2 A90.out).mono ?_); (case side1 => repeat (first | exact (Kd.C_below HR1.out HB.out) | (with_reducible refine Kd.C_alloc ?_ _) | (with_reducible refine Kd.C_drewN ?_ _) | (with_reducible refine Kd.C_drew ?_))); (case side2 => exact HC1.out); rintro e w106 ⟨v406, rfl, ho0, hb⟩; have n0_ := Aside0.mk (Kd.R_lower (Kd.R_newB ho0 (blkd BK400)) (below_size (by repeat (first | (with_reducible first | exact HB.out | apply below_alloc | apply pw_below_drewN | apply below_drew1 | refine below_set ?_ GE400.out) | exact HB.out)))); have n1_ := Aside0.mk (blk_below (blkd BK400) hb); have n2_ := Aside0.mk (below_step (by repeat (first | (with_reducible first | exact HB.out | apply below_alloc | apply pw_below_drewN | apply below_drew1 | refine below_set ?_ GE400.out) | exact HB.out)) hb); clear BK400; clear HB; have HO407 := n0_; have BK400 := n1_; have HB := n2_; clear n0_ n1_ n2_; (try clear hb); (try clear hb2); (try clear hk); (try clear hi); (try clear ho0); obtain ⟨Ao107, co107, eo107⟩ := Kd.R_slice HO407.out; subst eo107) | (go_at_call 34; (with_reducible refine (impl_RankHands.calls kj62 _ _ t405 t408 t409 _ ?side1 ?side2 A91.out).mono ?_); (case side1 => repeat (first | exact (Kd.R_reads' HO407.out).2.2 | (with_reducible refine Kd.C_alloc ?_ _) | (with_reducible refine Kd.C_drewN ?_ _) | (with_reducible refine Kd.C_drew ?_))); (case side2 => exact (Kd.R_reads' HO407.out).2.1); rintro e w108 ⟨v410, rfl, ho0, hb⟩; have n0_ := Aside0.mk (Kd.R_below (by (with_reducible repeat (first | apply Kd.R_alloc | apply Kd.R_drewN | apply Kd.R_drew)); exact HO407.out) hb); have n1_ := Aside0.mk (Kd.R_lower ho0 (below_size (by repeat (first | (with_reducible first | exact HB.out | apply below_alloc | apply pw_below_drewN | apply below_drew1 | refine below_set ?_ GE400.out) | exact HB.out)))); have n2_ := Aside0.mk (blk_below (blkd BK400) hb); have n3_ := Aside0.mk (below_step (by repeat (first | (with_reducible first | exact HB.out | apply below_alloc | apply pw_below_drewN | apply below_drew1 | refine below_set ?_ GE400.out) | exact HB.out)) hb); clear HO407; clear BK400; clear HB; have HO407 := n0_; have HO411 := n1_; have BK400 := n2_; have HB := n3_; clear n0_ n1_ n2_ n3_; (try clear hb); (try clear hb2); (try clear hk); (try clear hi); (try clear ho0)) | (go_at_call 32; (with_reducible refine (spec_RankHands.calls kj62 _ _ t405 t412 t413 _ ?side1 ?side2 A92.out).mono ?_); (case side1 => repeat (first | exact (Kd.R_reads' HO407.out).2.2 | (with_reducible refine Kd.C_alloc ?_ _) | (with_reducible refine Kd.C_drewN ?_ _) | (with_reducible refine Kd.C_drew ?_))); (case side2 => exact (Kd.R_reads' HO407.out).2.1); rintro e w109 ⟨v414, rfl, ho0, hb⟩; have n0_ := Aside0.mk (Kd.R_below (by (with_reducible repeat (first | apply Kd.R_alloc | apply Kd.R_drewN | apply Kd.R_drew)); exact HO407.out) hb); have n1_ := Aside0.mk (Kd.R_elder' (by (with_reducible repeat (first | apply Kd.R_alloc | apply Kd.R_drewN | apply Kd.R_drew)); exact HO411.out) (Kd.R_base ho0) hb); have n2_ := Aside0.mk (Kd.R_lower (Kd.R_new' ho0 (Kd.R_lt (by (with_reducible repeat (first | apply Kd.R_alloc | apply Kd.R_drewN | apply Kd.R_drew)); exact HO411.out))) (below_size (by repeat (first | (with_reducible first | exact HB.out | apply below_alloc | apply pw_below_drewN | apply below_drew1 | refine below_set ?_ GE400.out) | exact HB.out)))); have n3_ := Aside0.mk (blk_below (blkd BK400) hb); have n4_ := Aside0.mk (below_step (by repeat (first | (with_reducible first | exact HB.out | apply below_alloc | apply pw_below_drewN | apply below_drew1 | refine below_set ?_ GE400.out) | exact HB.out)) hb); clear HO407; clear HO411; clear BK400; clear HB; have HO407 := n0_; have HO411 := n1_; have HO415 := n2_; have BK400 := n3_; have HB := n4_; clear n0_ n1_ n2_ n3_ n4_; (try clear hb); (try clear hb2); (try clear hk); (try clear hi); (try clear ho0); obtain ⟨Ao110, co110, eo110⟩ := Kd.R_slice HO411.out; subst eo110; obtain ⟨Ao111, co111, eo111⟩ := Kd.R_slice HO415.out; subst eo111) | (go_at_call 48; (with_reducible refine (laws_sameInts.calls kj62 _ _ t408 _ _ t412 true _ ?side1 ?side2 ?side3 ?side4 A96.out).mono ?_); (case side1 => repeat (first | exact (Kd.R_reads' HO411.out).2.2 | (with_reducible refine Kd.C_alloc ?_ _) | (with_reducible refine Kd.C_drewN ?_ _) | (with_reducible refine Kd.C_drew ?_))); (case side2 => exact (Kd.R_reads' HO411.out).2.1); (case side3 => repeat (first | exact (Kd.R_reads' HO415.out).2.2 | (with_reducible refine Kd.C_alloc ?_ _) | (with_reducible refine Kd.C_drewN ?_ _) | (with_reducible refine Kd.C_drew ?_))); (case side4 => exact (Kd.R_reads' HO415.out).2.1); rintro e w' ⟨rfl, ⟨nd, rfl⟩⟩; (try first | exact ⟨rfl, _, World.drewN_drewN _ _ _⟩ | exact ⟨rfl, _, Eq.trans (World.drewN_drewN _ _ _) (congrArg (World.drewN _) (Nat.add_assoc _ _ _))⟩))))
               go_ret
               exact ⟨by first | rfl | (simp [errW_none, errW_some] <;> rfl) | (simp [*, errW_none, errW_some] <;> rfl), by repeat (first | (with_reducible first | exact HB.out | apply below_alloc | apply pw_below_drewN | apply below_drew1 | refine below_set ?_ GE400.out) | exact HB.out)⟩
              ·rw [if_neg c99] at H
               have c99b0 : decide (0 ≤ t401) = false := decide_eq_false c99
               clear c99
               exact absurd (H.trans (congrArg some hr_)) (by simp)
             ·replace c98 := Bool.eq_false_iff.mpr c98
              subst c98
              have H1 : (some true) = some r := by rw [if_neg (show ¬ (false = true) by decide)] at H; exact H
              clear H
              have H := H1
              clear H1
              obtain rfl := Option.some.inj H
              go_wp2_with (first | (go_at_call 52; (with_reducible refine (spec_DrawScoreOf.calls kj62 _ _ l1 t397 t398 t399 _ ?side1 ?side2 A87.out).mono ?_); (case side1 => repeat (first | exact (Kd.C_below HR1.out HB.out) | (with_reducible refine Kd.C_alloc ?_ _) | (with_reducible refine Kd.C_drewN ?_ _) | (with_reducible refine Kd.C_drew ?_))); (case side2 => exact HC1.out); rintro e w112 ⟨rfl, hb⟩; have n0_ := Aside0.mk (below_step (belowd HB) hb); clear HB; have HB := n0_; clear n0_; (try clear hb); (try clear hb2); (try clear hk); (try clear hi)) | ((with_reducible refine gate_dst (N := 25) rfl ?_); (try (refine gate_guard (by rfl) ?_; dsimp only)); refine box_event ?hg (N := 25) ?hd (cs := #[.int .i64 0, .int .i64 0, .int .i64 0]) (t := 68) ?hr ?_; (case hd => rfl); (case hg => rfl); (case hr => first | (go_simp; done) | (go_simp; rfl)); intro gb400 hg w113 hbox hb; have n0_ := Aside0.mk (below_step (belowd HB) hb); have n1_ := Aside0.mk (hbox); have n2_ := Aside0.mk ((by rw [hg]; exact (below_size (belowd HB)) : w.heap.size ≤ gb400)); have n3_ := Aside0.mk ((by rw [hg]; exact (below_size (belowd HB)) : w.heap.size ≤ gb400)); clear HB; have HB := n0_; have BK400 := n1_; have GW400 := n2_; have GE400 := n3_; clear n0_ n1_ n2_ n3_; clear hb hbox hg; have hcz114_0 : w113.cell? ⟨gb400, 0, none⟩ = some (.int .i64 0) := (blk_cell BK400.out 0).trans rfl; have hcz114_1 : w113.cell? ⟨gb400, 1, none⟩ = some (.int .i64 0) := (blk_cell BK400.out 1).trans rfl; have hcz114_2 : w113.cell? ⟨gb400, 2, none⟩ = some (.int .i64 0) := (blk_cell BK400.out 2).trans rfl; have hfz114_0 := blk_frozen BK400.out 0; have hfz114_1 := blk_frozen BK400.out 1; have hfz114_2 := blk_frozen BK400.out 2) | (go_at_call 50; (with_reducible refine (impl_ScoreOf.calls t397 t398 t399 t401 false _ A88.out).mono ?_); rintro e w115 ⟨rfl, hb⟩; have n0_ := Aside0.mk (blk_below (g := gb400) (o := .cells #[.int .i64 t397, .int .i64 t398, .int .i64 t399] 68 (0, 0)) (by (with_reducible repeat (first | refine blk_drewN ?_ _ | refine blk_drew ?_ | refine blk_alloc ?_ _)); refine blk_put (cs := #[.int .i64 t397, .int .i64 t398, .int .i64 0]) ?_ 2 _ rfl; (with_reducible repeat (first | refine blk_drewN ?_ _ | refine blk_drew ?_ | refine blk_alloc ?_ _)); refine blk_put (cs := #[.int .i64 t397, .int .i64 0, .int .i64 0]) ?_ 1 _ rfl; (with_reducible repeat (first | refine blk_drewN ?_ _ | refine blk_drew ?_ | refine blk_alloc ?_ _)); refine blk_put (cs := #[.int .i64 0, .int .i64 0, .int .i64 0]) ?_ 0 _ rfl; (with_reducible repeat (first | refine blk_drewN ?_ _ | refine blk_drew ?_ | refine blk_alloc ?_ _)); exact BK400.out) hb); have n1_ := Aside0.mk (below_step (by repeat (first | (with_reducible first | exact HB.out | apply below_alloc | apply pw_below_drewN | apply below_drew1 | refine below_set ?_ GE400.out) | exact HB.out)) hb); clear BK400; clear HB; have BK400 := n0_; have HB := n1_; clear n0_ n1_; (try clear hb); (try clear hb2); (try clear hk); (try clear hi); have hcz116_0 : w115.cell? ⟨gb400, 0, none⟩ = some (.int .i64 t397) := (blk_cell BK400.out 0).trans rfl; have hcz116_1 : w115.cell? ⟨gb400, 1, none⟩ = some (.int .i64 t398) := (blk_cell BK400.out 1).trans rfl; have hcz116_2 : w115.cell? ⟨gb400, 2, none⟩ = some (.int .i64 t399) := (blk_cell BK400.out 2).trans rfl; have hfz116_0 := blk_frozen BK400.out 0; have hfz116_1 := blk_frozen BK400.out 1; have hfz116_2 := blk_frozen BK400.out 2) | (go_at_call 53; (with_reducible refine (spec_ScoreOf.calls t397 t398 t399 t403 t404 _ A89.out).mono ?_); rintro e w117 ⟨rfl, hb⟩; have n0_ := Aside0.mk (blk_below (blkd BK400) hb); have n1_ := Aside0.mk (below_step (by repeat (first | (with_reducible first | exact HB.out | apply below_alloc | apply pw_below_drewN | apply below_drew1 | refine below_set ?_ GE400.out) | exact HB.out)) hb); clear BK400; clear HB; have BK400 := n0_; have HB := n1_; clear n0_ n1_; (try clear hb); (try clear hb2); (try clear hk); (try clear hi)) | (go_at_call 54; (with_reducible refine (spec_DrawRankHands.calls kj62 _ _ l1 t405 _ ?side1 ?side2 A90.out).mono ?_); (case side1 => repeat (first | exact (Kd.C_below HR1.out HB.out) | (with_reducible refine Kd.C_alloc ?_ _) | (with_reducible refine Kd.C_drewN ?_ _) | (with_reducible refine Kd.C_drew ?_))); (case side2 => exact HC1.out); rintro e w118 ⟨v406, rfl, ho0, hb⟩; have n0_ := Aside0.mk (Kd.R_lower (Kd.R_newB ho0 (blkd BK400)) (below_size (by repeat (first | (with_reducible first | exact HB.out | apply below_alloc | apply pw_below_drewN | apply below_drew1 | refine below_set ?_ GE400.out) | exact HB.out)))); have n1_ := Aside0.mk (blk_below (blkd BK400) hb); have n2_ := Aside0.mk (below_step (by repeat (first | (with_reducible first | exact HB.out | apply below_alloc | apply pw_below_drewN | apply below_drew1 | refine below_set ?_ GE400.out) | exact HB.out)) hb); clear BK400; clear HB; have HO407 := n0_; have BK400 := n1_; have HB := n2_; clear n0_ n1_ n2_; (try clear hb); (try clear hb2); (try clear hk); (try clear hi); (try clear ho0); obtain ⟨Ao119, co119, eo119⟩ := Kd.R_slice HO407.out; subst eo119) | (go_at_call 34; (with_reducible refine (impl_RankHands.calls kj62 _ _ t405 t408 t409 _ ?side1 ?side2 A91.out).mono ?_); (case side1 => repeat (first | exact (Kd.R_reads' HO407.out).2.2 | (with_reducible refine Kd.C_alloc ?_ _) | (with_reducible refine Kd.C_drewN ?_ _) | (with_reducible refine Kd.C_drew ?_))); (case side2 => exact (Kd.R_reads' HO407.out).2.1); rintro e w120 ⟨v410, rfl, ho0, hb⟩; have n0_ := Aside0.mk (Kd.R_below (by (with_reducible repeat (first | apply Kd.R_alloc | apply Kd.R_drewN | apply Kd.R_drew)); exact HO407.out) hb); have n1_ := Aside0.mk (Kd.R_lower ho0 (below_size (by repeat (first | (with_reducible first | exact HB.out | apply below_alloc | apply pw_below_drewN | apply below_drew1 | refine below_set ?_ GE400.out) | exact HB.out)))); have n2_ := Aside0.mk (blk_below (blkd BK400) hb); have n3_ := Aside0.mk (below_step (by repeat (first | (with_reducible first | exact HB.out | apply below_alloc | apply pw_below_drewN | apply below_drew1 | refine below_set ?_ GE400.out) | exact HB.out)) hb); clear HO407; clear BK400; clear HB; have HO407 := n0_; have HO411 := n1_; have BK400 := n2_; have HB := n3_; clear n0_ n1_ n2_ n3_; (try clear hb); (try clear hb2); (try clear hk); (try clear hi); (try clear ho0)) | (go_at_call 32; (with_reducible refine (spec_RankHands.calls kj62 _ _ t405 t412 t413 _ ?side1 ?side2 A92.out).mono ?_); (case side1 => repeat (first | exact (Kd.R_reads' HO407.out).2.2 | (with_reducible refine Kd.C_alloc ?_ _) | (with_reducible refine Kd.C_drewN ?_ _) | (with_reducible refine Kd.C_drew ?_))); (case side2 => exact (Kd.R_reads' HO407.out).2.1); rintro e w121 ⟨v414, rfl, ho0, hb⟩; have n0_ := Aside0.mk (Kd.R_below (by (with_reducible repeat (first | apply Kd.R_alloc | apply Kd.R_drewN | apply Kd.R_drew)); exact HO407.out) hb); have n1_ := Aside0.mk (Kd.R_elder' (by (with_reducible repeat (first | apply Kd.R_alloc | apply Kd.R_drewN | apply Kd.R_drew)); exact HO411.out) (Kd.R_base ho0) hb); have n2_ := Aside0.mk (Kd.R_lower (Kd.R_new' ho0 (Kd.R_lt (by (with_reducible repeat (first | apply Kd.R_alloc | apply Kd.R_drewN | apply Kd.R_drew)); exact HO411.out))) (below_size (by repeat (first | (with_reducible first | exact HB.out | apply below_alloc | apply pw_below_drewN | apply below_drew1 | refine below_set ?_ GE400.out) | exact HB.out)))); have n3_ := Aside0.mk (blk_below (blkd BK400) hb); have n4_ := Aside0.mk (below_step (by repeat (first | (with_reducible first | exact HB.out | apply below_alloc | apply pw_below_drewN | apply below_drew1 | refine below_set ?_ GE400.out) | exact HB.out)) hb); clear HO407; clear HO411; clear BK400; clear HB; have HO407 := n0_; have HO411 := n1_; have HO415 := n2_; have BK400 := n3_; have HB := n4_; clear n0_ n1_ n2_ n3_ n4_; (try clear hb); (try clear hb2); (try clear hk); (try clear hi); (try clear ho0); obtain ⟨Ao122, co122, eo122⟩ := Kd.R_slice HO411.out; subst eo122; obtain ⟨Ao123, co123, eo123⟩ := Kd.R_slice HO415.out; subst eo123) | (go_at_call 48; (with_reducible refine (laws_sameInts.calls kj62 _ _ t408 _ _ t412 true _ ?side1 ?side2 ?side3 ?side4 A96.out).mono ?_); (case side1 => repeat (first | exact (Kd.R_reads' HO411.out).2.2 | (with_reducible refine Kd.C_alloc ?_ _) | (with_reducible refine Kd.C_drewN ?_ _) | (with_reducible refine Kd.C_drew ?_))); (case side2 => exact (Kd.R_reads' HO411.out).2.1); (case side3 => repeat (first | exact (Kd.R_reads' HO415.out).2.2 | (with_reducible refine Kd.C_alloc ?_ _) | (with_reducible refine Kd.C_drewN ?_ _) | (with_reducible refine Kd.C_drew ?_))); (case side4 => exact (Kd.R_reads' HO415.out).2.1); rintro e w' ⟨rfl, ⟨nd, rfl⟩⟩; (try first | exact ⟨rfl, _, World.drewN_drewN _ _ _⟩ | exact ⟨rfl, _, Eq.trans (World.drewN_drewN _ _ _) (congrArg (World.drewN _) (Nat.add_assoc _ _ _))⟩)))
              repeat (go_quiet (first | (go_at_call 52; (with_reducible refine (spec_DrawScoreOf.calls kj62 _ _ l1 t397 t398 t399 _ ?side1 ?side2 A87.out).mono ?_); (case side1 => repeat (first | exact (Kd.C_below HR1.out HB.out) | (with_reducible refine Kd.C_alloc ?_ _) | (with_reducible refine Kd.C_drewN ?_ _) | (with_reducible refine Kd.C_drew ?_))); (case side2 => exact HC1.out); rintro e w112 ⟨rfl, hb⟩; have n0_ := Aside0.mk (below_step (belowd HB) hb); clear HB; have HB := n0_; clear n0_; (try clear hb); (try clear hb2); (try clear hk); (try clear hi)) | ((with_reducible refine gate_dst (N := 25) rfl ?_); (try (refine gate_guard (by rfl) ?_; dsimp only)); refine box_event ?hg (N := 25) ?hd (cs := #[.int .i64 0, .int .i64 0, .int .i64 0]) (t := 68) ?hr ?_; (case hd => rfl); (case hg => rfl); (case hr => first | (go_simp; done) | (go_simp; rfl)); intro gb400 hg w113 hbox hb; have n0_ := Aside0.mk (below_step (belowd HB) hb); have n1_ := Aside0.mk (hbox); have n2_ := Aside0.mk ((by rw [hg]; exact (below_size (belowd HB)) : w.heap.size ≤ gb400)); have n3_ := Aside0.mk ((by rw [hg]; exact (below_size (belowd HB)) : w.heap.size ≤ gb400)); clear HB; have HB := n0_; have BK400 := n1_; have GW400 := n2_; have GE400 := n3_; clear n0_ n1_ n2_ n3_; clear hb hbox hg; have hcz114_0 : w113.cell? ⟨gb400, 0, none⟩ = some (.int .i64 0) := (blk_cell BK400.out 0).trans rfl; have hcz114_1 : w113.cell? ⟨gb400, 1, none⟩ = some (.int .i64 0) := (blk_cell BK400.out 1).trans rfl; have hcz114_2 : w113.cell? ⟨gb400, 2, none⟩ = some (.int .i64 0) := (blk_cell BK400.out 2).trans rfl; have hfz114_0 := blk_frozen BK400.out 0; have hfz114_1 := blk_frozen BK400.out 1; have hfz114_2 := blk_frozen BK400.out 2) | (go_at_call 50; (with_reducible refine (impl_ScoreOf.calls t397 t398 t399 t401 false _ A88.out).mono ?_); rintro e w115 ⟨rfl, hb⟩; have n0_ := Aside0.mk (blk_below (g := gb400) (o := .cells #[.int .i64 t397, .int .i64 t398, .int .i64 t399] 68 (0, 0)) (by (with_reducible repeat (first | refine blk_drewN ?_ _ | refine blk_drew ?_ | refine blk_alloc ?_ _)); refine blk_put (cs := #[.int .i64 t397, .int .i64 t398, .int .i64 0]) ?_ 2 _ rfl; (with_reducible repeat (first | refine blk_drewN ?_ _ | refine blk_drew ?_ | refine blk_alloc ?_ _)); refine blk_put (cs := #[.int .i64 t397, .int .i64 0, .int .i64 0]) ?_ 1 _ rfl; (with_reducible repeat (first | refine blk_drewN ?_ _ | refine blk_drew ?_ | refine blk_alloc ?_ _)); refine blk_put (cs := #[.int .i64 0, .int .i64 0, .int .i64 0]) ?_ 0 _ rfl; (with_reducible repeat (first | refine blk_drewN ?_ _ | refine blk_drew ?_ | refine blk_alloc ?_ _)); exact BK400.out) hb); have n1_ := Aside0.mk (below_step (by repeat (first | (with_reducible first | exact HB.out | apply below_alloc | apply pw_below_drewN | apply below_drew1 | refine below_set ?_ GE400.out) | exact HB.out)) hb); clear BK400; clear HB; have BK400 := n0_; have HB := n1_; clear n0_ n1_; (try clear hb); (try clear hb2); (try clear hk); (try clear hi); have hcz116_0 : w115.cell? ⟨gb400, 0, none⟩ = some (.int .i64 t397) := (blk_cell BK400.out 0).trans rfl; have hcz116_1 : w115.cell? ⟨gb400, 1, none⟩ = some (.int .i64 t398) := (blk_cell BK400.out 1).trans rfl; have hcz116_2 : w115.cell? ⟨gb400, 2, none⟩ = some (.int .i64 t399) := (blk_cell BK400.out 2).trans rfl; have hfz116_0 := blk_frozen BK400.out 0; have hfz116_1 := blk_frozen BK400.out 1; have hfz116_2 := blk_frozen BK400.out 2) | (go_at_call 53; (with_reducible refine (spec_ScoreOf.calls t397 t398 t399 t403 t404 _ A89.out).mono ?_); rintro e w117 ⟨rfl, hb⟩; have n0_ := Aside0.mk (blk_below (blkd BK400) hb); have n1_ := Aside0.mk (below_step (by repeat (first | (with_reducible first | exact HB.out | apply below_alloc | apply pw_below_drewN | apply below_drew1 | refine below_set ?_ GE400.out) | exact HB.out)) hb); clear BK400; clear HB; have BK400 := n0_; have HB := n1_; clear n0_ n1_; (try clear hb); (try clear hb2); (try clear hk); (try clear hi)) | (go_at_call 54; (with_reducible refine (spec_DrawRankHands.calls kj62 _ _ l1 t405 _ ?side1 ?side2 A90.out).mono ?_); (case side1 => repeat (first | exact (Kd.C_below HR1.out HB.out) | (with_reducible refine Kd.C_alloc ?_ _) | (with_reducible refine Kd.C_drewN ?_ _) | (with_reducible refine Kd.C_drew ?_))); (case side2 => exact HC1.out); rintro e w118 ⟨v406, rfl, ho0, hb⟩; have n0_ := Aside0.mk (Kd.R_lower (Kd.R_newB ho0 (blkd BK400)) (below_size (by repeat (first | (with_reducible first | exact HB.out | apply below_alloc | apply pw_below_drewN | apply below_drew1 | refine below_set ?_ GE400.out) | exact HB.out)))); have n1_ := Aside0.mk (blk_below (blkd BK400) hb); have n2_ := Aside0.mk (below_step (by repeat (first | (with_reducible first | exact HB.out | apply below_alloc | apply pw_below_drewN | apply below_drew1 | refine below_set ?_ GE400.out) | exact HB.out)) hb); clear BK400; clear HB; have HO407 := n0_; have BK400 := n1_; have HB := n2_; clear n0_ n1_ n2_; (try clear hb); (try clear hb2); (try clear hk); (try clear hi); (try clear ho0); obtain ⟨Ao119, co119, eo119⟩ := Kd.R_slice HO407.out; subst eo119) | (go_at_call 34; (with_reducible refine (impl_RankHands.calls kj62 _ _ t405 t408 t409 _ ?side1 ?side2 A91.out).mono ?_); (case side1 => repeat (first | exact (Kd.R_reads' HO407.out).2.2 | (with_reducible refine Kd.C_alloc ?_ _) | (with_reducible refine Kd.C_drewN ?_ _) | (with_reducible refine Kd.C_drew ?_))); (case side2 => exact (Kd.R_reads' HO407.out).2.1); rintro e w120 ⟨v410, rfl, ho0, hb⟩; have n0_ := Aside0.mk (Kd.R_below (by (with_reducible repeat (first | apply Kd.R_alloc | apply Kd.R_drewN | apply Kd.R_drew)); exact HO407.out) hb); have n1_ := Aside0.mk (Kd.R_lower ho0 (below_size (by repeat (first | (with_reducible first | exact HB.out | apply below_alloc | apply pw_below_drewN | apply below_drew1 | refine below_set ?_ GE400.out) | exact HB.out)))); have n2_ := Aside0.mk (blk_below (blkd BK400) hb); have n3_ := Aside0.mk (below_step (by repeat (first | (with_reducible first | exact HB.out | apply below_alloc | apply pw_below_drewN | apply below_drew1 | refine below_set ?_ GE400.out) | exact HB.out)) hb); clear HO407; clear BK400; clear HB; have HO407 := n0_; have HO411 := n1_; have BK400 := n2_; have HB := n3_; clear n0_ n1_ n2_ n3_; (try clear hb); (try clear hb2); (try clear hk); (try clear hi); (try clear ho0)) | (go_at_call 32; (with_reducible refine (spec_RankHands.calls kj62 _ _ t405 t412 t413 _ ?side1 ?side2 A92.out).mono ?_); (case side1 => repeat (first | exact (Kd.R_reads' HO407.out).2.2 | (with_reducible refine Kd.C_alloc ?_ _) | (with_reducible refine Kd.C_drewN ?_ _) | (with_reducible refine Kd.C_drew ?_))); (case side2 => exact (Kd.R_reads' HO407.out).2.1); rintro e w121 ⟨v414, rfl, ho0, hb⟩; have n0_ := Aside0.mk (Kd.R_below (by (with_reducible repeat (first | apply Kd.R_alloc | apply Kd.R_drewN | apply Kd.R_drew)); exact HO407.out) hb); have n1_ := Aside0.mk (Kd.R_elder' (by (with_reducible repeat (first | apply Kd.R_alloc | apply Kd.R_drewN | apply Kd.R_drew)); exact HO411.out) (Kd.R_base ho0) hb); have n2_ := Aside0.mk (Kd.R_lower (Kd.R_new' ho0 (Kd.R_lt (by (with_reducible repeat (first | apply Kd.R_alloc | apply Kd.R_drewN | apply Kd.R_drew)); exact HO411.out))) (below_size (by repeat (first | (with_reducible first | exact HB.out | apply below_alloc | apply pw_below_drewN | apply below_drew1 | refine below_set ?_ GE400.out) | exact HB.out)))); have n3_ := Aside0.mk (blk_below (blkd BK400) hb); have n4_ := Aside0.mk (below_step (by repeat (first | (with_reducible first | exact HB.out | apply below_alloc | apply pw_below_drewN | apply below_drew1 | refine below_set ?_ GE400.out) | exact HB.out)) hb); clear HO407; clear HO411; clear BK400; clear HB; have HO407 := n0_; have HO411 := n1_; have HO415 := n2_; have BK400 := n3_; have HB := n4_; clear n0_ n1_ n2_ n3_ n4_; (try clear hb); (try clear hb2); (try clear hk); (try clear hi); (try clear ho0); obtain ⟨Ao122, co122, eo122⟩ := Kd.R_slice HO411.out; subst eo122; obtain ⟨Ao123, co123, eo123⟩ := Kd.R_slice HO415.out; subst eo123) | (go_at_call 48; (with_reducible refine (laws_sameInts.calls kj62 _ _ t408 _ _ t412 true _ ?side1 ?side2 ?side3 ?side4 A96.out).mono ?_); (case side1 => repeat (first | exact (Kd.R_reads' HO411.out).2.2 | (with_reducible refine Kd.C_alloc ?_ _) | (with_reducible refine Kd.C_drewN ?_ _) | (with_reducible refine Kd.C_drew ?_))); (case side2 => exact (Kd.R_reads' HO411.out).2.1); (case side3 => repeat (first | exact (Kd.R_reads' HO415.out).2.2 | (with_reducible refine Kd.C_alloc ?_ _) | (with_reducible refine Kd.C_drewN ?_ _) | (with_reducible refine Kd.C_drew ?_))); (case side4 => exact (Kd.R_reads' HO415.out).2.1); rintro e w' ⟨rfl, ⟨nd, rfl⟩⟩; (try first | exact ⟨rfl, _, World.drewN_drewN _ _ _⟩ | exact ⟨rfl, _, Eq.trans (World.drewN_drewN _ _ _) (congrArg (World.drewN _) (Nat.add_assoc _ _ _))⟩))); try go_wp2_with (first | (go_at_call 52; (with_reducible refine (spec_DrawScoreOf.calls kj62 _ _ l1 t397 t398 t399 _ ?side1 ?side2 A87.out).mono ?_); (case side1 => repeat (first | exact (Kd.C_below HR1.out HB.out) | (with_reducible refine Kd.C_alloc ?_ _) | (with_reducible refine Kd.C_drewN ?_ _) | (with_reducible refine Kd.C_drew ?_))); (case side2 => exact HC1.out); rintro e w112 ⟨rfl, hb⟩; have n0_ := Aside0.mk (below_step (belowd HB) hb); clear HB; have HB := n0_; clear n0_; (try clear hb); (try clear hb2); (try clear hk); (try clear hi)) | ((with_reducible refine gate_dst (N := 25) rfl ?_); (try (refine gate_guard (by rfl) ?_; dsimp only)); refine box_event ?hg (N := 25) ?hd (cs := #[.int .i64 0, .int .i64 0, .int .i64 0]) (t := 68) ?hr ?_; (case hd => rfl); (case hg => rfl); (case hr => first | (go_simp; done) | (go_simp; rfl)); intro gb400 hg w113 hbox hb; have n0_ := Aside0.mk (below_step (belowd HB) hb); have n1_ := Aside0.mk (hbox); have n2_ := Aside0.mk ((by rw [hg]; exact (below_size (belowd HB)) : w.heap.size ≤ gb400)); have n3_ := Aside0.mk ((by rw [hg]; exact (below_size (belowd HB)) : w.heap.size ≤ gb400)); clear HB; have HB := n0_; have BK400 := n1_; have GW400 := n2_; have GE400 := n3_; clear n0_ n1_ n2_ n3_; clear hb hbox hg; have hcz114_0 : w113.cell? ⟨gb400, 0, none⟩ = some (.int .i64 0) := (blk_cell BK400.out 0).trans rfl; have hcz114_1 : w113.cell? ⟨gb400, 1, none⟩ = some (.int .i64 0) := (blk_cell BK400.out 1).trans rfl; have hcz114_2 : w113.cell? ⟨gb400, 2, none⟩ = some (.int .i64 0) := (blk_cell BK400.out 2).trans rfl; have hfz114_0 := blk_frozen BK400.out 0; have hfz114_1 := blk_frozen BK400.out 1; have hfz114_2 := blk_frozen BK400.out 2) | (go_at_call 50; (with_reducible refine (impl_ScoreOf.calls t397 t398 t399 t401 false _ A88.out).mono ?_); rintro e w115 ⟨rfl, hb⟩; have n0_ := Aside0.mk (blk_below (g := gb400) (o := .cells #[.int .i64 t397, .int .i64 t398, .int .i64 t399] 68 (0, 0)) (by (with_reducible repeat (first | refine blk_drewN ?_ _ | refine blk_drew ?_ | refine blk_alloc ?_ _)); refine blk_put (cs := #[.int .i64 t397, .int .i64 t398, .int .i64 0]) ?_ 2 _ rfl; (with_reducible repeat (first | refine blk_drewN ?_ _ | refine blk_drew ?_ | refine blk_alloc ?_ _)); refine blk_put (cs := #[.int .i64 t397, .int .i64 0, .int .i64 0]) ?_ 1 _ rfl; (with_reducible repeat (first | refine blk_drewN ?_ _ | refine blk_drew ?_ | refine blk_alloc ?_ _)); refine blk_put (cs := #[.int .i64 0, .int .i64 0, .int .i64 0]) ?_ 0 _ rfl; (with_reducible repeat (first | refine blk_drewN ?_ _ | refine blk_drew ?_ | refine blk_alloc ?_ _)); exact BK400.out) hb); have n1_ := Aside0.mk (below_step (by repeat (first | (with_reducible first | exact HB.out | apply below_alloc | apply pw_below_drewN | apply below_drew1 | refine below_set ?_ GE400.out) | exact HB.out)) hb); clear BK400; clear HB; have BK400 := n0_; have HB := n1_; clear n0_ n1_; (try clear hb); (try clear hb2); (try clear hk); (try clear hi); have hcz116_0 : w115.cell? ⟨gb400, 0, none⟩ = some (.int .i64 t397) := (blk_cell BK400.out 0).trans rfl; have hcz116_1 : w115.cell? ⟨gb400, 1, none⟩ = some (.int .i64 t398) := (blk_cell BK400.out 1).trans rfl; have hcz116_2 : w115.cell? ⟨gb400, 2, none⟩ = some (.int .i64 t399) := (blk_cell BK400.out 2).trans rfl; have hfz116_0 := blk_frozen BK400.out 0; have hfz116_1 := blk_frozen BK400.out 1; have hfz116_2 := blk_frozen BK400.out 2) | (go_at_call 53; (with_reducible refine (spec_ScoreOf.calls t397 t398 t399 t403 t404 _ A89.out).mono ?_); rintro e w117 ⟨rfl, hb⟩; have n0_ := Aside0.mk (blk_below (blkd BK400) hb); have n1_ := Aside0.mk (below_step (by repeat (first | (with_reducible first | exact HB.out | apply below_alloc | apply pw_below_drewN | apply below_drew1 | refine below_set ?_ GE400.out) | exact HB.out)) hb); clear BK400; clear HB; have BK400 := n0_; have HB := n1_; clear n0_ n1_; (try clear hb); (try clear hb2); (try clear hk); (try clear hi)) | (go_at_call 54; (with_reducible refine (spec_DrawRankHands.calls kj62 _ _ l1 t405 _ ?side1 ?side2 A90.out).mono ?_); (case side1 => repeat (first | exact (Kd.C_below HR1.out HB.out) | (with_reducible refine Kd.C_alloc ?_ _) | (with_reducible refine Kd.C_drewN ?_ _) | (with_reducible refine Kd.C_drew ?_))); (case side2 => exact HC1.out); rintro e w118 ⟨v406, rfl, ho0, hb⟩; have n0_ := Aside0.mk (Kd.R_lower (Kd.R_newB ho0 (blkd BK400)) (below_size (by repeat (first | (with_reducible first | exact HB.out | apply below_alloc | apply pw_below_drewN | apply below_drew1 | refine below_set ?_ GE400.out) | exact HB.out)))); have n1_ := Aside0.mk (blk_below (blkd BK400) hb); have n2_ := Aside0.mk (below_step (by repeat (first | (with_reducible first | exact HB.out | apply below_alloc | apply pw_below_drewN | apply below_drew1 | refine below_set ?_ GE400.out) | exact HB.out)) hb); clear BK400; clear HB; have HO407 := n0_; have BK400 := n1_; have HB := n2_; clear n0_ n1_ n2_; (try clear hb); (try clear hb2); (try clear hk); (try clear hi); (try clear ho0); obtain ⟨Ao119, co119, eo119⟩ := Kd.R_slice HO407.out; subst eo119) | (go_at_call 34; (with_reducible refine (impl_RankHands.calls kj62 _ _ t405 t408 t409 _ ?side1 ?side2 A91.out).mono ?_); (case side1 => repeat (first | exact (Kd.R_reads' HO407.out).2.2 | (with_reducible refine Kd.C_alloc ?_ _) | (with_reducible refine Kd.C_drewN ?_ _) | (with_reducible refine Kd.C_drew ?_))); (case side2 => exact (Kd.R_reads' HO407.out).2.1); rintro e w120 ⟨v410, rfl, ho0, hb⟩; have n0_ := Aside0.mk (Kd.R_below (by (with_reducible repeat (first | apply Kd.R_alloc | apply Kd.R_drewN | apply Kd.R_drew)); exact HO407.out) hb); have n1_ := Aside0.mk (Kd.R_lower ho0 (below_size (by repeat (first | (with_reducible first | exact HB.out | apply below_alloc | apply pw_below_drewN | apply below_drew1 | refine below_set ?_ GE400.out) | exact HB.out)))); have n2_ := Aside0.mk (blk_below (blkd BK400) hb); have n3_ := Aside0.mk (below_step (by repeat (first | (with_reducible first | exact HB.out | apply below_alloc | apply pw_below_drewN | apply below_drew1 | refine below_set ?_ GE400.out) | exact HB.out)) hb); clear HO407; clear BK400; clear HB; have HO407 := n0_; have HO411 := n1_; have BK400 := n2_; have HB := n3_; clear n0_ n1_ n2_ n3_; (try clear hb); (try clear hb2); (try clear hk); (try clear hi); (try clear ho0)) | (go_at_call 32; (with_reducible refine (spec_RankHands.calls kj62 _ _ t405 t412 t413 _ ?side1 ?side2 A92.out).mono ?_); (case side1 => repeat (first | exact (Kd.R_reads' HO407.out).2.2 | (with_reducible refine Kd.C_alloc ?_ _) | (with_reducible refine Kd.C_drewN ?_ _) | (with_reducible refine Kd.C_drew ?_))); (case side2 => exact (Kd.R_reads' HO407.out).2.1); rintro e w121 ⟨v414, rfl, ho0, hb⟩; have n0_ := Aside0.mk (Kd.R_below (by (with_reducible repeat (first | apply Kd.R_alloc | apply Kd.R_drewN | apply Kd.R_drew)); exact HO407.out) hb); have n1_ := Aside0.mk (Kd.R_elder' (by (with_reducible repeat (first | apply Kd.R_alloc | apply Kd.R_drewN | apply Kd.R_drew)); exact HO411.out) (Kd.R_base ho0) hb); have n2_ := Aside0.mk (Kd.R_lower (Kd.R_new' ho0 (Kd.R_lt (by (with_reducible repeat (first | apply Kd.R_alloc | apply Kd.R_drewN | apply Kd.R_drew)); exact HO411.out))) (below_size (by repeat (first | (with_reducible first | exact HB.out | apply below_alloc | apply pw_below_drewN | apply below_drew1 | refine below_set ?_ GE400.out) | exact HB.out)))); have n3_ := Aside0.mk (blk_below (blkd BK400) hb); have n4_ := Aside0.mk (below_step (by repeat (first | (with_reducible first | exact HB.out | apply below_alloc | apply pw_below_drewN | apply below_drew1 | refine below_set ?_ GE400.out) | exact HB.out)) hb); clear HO407; clear HO411; clear BK400; clear HB; have HO407 := n0_; have HO411 := n1_; have HO415 := n2_; have BK400 := n3_; have HB := n4_; clear n0_ n1_ n2_ n3_ n4_; (try clear hb); (try clear hb2); (try clear hk); (try clear hi); (try clear ho0); obtain ⟨Ao122, co122, eo122⟩ := Kd.R_slice HO411.out; subst eo122; obtain ⟨Ao123, co123, eo123⟩ := Kd.R_slice HO415.out; subst eo123) | (go_at_call 48; (with_reducible refine (laws_sameInts.calls kj62 _ _ t408 _ _ t412 true _ ?side1 ?side2 ?side3 ?side4 A96.out).mono ?_); (case side1 => repeat (first | exact (Kd.R_reads' HO411.out).2.2 | (with_reducible refine Kd.C_alloc ?_ _) | (with_reducible refine Kd.C_drewN ?_ _) | (with_reducible refine Kd.C_drew ?_))); (case side2 => exact (Kd.R_reads' HO411.out).2.1); (case side3 => repeat (first | exact (Kd.R_reads' HO415.out).2.2 | (with_reducible refine Kd.C_alloc ?_ _) | (with_reducible refine Kd.C_drewN ?_ _) | (with_reducible refine Kd.C_drew ?_))); (case side4 => exact (Kd.R_reads' HO415.out).2.1); rintro e w' ⟨rfl, ⟨nd, rfl⟩⟩; (try first | exact ⟨rfl, _, World.drewN_drewN _ _ _⟩ | exact ⟨rfl, _, Eq.trans (World.drewN_drewN _ _ _) (congrArg (World.drewN _) (Nat.add_assoc _ _ _))⟩))))
              go_ret
              exact ⟨by first | rfl | (simp [errW_none, errW_some] <;> rfl) | (simp [*, errW_none, errW_some] <;> rfl), by repeat (first | (with_reducible first | exact HB.out | apply below_alloc | apply pw_below_drewN | apply below_drew1 | refine below_set ?_ GE400.out) | exact HB.out)⟩
            ·replace c97 := Bool.eq_false_iff.mpr c97
             subst c97
             have H1 : (some false) = some r := by rw [if_neg (show ¬ (false = true) by decide)] at H; exact H
             clear H
             have H := H1
             clear H1
             exact absurd (H.trans (congrArg some hr_)) (by simp)
           ·rw [if_neg c95] at H
            have c95b0 : (t409 == t413) = false := by simpa using c95
            (try (have c95b1 : decide (t409 = t413) = false := by simpa using c95))
            (try (have c95b2 : (t409 == t413) = false := by simpa using c95))
            (try (have c95b3 : ¬ (t409 = t413) := by simpa using c95))
            clear c95
            exact absurd (H.trans (congrArg some hr_)) (by simp)
          ·rw [if_neg c94] at H
           have c94b0 : (t401 == t403) = false := beq_eq_false_iff_ne.mpr c94
           have c94b1 : (t401 != t403) = true := bne_iff_ne.mpr c94
           exact absurd (H.trans (congrArg some hr_)) (by simp)
         ·rw [if_neg c93] at H
          have c93b0 : (t402 == t404) = false := by simpa using c93
          (try (have c93b1 : decide (t402 = t404) = false := by simpa using c93))
          (try (have c93b2 : (t402 == t404) = false := by simpa using c93))
          (try (have c93b3 : ¬ (t402 = t404) := by simpa using c93))
          clear c93
          exact absurd (H.trans (congrArg some hr_)) (by simp)

/-- THE ONE PURE STATEMENT of laws_FnWays: yours. -/
def laws_FnWays.Pure : Prop := ∀ (l0 : List Int) (l1 : List Int), l0.length ≤ maxLen → l0.length * 1 ≤ 140737488351232 → (∀ x ∈ l0, (Lit.int .u8 x).wf = true) → l1.length ≤ maxLen → l1.length * 1 ≤ 140737488351232 → (∀ x ∈ l1, (Lit.int .u8 x).wf = true) → ∃ k, laws_FnWays.f k l0 l1 = some true
theorem laws_FnWays.walk (P : laws_FnWays.Pure) (a0 : Option Addr) (len0 cap0 : Nat) (z0 : List Int) (a1 : Option Addr) (len1 cap1 : Nat) (z1 : List Int) (w : World) (w0 : (a0 = none ∧ len0 = 0 ∧ cap0 = 0 ∧ z0 = []) ∨ ∃ x, a0 = some x ∧ len0 ≤ cap0 ∧ cap0 ≤ maxLen ∧ z0.length = cap0 ∧ (∀ i, i < z0.length → w.cell? (x.add i) = some (.int .u8 (z0.getD i 0))) ∧ ∀ n ∈ z0, (Lit.int .u8 n).wf = true) (y0 : len0 * 1 ≤ 140737488351232) (w1 : (a1 = none ∧ len1 = 0 ∧ cap1 = 0 ∧ z1 = []) ∨ ∃ x, a1 = some x ∧ len1 ≤ cap1 ∧ cap1 ≤ maxLen ∧ z1.length = cap1 ∧ (∀ i, i < z1.length → w.cell? (x.add i) = some (.int .u8 (z1.getD i 0))) ∧ ∀ n ∈ z1, (Lit.int .u8 n).wf = true) (y1 : len1 * 1 ≤ 140737488351232) :
  Calls Try.prog 10 #[.slice a0 len0 cap0, .slice a1 len1 cap1] w fun e w' => e = .returned (.bool true) ∧ Below w.heap.size w w' := by
 obtain ⟨l0, rfl, hr0, hm0, hw0, hc0⟩ := ReadsInt.ofRowC w0
 obtain ⟨l1, rfl, hr1, hm1, hw1, hc1⟩ := ReadsInt.ofRowC w1
 obtain ⟨k, h⟩ := P l0 l1 hm0 y0 hw0 hm1 y1 hw1
 refine (laws_FnWays.calls k _ _ l0 _ _ l1 true w (Kd.C_of_reads (d := (0 : Int)) (h1 := fun _ => rfl) hr0) hc0 (Kd.C_of_reads (d := (0 : Int)) (h1 := fun _ => rfl) hr1) hc1 h rfl).mono ?_
 rintro e w' ⟨rfl, hd⟩
 exact ⟨rfl, hd⟩

end Go.Proofs.Ytpibdgknmjjolaa.QFnWays
