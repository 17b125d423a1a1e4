-- printed by this session's own program (wip/tools/pp.py: the kit's print.py with changes); Lean checks it
import Derived.Test.YtkgogglnipdcfaaQFnMixesx0
import Derived.Test.YtkgogglnipdcfaaQFnMixesx2
import Derived.Test.YtkgogglnipdcfaaQFnMixesx5
import Derived.Test.YtkgogglnipdcfaaQFnMixesx6
namespace Go.Proofs.Ytkgogglnipdcfaa.QFnMixes
open Go.RowKit Go.Proofs.YtkgogglnipdcfaaW.PrintWords Go.Proofs.YtkgogglnipdcfaaW.PrintLast Go.Proofs.YtkgogglnipdcfaaW.PrintMore
attribute [local go_sem] max2_int min2_int max_two min_two max_three min_three max_four min_four strLss strGtr strLeq strGeq   -- for this text's walks alone
set_option linter.unusedVariables false
set_option linter.unusedSimpArgs false

/-! ### laws_FnMixes: function 12 -/
mutual
def laws_FnMixes.j0 : Nat → List Int → Int → Int → List (List ByteArray) → List (List ByteArray) → Bool → List (List ByteArray) → Bool → Option (Bool)
  | 0, _, _, _, _, _, _, _, _ => none
  | k + 1, x1, x5, x6, x7, x8, x9, x10, x78 => if x78 = true then (some false) else (laws_FnMixes.l0 k x1 x5 x6 x7 x8 x9 x10 (x8.length : Int) 0)
def laws_FnMixes.l0 : Nat → List Int → Int → Int → List (List ByteArray) → List (List ByteArray) → Bool → List (List ByteArray) → Int → Int → Option (Bool)
  | 0, _, _, _, _, _, _, _, _, _ => none
  | k + 1, x1, x5, x6, x7, x8, x9, x10, x80, x81 => if x81 < x80 then (if 0 ≤ x81 then (if x81 < (x8.length : Int) then (if x81 < (x10.length : Int) then ((laws_sameTexts.f k (rd_L2 x8 x81) (rd_L2 x10 x81)).bind fun t543 => (if t543 = true then (laws_FnMixes.l0 k x1 x5 x6 x7 x8 x9 x10 x80 (wrap64 (x81 + 1))) else (some false))) else (none)) else (none)) else (none)) else (laws_FnMixes.l1 k x1 x5 x6 x7 x8 x9 true ([] : List Int) ([] : List ByteArray) (x7.length : Int) 0)
def laws_FnMixes.l1 : Nat → List Int → Int → Int → List (List ByteArray) → List (List ByteArray) → Bool → Bool → List Int → List ByteArray → Int → Int → Option (Bool)
  | 0, _, _, _, _, _, _, _, _, _, _, _ => none
  | k + 1, x1, x5, x6, x7, x8, x9, x13, x14, x15, x96, x97 => if x97 < x96 then (if 0 ≤ x97 then (if x97 < (x7.length : Int) then (laws_FnMixes.l2 k x1 x5 x6 x7 x8 x9 x13 x14 x15 x96 x97 (rd_L2 x7 x97) ((rd_L2 x7 x97).length : Int) 0) else (none)) else (none)) else (if x9 = true then (if x13 = true then (laws_FnMixes.j6 k x1 x5 x6 x7 x8 (decide ((x15.length : Int) ≤ 12))) else (laws_FnMixes.j6 k x1 x5 x6 x7 x8 false)) else (laws_FnMixes.j6 k x1 x5 x6 x7 x8 false))
def laws_FnMixes.l2 : Nat → List Int → Int → Int → List (List ByteArray) → List (List ByteArray) → Bool → Bool → List Int → List ByteArray → Int → Int → List ByteArray → Int → Int → Option (Bool)
  | 0, _, _, _, _, _, _, _, _, _, _, _, _, _, _ => none
  | k + 1, x1, x5, x6, x7, x8, x9, x13, x14, x15, x96, x97, x101, x102, x103 => if x103 < x102 then (if 0 ≤ x103 then (if x103 < (x101.length : Int) then ((impl_TagOf.f k (rdOf ByteArray.empty x101 x103)).bind fun bt546 => (if bt546.2 = true then (laws_FnMixes.j4 k x1 x5 x6 x7 x8 x9 x13 x14 x15 (rdOf ByteArray.empty x101 x103) bt546.1 x96 x97 x101 x102 x103) else (laws_FnMixes.j4 k x1 x5 x6 x7 x8 x9 false x14 x15 (rdOf ByteArray.empty x101 x103) bt546.1 x96 x97 x101 x102 x103))) else (none)) else (none)) else (laws_FnMixes.l1 k x1 x5 x6 x7 x8 x9 x13 x14 x15 x96 (wrap64 (x97 + 1)))
def laws_FnMixes.j4 : Nat → List Int → Int → Int → List (List ByteArray) → List (List ByteArray) → Bool → Bool → List Int → List ByteArray → ByteArray → Int → Int → Int → List ByteArray → Int → Int → Option (Bool)
  | 0, _, _, _, _, _, _, _, _, _, _, _, _, _, _, _, _ => none
  | k + 1, x1, x5, x6, x7, x8, x9, x13, x14, x15, x19, x20, x96, x97, x101, x102, x103 => laws_FnMixes.l3 k x1 x5 x6 x7 x8 x9 x13 x14 x15 x19 x20 x96 x97 x101 x102 x103 (x15.length : Int) 0
def laws_FnMixes.l3 : Nat → List Int → Int → Int → List (List ByteArray) → List (List ByteArray) → Bool → Bool → List Int → List ByteArray → ByteArray → Int → Int → Int → List ByteArray → Int → Int → Int → Int → Option (Bool)
  | 0, _, _, _, _, _, _, _, _, _, _, _, _, _, _, _, _, _, _ => none
  | k + 1, x1, x5, x6, x7, x8, x9, x13, x14, x15, x19, x20, x96, x97, x101, x102, x103, x115, x116 => if x116 < x115 then (if 0 ≤ x116 then (if x116 < (x15.length : Int) then (if (rdOf ByteArray.empty x15 x116).toList = x19.toList then (laws_FnMixes.l3 k x1 x5 x6 x7 x8 x9 x13 x14 x15 x19 x20 x96 x97 x101 x102 x103 x115 (wrap64 (x116 + 1))) else (if x116 < (x14.length : Int) then (if (rd x14 x116) = x20 then (laws_FnMixes.l3 k x1 x5 x6 x7 x8 x9 false x14 x15 x19 x20 x96 x97 x101 x102 x103 x115 (wrap64 (x116 + 1))) else (laws_FnMixes.l3 k x1 x5 x6 x7 x8 x9 x13 x14 x15 x19 x20 x96 x97 x101 x102 x103 x115 (wrap64 (x116 + 1)))) else (none))) else (none)) else (none)) else (if x15.length < 8796093022208 then (if x14.length < 17592186044416 then (laws_FnMixes.l2 k x1 x5 x6 x7 x8 x9 x13 (x14 ++ [x20]) (x15 ++ [x19]) x96 x97 x101 x102 (wrap64 (x103 + 1))) else (none)) else (none))
def laws_FnMixes.j6 : Nat → List Int → Int → Int → List (List ByteArray) → List (List ByteArray) → Bool → Option (Bool)
  | 0, _, _, _, _, _, _ => none
  | k + 1, x1, x5, x6, x7, x8, x151 => if x151 = true then (laws_FnMixes.l4 k x1 x5 x6 x7 x8 ([] : List (List ByteArray)) (x7.length : Int) 0) else (laws_FnMixes.j11 k x1)
def laws_FnMixes.j11 : Nat → List Int → Option (Bool)
  | 0, _ => none
  | k + 1, x1 => (spec_DrawSortTexts.f k x1).bind fun t571 => ((impl_SortTexts.f k t571).bind fun bt574 => ((spec_SortTexts.f k t571).bind fun bt578 => ((spec_DrawSetSize.f k x1).bind fun bt582 => ((impl_SetSize.f bt582.1 bt582.2).bind fun bt586 => ((spec_SetSize.f bt582.1 bt582.2).bind fun bt588 => (if (bt574.2 == bt578.2) = true then ((laws_sameTexts.f k bt574.1 bt578.1).bind fun t590 => (if t590 = true then (if (bt586.2 == bt588.2) = true then (some (bt586.1 == bt588.1)) else (some false)) else (some false))) else (some false)))))))
def laws_FnMixes.l4 : Nat → List Int → Int → Int → List (List ByteArray) → List (List ByteArray) → List (List ByteArray) → Int → Int → Option (Bool)
  | 0, _, _, _, _, _, _, _, _ => none
  | k + 1, x1, x5, x6, x7, x8, x24, x153, x154 => if x154 < x153 then (if 0 ≤ x154 then (if x154 < (x7.length : Int) then (laws_FnMixes.l5 k x1 x5 x6 x7 x8 x24 (rd_L2 x7 x154) ([] : List ByteArray) (wrap64 (((rd_L2 x7 x154).length : Int) - 1)) x153 x154) else (none)) else (none)) else ((impl_PlayMix.f k x5 x6 x24).bind fun bt564 => (if bt564.2 = true then (laws_FnMixes.j9 k x1 x8 bt564.1 ((bt564.1.length : Int) != (x8.length : Int))) else (laws_FnMixes.j9 k x1 x8 bt564.1 true)))
def laws_FnMixes.l5 : Nat → List Int → Int → Int → List (List ByteArray) → List (List ByteArray) → List (List ByteArray) → List ByteArray → List ByteArray → Int → Int → Int → Option (Bool)
  | 0, _, _, _, _, _, _, _, _, _, _, _ => none
  | k + 1, x1, x5, x6, x7, x8, x24, x26, x27, x28, x153, x154 => if x28 ≥ 0 then (if 0 ≤ x28 then (if x28 < (x26.length : Int) then (if x27.length < 8796093022208 then (laws_FnMixes.l5 k x1 x5 x6 x7 x8 x24 x26 (x27 ++ [rdOf ByteArray.empty x26 x28]) (wrap64 (x28 - 1)) x153 x154) else (none)) else (none)) else (none)) else (if x24.length < 5864062014805 then (laws_FnMixes.l4 k x1 x5 x6 x7 x8 (x24 ++ [x27]) x153 (wrap64 (x154 + 1))) else (none))
def laws_FnMixes.j9 : Nat → List Int → List (List ByteArray) → List (List ByteArray) → Bool → Option (Bool)
  | 0, _, _, _, _ => none
  | k + 1, x1, x8, x29, x192 => if x192 = true then (some false) else (laws_FnMixes.l6 k x1 x8 x29 (x8.length : Int) 0)
def laws_FnMixes.l6 : Nat → List Int → List (List ByteArray) → List (List ByteArray) → Int → Int → Option (Bool)
  | 0, _, _, _, _, _ => none
  | k + 1, x1, x8, x29, x194, x195 => if x195 < x194 then (if 0 ≤ x195 then (if x195 < (x29.length : Int) then (if x195 < (x8.length : Int) then ((laws_sameTexts.f k (rd_L2 x29 x195) (rd_L2 x8 x195)).bind fun t570 => (if t570 = true then (laws_FnMixes.l6 k x1 x8 x29 x194 (wrap64 (x195 + 1))) else (some false))) else (none)) else (none)) else (none)) else (laws_FnMixes.j11 k x1)
end
def laws_FnMixes.f (k : Nat) (l0 : List Int) (l1 : List Int) : Option (Bool) := if (wrap64 ((l0.length : Int) + (l1.length : Int))) > 1048576 then (some true) else ((spec_DrawPlayMix.f k l0).bind fun bt528 => ((impl_PlayMix.f k bt528.1 bt528.2.1 bt528.2.2).bind fun bt533 => ((spec_PlayMix.f k bt528.1 bt528.2.1 bt528.2.2).bind fun bt537 => (if (bt533.2 != bt537.2) = true then (laws_FnMixes.j0 k l1 bt528.1 bt528.2.1 bt528.2.2 bt533.1 bt533.2 bt537.1 true) else (laws_FnMixes.j0 k l1 bt528.1 bt528.2.1 bt528.2.2 bt533.1 bt533.2 bt537.1 ((bt533.1.length : Int) != (bt537.1.length : Int)))))))
theorem laws_FnMixes.mono_l : ∀ k, (∀ y0 y1 y2 y3 y4 y5 y6 y7, LeO (laws_FnMixes.j0 k y0 y1 y2 y3 y4 y5 y6 y7) (laws_FnMixes.j0 (k + 1) y0 y1 y2 y3 y4 y5 y6 y7)) ∧ (∀ y0 y1 y2 y3 y4 y5 y6 y7 y8, LeO (laws_FnMixes.l0 k y0 y1 y2 y3 y4 y5 y6 y7 y8) (laws_FnMixes.l0 (k + 1) y0 y1 y2 y3 y4 y5 y6 y7 y8)) ∧ (∀ y0 y1 y2 y3 y4 y5 y6 y7 y8 y9 y10, LeO (laws_FnMixes.l1 k y0 y1 y2 y3 y4 y5 y6 y7 y8 y9 y10) (laws_FnMixes.l1 (k + 1) y0 y1 y2 y3 y4 y5 y6 y7 y8 y9 y10)) ∧ (∀ y0 y1 y2 y3 y4 y5 y6 y7 y8 y9 y10 y11 y12 y13, LeO (laws_FnMixes.l2 k y0 y1 y2 y3 y4 y5 y6 y7 y8 y9 y10 y11 y12 y13) (laws_FnMixes.l2 (k + 1) y0 y1 y2 y3 y4 y5 y6 y7 y8 y9 y10 y11 y12 y13)) ∧ (∀ y0 y1 y2 y3 y4 y5 y6 y7 y8 y9 y10 y11 y12 y13 y14 y15, LeO (laws_FnMixes.j4 k y0 y1 y2 y3 y4 y5 y6 y7 y8 y9 y10 y11 y12 y13 y14 y15) (laws_FnMixes.j4 (k + 1) y0 y1 y2 y3 y4 y5 y6 y7 y8 y9 y10 y11 y12 y13 y14 y15)) ∧ (∀ y0 y1 y2 y3 y4 y5 y6 y7 y8 y9 y10 y11 y12 y13 y14 y15 y16 y17, LeO (laws_FnMixes.l3 k y0 y1 y2 y3 y4 y5 y6 y7 y8 y9 y10 y11 y12 y13 y14 y15 y16 y17) (laws_FnMixes.l3 (k + 1) y0 y1 y2 y3 y4 y5 y6 y7 y8 y9 y10 y11 y12 y13 y14 y15 y16 y17)) ∧ (∀ y0 y1 y2 y3 y4 y5, LeO (laws_FnMixes.j6 k y0 y1 y2 y3 y4 y5) (laws_FnMixes.j6 (k + 1) y0 y1 y2 y3 y4 y5)) ∧ (∀ y0, LeO (laws_FnMixes.j11 k y0) (laws_FnMixes.j11 (k + 1) y0)) ∧ (∀ y0 y1 y2 y3 y4 y5 y6 y7, LeO (laws_FnMixes.l4 k y0 y1 y2 y3 y4 y5 y6 y7) (laws_FnMixes.l4 (k + 1) y0 y1 y2 y3 y4 y5 y6 y7)) ∧ (∀ y0 y1 y2 y3 y4 y5 y6 y7 y8 y9 y10, LeO (laws_FnMixes.l5 k y0 y1 y2 y3 y4 y5 y6 y7 y8 y9 y10) (laws_FnMixes.l5 (k + 1) y0 y1 y2 y3 y4 y5 y6 y7 y8 y9 y10)) ∧ (∀ y0 y1 y2 y3, LeO (laws_FnMixes.j9 k y0 y1 y2 y3) (laws_FnMixes.j9 (k + 1) y0 y1 y2 y3)) ∧ (∀ y0 y1 y2 y3 y4, LeO (laws_FnMixes.l6 k y0 y1 y2 y3 y4) (laws_FnMixes.l6 (k + 1) y0 y1 y2 y3 y4))
 | 0 => ⟨fun _ _ _ _ _ _ _ _ r h => by simp [laws_FnMixes.j0] at h, fun _ _ _ _ _ _ _ _ _ r h => by simp [laws_FnMixes.l0] at h, fun _ _ _ _ _ _ _ _ _ _ _ r h => by simp [laws_FnMixes.l1] at h, fun _ _ _ _ _ _ _ _ _ _ _ _ _ _ r h => by simp [laws_FnMixes.l2] at h, fun _ _ _ _ _ _ _ _ _ _ _ _ _ _ _ _ r h => by simp [laws_FnMixes.j4] at h, fun _ _ _ _ _ _ _ _ _ _ _ _ _ _ _ _ _ _ r h => by simp [laws_FnMixes.l3] at h, fun _ _ _ _ _ _ r h => by simp [laws_FnMixes.j6] at h, fun _ r h => by simp [laws_FnMixes.j11] at h, fun _ _ _ _ _ _ _ _ r h => by simp [laws_FnMixes.l4] at h, fun _ _ _ _ _ _ _ _ _ _ _ r h => by simp [laws_FnMixes.l5] at h, fun _ _ _ _ r h => by simp [laws_FnMixes.j9] at h, fun _ _ _ _ _ r h => by simp [laws_FnMixes.l6] at h⟩
 | k + 1 => by
  obtain ⟨ih0, ih1, ih2, ih3, ih4, ih5, ih6, ih7, ih8, ih9, ih10, ih11⟩ := laws_FnMixes.mono_l k
  refine ⟨?_, ?_, ?_, ?_, ?_, ?_, ?_, ?_, ?_, ?_, ?_, ?_⟩
  ·intro y0 y1 y2 y3 y4 y5 y6 y7
   unfold laws_FnMixes.j0
   repeat' (first | (with_reducible first | exact ih0 _ _ _ _ _ _ _ _ | exact ih1 _ _ _ _ _ _ _ _ _ | exact ih2 _ _ _ _ _ _ _ _ _ _ _ | exact ih3 _ _ _ _ _ _ _ _ _ _ _ _ _ _ | exact ih4 _ _ _ _ _ _ _ _ _ _ _ _ _ _ _ _ | exact ih5 _ _ _ _ _ _ _ _ _ _ _ _ _ _ _ _ _ _ | exact ih6 _ _ _ _ _ _ | exact ih7 _ | exact ih8 _ _ _ _ _ _ _ _ | exact ih9 _ _ _ _ _ _ _ _ _ _ _ | exact ih10 _ _ _ _ | exact ih11 _ _ _ _ _ | exact impl_PlayMix.mono _ _ _ _ | exact impl_SortTexts.mono _ _ | exact impl_TagOf.mono _ _ | exact laws_sameTexts.mono _ _ _ | exact spec_DrawPlayMix.mono _ _ | exact spec_DrawSetSize.mono _ _ | exact spec_DrawSortTexts.mono _ _ | exact spec_PlayMix.mono _ _ _ _ | exact spec_SortTexts.mono _ _ | exact LeO.refl _ | exact LeO.none _ | refine LeO.ite ?_ ?_ | refine LeO.bind ?_ (fun _ => ?_)) | exact ih0 _ _ _ _ _ _ _ _ | exact ih1 _ _ _ _ _ _ _ _ _ | exact ih2 _ _ _ _ _ _ _ _ _ _ _ | exact ih3 _ _ _ _ _ _ _ _ _ _ _ _ _ _ | exact ih4 _ _ _ _ _ _ _ _ _ _ _ _ _ _ _ _ | exact ih5 _ _ _ _ _ _ _ _ _ _ _ _ _ _ _ _ _ _ | exact ih6 _ _ _ _ _ _ | exact ih7 _ | exact ih8 _ _ _ _ _ _ _ _ | exact ih9 _ _ _ _ _ _ _ _ _ _ _ | exact ih10 _ _ _ _ | exact ih11 _ _ _ _ _ | exact impl_PlayMix.mono _ _ _ _ | exact impl_SortTexts.mono _ _ | exact impl_TagOf.mono _ _ | exact laws_sameTexts.mono _ _ _ | exact spec_DrawPlayMix.mono _ _ | exact spec_DrawSetSize.mono _ _ | exact spec_DrawSortTexts.mono _ _ | exact spec_PlayMix.mono _ _ _ _ | exact spec_SortTexts.mono _ _ | exact LeO.none _ | refine LeO.ite ?_ ?_ | refine LeO.bind ?_ (fun _ => ?_))
  ·intro y0 y1 y2 y3 y4 y5 y6 y7 y8
   unfold laws_FnMixes.l0
   repeat' (first | (with_reducible first | exact ih0 _ _ _ _ _ _ _ _ | exact ih1 _ _ _ _ _ _ _ _ _ | exact ih2 _ _ _ _ _ _ _ _ _ _ _ | exact ih3 _ _ _ _ _ _ _ _ _ _ _ _ _ _ | exact ih4 _ _ _ _ _ _ _ _ _ _ _ _ _ _ _ _ | exact ih5 _ _ _ _ _ _ _ _ _ _ _ _ _ _ _ _ _ _ | exact ih6 _ _ _ _ _ _ | exact ih7 _ | exact ih8 _ _ _ _ _ _ _ _ | exact ih9 _ _ _ _ _ _ _ _ _ _ _ | exact ih10 _ _ _ _ | exact ih11 _ _ _ _ _ | exact impl_PlayMix.mono _ _ _ _ | exact impl_SortTexts.mono _ _ | exact impl_TagOf.mono _ _ | exact laws_sameTexts.mono _ _ _ | exact spec_DrawPlayMix.mono _ _ | exact spec_DrawSetSize.mono _ _ | exact spec_DrawSortTexts.mono _ _ | exact spec_PlayMix.mono _ _ _ _ | exact spec_SortTexts.mono _ _ | exact LeO.refl _ | exact LeO.none _ | refine LeO.ite ?_ ?_ | refine LeO.bind ?_ (fun _ => ?_)) | exact ih0 _ _ _ _ _ _ _ _ | exact ih1 _ _ _ _ _ _ _ _ _ | exact ih2 _ _ _ _ _ _ _ _ _ _ _ | exact ih3 _ _ _ _ _ _ _ _ _ _ _ _ _ _ | exact ih4 _ _ _ _ _ _ _ _ _ _ _ _ _ _ _ _ | exact ih5 _ _ _ _ _ _ _ _ _ _ _ _ _ _ _ _ _ _ | exact ih6 _ _ _ _ _ _ | exact ih7 _ | exact ih8 _ _ _ _ _ _ _ _ | exact ih9 _ _ _ _ _ _ _ _ _ _ _ | exact ih10 _ _ _ _ | exact ih11 _ _ _ _ _ | exact impl_PlayMix.mono _ _ _ _ | exact impl_SortTexts.mono _ _ | exact impl_TagOf.mono _ _ | exact laws_sameTexts.mono _ _ _ | exact spec_DrawPlayMix.mono _ _ | exact spec_DrawSetSize.mono _ _ | exact spec_DrawSortTexts.mono _ _ | exact spec_PlayMix.mono _ _ _ _ | exact spec_SortTexts.mono _ _ | exact LeO.none _ | refine LeO.ite ?_ ?_ | refine LeO.bind ?_ (fun _ => ?_))
  ·intro y0 y1 y2 y3 y4 y5 y6 y7 y8 y9 y10
   unfold laws_FnMixes.l1
   repeat' (first | (with_reducible first | exact ih0 _ _ _ _ _ _ _ _ | exact ih1 _ _ _ _ _ _ _ _ _ | exact ih2 _ _ _ _ _ _ _ _ _ _ _ | exact ih3 _ _ _ _ _ _ _ _ _ _ _ _ _ _ | exact ih4 _ _ _ _ _ _ _ _ _ _ _ _ _ _ _ _ | exact ih5 _ _ _ _ _ _ _ _ _ _ _ _ _ _ _ _ _ _ | exact ih6 _ _ _ _ _ _ | exact ih7 _ | exact ih8 _ _ _ _ _ _ _ _ | exact ih9 _ _ _ _ _ _ _ _ _ _ _ | exact ih10 _ _ _ _ | exact ih11 _ _ _ _ _ | exact impl_PlayMix.mono _ _ _ _ | exact impl_SortTexts.mono _ _ | exact impl_TagOf.mono _ _ | exact laws_sameTexts.mono _ _ _ | exact spec_DrawPlayMix.mono _ _ | exact spec_DrawSetSize.mono _ _ | exact spec_DrawSortTexts.mono _ _ | exact spec_PlayMix.mono _ _ _ _ | exact spec_SortTexts.mono _ _ | exact LeO.refl _ | exact LeO.none _ | refine LeO.ite ?_ ?_ | refine LeO.bind ?_ (fun _ => ?_)) | exact ih0 _ _ _ _ _ _ _ _ | exact ih1 _ _ _ _ _ _ _ _ _ | exact ih2 _ _ _ _ _ _ _ _ _ _ _ | exact ih3 _ _ _ _ _ _ _ _ _ _ _ _ _ _ | exact ih4 _ _ _ _ _ _ _ _ _ _ _ _ _ _ _ _ | exact ih5 _ _ _ _ _ _ _ _ _ _ _ _ _ _ _ _ _ _ | exact ih6 _ _ _ _ _ _ | exact ih7 _ | exact ih8 _ _ _ _ _ _ _ _ | exact ih9 _ _ _ _ _ _ _ _ _ _ _ | exact ih10 _ _ _ _ | exact ih11 _ _ _ _ _ | exact impl_PlayMix.mono _ _ _ _ | exact impl_SortTexts.mono _ _ | exact impl_TagOf.mono _ _ | exact laws_sameTexts.mono _ _ _ | exact spec_DrawPlayMix.mono _ _ | exact spec_DrawSetSize.mono _ _ | exact spec_DrawSortTexts.mono _ _ | exact spec_PlayMix.mono _ _ _ _ | exact spec_SortTexts.mono _ _ | exact LeO.none _ | refine LeO.ite ?_ ?_ | refine LeO.bind ?_ (fun _ => ?_))
  ·intro y0 y1 y2 y3 y4 y5 y6 y7 y8 y9 y10 y11 y12 y13
   unfold laws_FnMixes.l2
   repeat' (first | (with_reducible first | exact ih0 _ _ _ _ _ _ _ _ | exact ih1 _ _ _ _ _ _ _ _ _ | exact ih2 _ _ _ _ _ _ _ _ _ _ _ | exact ih3 _ _ _ _ _ _ _ _ _ _ _ _ _ _ | exact ih4 _ _ _ _ _ _ _ _ _ _ _ _ _ _ _ _ | exact ih5 _ _ _ _ _ _ _ _ _ _ _ _ _ _ _ _ _ _ | exact ih6 _ _ _ _ _ _ | exact ih7 _ | exact ih8 _ _ _ _ _ _ _ _ | exact ih9 _ _ _ _ _ _ _ _ _ _ _ | exact ih10 _ _ _ _ | exact ih11 _ _ _ _ _ | exact impl_PlayMix.mono _ _ _ _ | exact impl_SortTexts.mono _ _ | exact impl_TagOf.mono _ _ | exact laws_sameTexts.mono _ _ _ | exact spec_DrawPlayMix.mono _ _ | exact spec_DrawSetSize.mono _ _ | exact spec_DrawSortTexts.mono _ _ | exact spec_PlayMix.mono _ _ _ _ | exact spec_SortTexts.mono _ _ | exact LeO.refl _ | exact LeO.none _ | refine LeO.ite ?_ ?_ | refine LeO.bind ?_ (fun _ => ?_)) | exact ih0 _ _ _ _ _ _ _ _ | exact ih1 _ _ _ _ _ _ _ _ _ | exact ih2 _ _ _ _ _ _ _ _ _ _ _ | exact ih3 _ _ _ _ _ _ _ _ _ _ _ _ _ _ | exact ih4 _ _ _ _ _ _ _ _ _ _ _ _ _ _ _ _ | exact ih5 _ _ _ _ _ _ _ _ _ _ _ _ _ _ _ _ _ _ | exact ih6 _ _ _ _ _ _ | exact ih7 _ | exact ih8 _ _ _ _ _ _ _ _ | exact ih9 _ _ _ _ _ _ _ _ _ _ _ | exact ih10 _ _ _ _ | exact ih11 _ _ _ _ _ | exact impl_PlayMix.mono _ _ _ _ | exact impl_SortTexts.mono _ _ | exact impl_TagOf.mono _ _ | exact laws_sameTexts.mono _ _ _ | exact spec_DrawPlayMix.mono _ _ | exact spec_DrawSetSize.mono _ _ | exact spec_DrawSortTexts.mono _ _ | exact spec_PlayMix.mono _ _ _ _ | exact spec_SortTexts.mono _ _ | exact LeO.none _ | refine LeO.ite ?_ ?_ | refine LeO.bind ?_ (fun _ => ?_))
  ·intro y0 y1 y2 y3 y4 y5 y6 y7 y8 y9 y10 y11 y12 y13 y14 y15
   unfold laws_FnMixes.j4
   repeat' (first | (with_reducible first | exact ih0 _ _ _ _ _ _ _ _ | exact ih1 _ _ _ _ _ _ _ _ _ | exact ih2 _ _ _ _ _ _ _ _ _ _ _ | exact ih3 _ _ _ _ _ _ _ _ _ _ _ _ _ _ | exact ih4 _ _ _ _ _ _ _ _ _ _ _ _ _ _ _ _ | exact ih5 _ _ _ _ _ _ _ _ _ _ _ _ _ _ _ _ _ _ | exact ih6 _ _ _ _ _ _ | exact ih7 _ | exact ih8 _ _ _ _ _ _ _ _ | exact ih9 _ _ _ _ _ _ _ _ _ _ _ | exact ih10 _ _ _ _ | exact ih11 _ _ _ _ _ | exact impl_PlayMix.mono _ _ _ _ | exact impl_SortTexts.mono _ _ | exact impl_TagOf.mono _ _ | exact laws_sameTexts.mono _ _ _ | exact spec_DrawPlayMix.mono _ _ | exact spec_DrawSetSize.mono _ _ | exact spec_DrawSortTexts.mono _ _ | exact spec_PlayMix.mono _ _ _ _ | exact spec_SortTexts.mono _ _ | exact LeO.refl _ | exact LeO.none _ | refine LeO.ite ?_ ?_ | refine LeO.bind ?_ (fun _ => ?_)) | exact ih0 _ _ _ _ _ _ _ _ | exact ih1 _ _ _ _ _ _ _ _ _ | exact ih2 _ _ _ _ _ _ _ _ _ _ _ | exact ih3 _ _ _ _ _ _ _ _ _ _ _ _ _ _ | exact ih4 _ _ _ _ _ _ _ _ _ _ _ _ _ _ _ _ | exact ih5 _ _ _ _ _ _ _ _ _ _ _ _ _ _ _ _ _ _ | exact ih6 _ _ _ _ _ _ | exact ih7 _ | exact ih8 _ _ _ _ _ _ _ _ | exact ih9 _ _ _ _ _ _ _ _ _ _ _ | exact ih10 _ _ _ _ | exact ih11 _ _ _ _ _ | exact impl_PlayMix.mono _ _ _ _ | exact impl_SortTexts.mono _ _ | exact impl_TagOf.mono _ _ | exact laws_sameTexts.mono _ _ _ | exact spec_DrawPlayMix.mono _ _ | exact spec_DrawSetSize.mono _ _ | exact spec_DrawSortTexts.mono _ _ | exact spec_PlayMix.mono _ _ _ _ | exact spec_SortTexts.mono _ _ | exact LeO.none _ | refine LeO.ite ?_ ?_ | refine LeO.bind ?_ (fun _ => ?_))
  ·intro y0 y1 y2 y3 y4 y5 y6 y7 y8 y9 y10 y11 y12 y13 y14 y15 y16 y17
   unfold laws_FnMixes.l3
   repeat' (first | (with_reducible first | exact ih0 _ _ _ _ _ _ _ _ | exact ih1 _ _ _ _ _ _ _ _ _ | exact ih2 _ _ _ _ _ _ _ _ _ _ _ | exact ih3 _ _ _ _ _ _ _ _ _ _ _ _ _ _ | exact ih4 _ _ _ _ _ _ _ _ _ _ _ _ _ _ _ _ | exact ih5 _ _ _ _ _ _ _ _ _ _ _ _ _ _ _ _ _ _ | exact ih6 _ _ _ _ _ _ | exact ih7 _ | exact ih8 _ _ _ _ _ _ _ _ | exact ih9 _ _ _ _ _ _ _ _ _ _ _ | exact ih10 _ _ _ _ | exact ih11 _ _ _ _ _ | exact impl_PlayMix.mono _ _ _ _ | exact impl_SortTexts.mono _ _ | exact impl_TagOf.mono _ _ | exact laws_sameTexts.mono _ _ _ | exact spec_DrawPlayMix.mono _ _ | exact spec_DrawSetSize.mono _ _ | exact spec_DrawSortTexts.mono _ _ | exact spec_PlayMix.mono _ _ _ _ | exact spec_SortTexts.mono _ _ | exact LeO.refl _ | exact LeO.none _ | refine LeO.ite ?_ ?_ | refine LeO.bind ?_ (fun _ => ?_)) | exact ih0 _ _ _ _ _ _ _ _ | exact ih1 _ _ _ _ _ _ _ _ _ | exact ih2 _ _ _ _ _ _ _ _ _ _ _ | exact ih3 _ _ _ _ _ _ _ _ _ _ _ _ _ _ | exact ih4 _ _ _ _ _ _ _ _ _ _ _ _ _ _ _ _ | exact ih5 _ _ _ _ _ _ _ _ _ _ _ _ _ _ _ _ _ _ | exact ih6 _ _ _ _ _ _ | exact ih7 _ | exact ih8 _ _ _ _ _ _ _ _ | exact ih9 _ _ _ _ _ _ _ _ _ _ _ | exact ih10 _ _ _ _ | exact ih11 _ _ _ _ _ | exact impl_PlayMix.mono _ _ _ _ | exact impl_SortTexts.mono _ _ | exact impl_TagOf.mono _ _ | exact laws_sameTexts.mono _ _ _ | exact spec_DrawPlayMix.mono _ _ | exact spec_DrawSetSize.mono _ _ | exact spec_DrawSortTexts.mono _ _ | exact spec_PlayMix.mono _ _ _ _ | exact spec_SortTexts.mono _ _ | exact LeO.none _ | refine LeO.ite ?_ ?_ | refine LeO.bind ?_ (fun _ => ?_))
  ·intro y0 y1 y2 y3 y4 y5
   unfold laws_FnMixes.j6
   repeat' (first | (with_reducible first | exact ih0 _ _ _ _ _ _ _ _ | exact ih1 _ _ _ _ _ _ _ _ _ | exact ih2 _ _ _ _ _ _ _ _ _ _ _ | exact ih3 _ _ _ _ _ _ _ _ _ _ _ _ _ _ | exact ih4 _ _ _ _ _ _ _ _ _ _ _ _ _ _ _ _ | exact ih5 _ _ _ _ _ _ _ _ _ _ _ _ _ _ _ _ _ _ | exact ih6 _ _ _ _ _ _ | exact ih7 _ | exact ih8 _ _ _ _ _ _ _ _ | exact ih9 _ _ _ _ _ _ _ _ _ _ _ | exact ih10 _ _ _ _ | exact ih11 _ _ _ _ _ | exact impl_PlayMix.mono _ _ _ _ | exact impl_SortTexts.mono _ _ | exact impl_TagOf.mono _ _ | exact laws_sameTexts.mono _ _ _ | exact spec_DrawPlayMix.mono _ _ | exact spec_DrawSetSize.mono _ _ | exact spec_DrawSortTexts.mono _ _ | exact spec_PlayMix.mono _ _ _ _ | exact spec_SortTexts.mono _ _ | exact LeO.refl _ | exact LeO.none _ | refine LeO.ite ?_ ?_ | refine LeO.bind ?_ (fun _ => ?_)) | exact ih0 _ _ _ _ _ _ _ _ | exact ih1 _ _ _ _ _ _ _ _ _ | exact ih2 _ _ _ _ _ _ _ _ _ _ _ | exact ih3 _ _ _ _ _ _ _ _ _ _ _ _ _ _ | exact ih4 _ _ _ _ _ _ _ _ _ _ _ _ _ _ _ _ | exact ih5 _ _ _ _ _ _ _ _ _ _ _ _ _ _ _ _ _ _ | exact ih6 _ _ _ _ _ _ | exact ih7 _ | exact ih8 _ _ _ _ _ _ _ _ | exact ih9 _ _ _ _ _ _ _ _ _ _ _ | exact ih10 _ _ _ _ | exact ih11 _ _ _ _ _ | exact impl_PlayMix.mono _ _ _ _ | exact impl_SortTexts.mono _ _ | exact impl_TagOf.mono _ _ | exact laws_sameTexts.mono _ _ _ | exact spec_DrawPlayMix.mono _ _ | exact spec_DrawSetSize.mono _ _ | exact spec_DrawSortTexts.mono _ _ | exact spec_PlayMix.mono _ _ _ _ | exact spec_SortTexts.mono _ _ | exact LeO.none _ | refine LeO.ite ?_ ?_ | refine LeO.bind ?_ (fun _ => ?_))
  ·intro y0
   unfold laws_FnMixes.j11
   repeat' (first | (with_reducible first | exact ih0 _ _ _ _ _ _ _ _ | exact ih1 _ _ _ _ _ _ _ _ _ | exact ih2 _ _ _ _ _ _ _ _ _ _ _ | exact ih3 _ _ _ _ _ _ _ _ _ _ _ _ _ _ | exact ih4 _ _ _ _ _ _ _ _ _ _ _ _ _ _ _ _ | exact ih5 _ _ _ _ _ _ _ _ _ _ _ _ _ _ _ _ _ _ | exact ih6 _ _ _ _ _ _ | exact ih7 _ | exact ih8 _ _ _ _ _ _ _ _ | exact ih9 _ _ _ _ _ _ _ _ _ _ _ | exact ih10 _ _ _ _ | exact ih11 _ _ _ _ _ | exact impl_PlayMix.mono _ _ _ _ | exact impl_SortTexts.mono _ _ | exact impl_TagOf.mono _ _ | exact laws_sameTexts.mono _ _ _ | exact spec_DrawPlayMix.mono _ _ | exact spec_DrawSetSize.mono _ _ | exact spec_DrawSortTexts.mono _ _ | exact spec_PlayMix.mono _ _ _ _ | exact spec_SortTexts.mono _ _ | exact LeO.refl _ | exact LeO.none _ | refine LeO.ite ?_ ?_ | refine LeO.bind ?_ (fun _ => ?_)) | exact ih0 _ _ _ _ _ _ _ _ | exact ih1 _ _ _ _ _ _ _ _ _ | exact ih2 _ _ _ _ _ _ _ _ _ _ _ | exact ih3 _ _ _ _ _ _ _ _ _ _ _ _ _ _ | exact ih4 _ _ _ _ _ _ _ _ _ _ _ _ _ _ _ _ | exact ih5 _ _ _ _ _ _ _ _ _ _ _ _ _ _ _ _ _ _ | exact ih6 _ _ _ _ _ _ | exact ih7 _ | exact ih8 _ _ _ _ _ _ _ _ | exact ih9 _ _ _ _ _ _ _ _ _ _ _ | exact ih10 _ _ _ _ | exact ih11 _ _ _ _ _ | exact impl_PlayMix.mono _ _ _ _ | exact impl_SortTexts.mono _ _ | exact impl_TagOf.mono _ _ | exact laws_sameTexts.mono _ _ _ | exact spec_DrawPlayMix.mono _ _ | exact spec_DrawSetSize.mono _ _ | exact spec_DrawSortTexts.mono _ _ | exact spec_PlayMix.mono _ _ _ _ | exact spec_SortTexts.mono _ _ | exact LeO.none _ | refine LeO.ite ?_ ?_ | refine LeO.bind ?_ (fun _ => ?_))
  ·intro y0 y1 y2 y3 y4 y5 y6 y7
   unfold laws_FnMixes.l4
   repeat' (first | (with_reducible first | exact ih0 _ _ _ _ _ _ _ _ | exact ih1 _ _ _ _ _ _ _ _ _ | exact ih2 _ _ _ _ _ _ _ _ _ _ _ | exact ih3 _ _ _ _ _ _ _ _ _ _ _ _ _ _ | exact ih4 _ _ _ _ _ _ _ _ _ _ _ _ _ _ _ _ | exact ih5 _ _ _ _ _ _ _ _ _ _ _ _ _ _ _ _ _ _ | exact ih6 _ _ _ _ _ _ | exact ih7 _ | exact ih8 _ _ _ _ _ _ _ _ | exact ih9 _ _ _ _ _ _ _ _ _ _ _ | exact ih10 _ _ _ _ | exact ih11 _ _ _ _ _ | exact impl_PlayMix.mono _ _ _ _ | exact impl_SortTexts.mono _ _ | exact impl_TagOf.mono _ _ | exact laws_sameTexts.mono _ _ _ | exact spec_DrawPlayMix.mono _ _ | exact spec_DrawSetSize.mono _ _ | exact spec_DrawSortTexts.mono _ _ | exact spec_PlayMix.mono _ _ _ _ | exact spec_SortTexts.mono _ _ | exact LeO.refl _ | exact LeO.none _ | refine LeO.ite ?_ ?_ | refine LeO.bind ?_ (fun _ => ?_)) | exact ih0 _ _ _ _ _ _ _ _ | exact ih1 _ _ _ _ _ _ _ _ _ | exact ih2 _ _ _ _ _ _ _ _ _ _ _ | exact ih3 _ _ _ _ _ _ _ _ _ _ _ _ _ _ | exact ih4 _ _ _ _ _ _ _ _ _ _ _ _ _ _ _ _ | exact ih5 _ _ _ _ _ _ _ _ _ _ _ _ _ _ _ _ _ _ | exact ih6 _ _ _ _ _ _ | exact ih7 _ | exact ih8 _ _ _ _ _ _ _ _ | exact ih9 _ _ _ _ _ _ _ _ _ _ _ | exact ih10 _ _ _ _ | exact ih11 _ _ _ _ _ | exact impl_PlayMix.mono _ _ _ _ | exact impl_SortTexts.mono _ _ | exact impl_TagOf.mono _ _ | exact laws_sameTexts.mono _ _ _ | exact spec_DrawPlayMix.mono _ _ | exact spec_DrawSetSize.mono _ _ | exact spec_DrawSortTexts.mono _ _ | exact spec_PlayMix.mono _ _ _ _ | exact spec_SortTexts.mono _ _ | exact LeO.none _ | refine LeO.ite ?_ ?_ | refine LeO.bind ?_ (fun _ => ?_))
  ·intro y0 y1 y2 y3 y4 y5 y6 y7 y8 y9 y10
   unfold laws_FnMixes.l5
   repeat' (first | (with_reducible first | exact ih0 _ _ _ _ _ _ _ _ | exact ih1 _ _ _ _ _ _ _ _ _ | exact ih2 _ _ _ _ _ _ _ _ _ _ _ | exact ih3 _ _ _ _ _ _ _ _ _ _ _ _ _ _ | exact ih4 _ _ _ _ _ _ _ _ _ _ _ _ _ _ _ _ | exact ih5 _ _ _ _ _ _ _ _ _ _ _ _ _ _ _ _ _ _ | exact ih6 _ _ _ _ _ _ | exact ih7 _ | exact ih8 _ _ _ _ _ _ _ _ | exact ih9 _ _ _ _ _ _ _ _ _ _ _ | exact ih10 _ _ _ _ | exact ih11 _ _ _ _ _ | exact impl_PlayMix.mono _ _ _ _ | exact impl_SortTexts.mono _ _ | exact impl_TagOf.mono _ _ | exact laws_sameTexts.mono _ _ _ | exact spec_DrawPlayMix.mono _ _ | exact spec_DrawSetSize.mono _ _ | exact spec_DrawSortTexts.mono _ _ | exact spec_PlayMix.mono _ _ _ _ | exact spec_SortTexts.mono _ _ | exact LeO.refl _ | exact LeO.none _ | refine LeO.ite ?_ ?_ | refine LeO.bind ?_ (fun _ => ?_)) | exact ih0 _ _ _ _ _ _ _ _ | exact ih1 _ _ _ _ _ _ _ _ _ | exact ih2 _ _ _ _ _ _ _ _ _ _ _ | exact ih3 _ _ _ _ _ _ _ _ _ _ _ _ _ _ | exact ih4 _ _ _ _ _ _ _ _ _ _ _ _ _ _ _ _ | exact ih5 _ _ _ _ _ _ _ _ _ _ _ _ _ _ _ _ _ _ | exact ih6 _ _ _ _ _ _ | exact ih7 _ | exact ih8 _ _ _ _ _ _ _ _ | exact ih9 _ _ _ _ _ _ _ _ _ _ _ | exact ih10 _ _ _ _ | exact ih11 _ _ _ _ _ | exact impl_PlayMix.mono _ _ _ _ | exact impl_SortTexts.mono _ _ | exact impl_TagOf.mono _ _ | exact laws_sameTexts.mono _ _ _ | exact spec_DrawPlayMix.mono _ _ | exact spec_DrawSetSize.mono _ _ | exact spec_DrawSortTexts.mono _ _ | exact spec_PlayMix.mono _ _ _ _ | exact spec_SortTexts.mono _ _ | exact LeO.none _ | refine LeO.ite ?_ ?_ | refine LeO.bind ?_ (fun _ => ?_))
  ·intro y0 y1 y2 y3
   unfold laws_FnMixes.j9
   repeat' (first | (with_reducible first | exact ih0 _ _ _ _ _ _ _ _ | exact ih1 _ _ _ _ _ _ _ _ _ | exact ih2 _ _ _ _ _ _ _ _ _ _ _ | exact ih3 _ _ _ _ _ _ _ _ _ _ _ _ _ _ | exact ih4 _ _ _ _ _ _ _ _ _ _ _ _ _ _ _ _ | exact ih5 _ _ _ _ _ _ _ _ _ _ _ _ _ _ _ _ _ _ | exact ih6 _ _ _ _ _ _ | exact ih7 _ | exact ih8 _ _ _ _ _ _ _ _ | exact ih9 _ _ _ _ _ _ _ _ _ _ _ | exact ih10 _ _ _ _ | exact ih11 _ _ _ _ _ | exact impl_PlayMix.mono _ _ _ _ | exact impl_SortTexts.mono _ _ | exact impl_TagOf.mono _ _ | exact laws_sameTexts.mono _ _ _ | exact spec_DrawPlayMix.mono _ _ | exact spec_DrawSetSize.mono _ _ | exact spec_DrawSortTexts.mono _ _ | exact spec_PlayMix.mono _ _ _ _ | exact spec_SortTexts.mono _ _ | exact LeO.refl _ | exact LeO.none _ | refine LeO.ite ?_ ?_ | refine LeO.bind ?_ (fun _ => ?_)) | exact ih0 _ _ _ _ _ _ _ _ | exact ih1 _ _ _ _ _ _ _ _ _ | exact ih2 _ _ _ _ _ _ _ _ _ _ _ | exact ih3 _ _ _ _ _ _ _ _ _ _ _ _ _ _ | exact ih4 _ _ _ _ _ _ _ _ _ _ _ _ _ _ _ _ | exact ih5 _ _ _ _ _ _ _ _ _ _ _ _ _ _ _ _ _ _ | exact ih6 _ _ _ _ _ _ | exact ih7 _ | exact ih8 _ _ _ _ _ _ _ _ | exact ih9 _ _ _ _ _ _ _ _ _ _ _ | exact ih10 _ _ _ _ | exact ih11 _ _ _ _ _ | exact impl_PlayMix.mono _ _ _ _ | exact impl_SortTexts.mono _ _ | exact impl_TagOf.mono _ _ | exact laws_sameTexts.mono _ _ _ | exact spec_DrawPlayMix.mono _ _ | exact spec_DrawSetSize.mono _ _ | exact spec_DrawSortTexts.mono _ _ | exact spec_PlayMix.mono _ _ _ _ | exact spec_SortTexts.mono _ _ | exact LeO.none _ | refine LeO.ite ?_ ?_ | refine LeO.bind ?_ (fun _ => ?_))
  ·intro y0 y1 y2 y3 y4
   unfold laws_FnMixes.l6
   repeat' (first | (with_reducible first | exact ih0 _ _ _ _ _ _ _ _ | exact ih1 _ _ _ _ _ _ _ _ _ | exact ih2 _ _ _ _ _ _ _ _ _ _ _ | exact ih3 _ _ _ _ _ _ _ _ _ _ _ _ _ _ | exact ih4 _ _ _ _ _ _ _ _ _ _ _ _ _ _ _ _ | exact ih5 _ _ _ _ _ _ _ _ _ _ _ _ _ _ _ _ _ _ | exact ih6 _ _ _ _ _ _ | exact ih7 _ | exact ih8 _ _ _ _ _ _ _ _ | exact ih9 _ _ _ _ _ _ _ _ _ _ _ | exact ih10 _ _ _ _ | exact ih11 _ _ _ _ _ | exact impl_PlayMix.mono _ _ _ _ | exact impl_SortTexts.mono _ _ | exact impl_TagOf.mono _ _ | exact laws_sameTexts.mono _ _ _ | exact spec_DrawPlayMix.mono _ _ | exact spec_DrawSetSize.mono _ _ | exact spec_DrawSortTexts.mono _ _ | exact spec_PlayMix.mono _ _ _ _ | exact spec_SortTexts.mono _ _ | exact LeO.refl _ | exact LeO.none _ | refine LeO.ite ?_ ?_ | refine LeO.bind ?_ (fun _ => ?_)) | exact ih0 _ _ _ _ _ _ _ _ | exact ih1 _ _ _ _ _ _ _ _ _ | exact ih2 _ _ _ _ _ _ _ _ _ _ _ | exact ih3 _ _ _ _ _ _ _ _ _ _ _ _ _ _ | exact ih4 _ _ _ _ _ _ _ _ _ _ _ _ _ _ _ _ | exact ih5 _ _ _ _ _ _ _ _ _ _ _ _ _ _ _ _ _ _ | exact ih6 _ _ _ _ _ _ | exact ih7 _ | exact ih8 _ _ _ _ _ _ _ _ | exact ih9 _ _ _ _ _ _ _ _ _ _ _ | exact ih10 _ _ _ _ | exact ih11 _ _ _ _ _ | exact impl_PlayMix.mono _ _ _ _ | exact impl_SortTexts.mono _ _ | exact impl_TagOf.mono _ _ | exact laws_sameTexts.mono _ _ _ | exact spec_DrawPlayMix.mono _ _ | exact spec_DrawSetSize.mono _ _ | exact spec_DrawSortTexts.mono _ _ | exact spec_PlayMix.mono _ _ _ _ | exact spec_SortTexts.mono _ _ | exact LeO.none _ | refine LeO.ite ?_ ?_ | refine LeO.bind ?_ (fun _ => ?_))
theorem laws_FnMixes.mono : ∀ a0 a1 k, LeO (laws_FnMixes.f k a0 a1) (laws_FnMixes.f (k + 1) a0 a1) := by
 intro a0 a1 k
 obtain ⟨ih0, ih1, ih2, ih3, ih4, ih5, ih6, ih7, ih8, ih9, ih10, ih11⟩ := laws_FnMixes.mono_l k
 unfold laws_FnMixes.f
 repeat' (first | (with_reducible first | exact ih0 _ _ _ _ _ _ _ _ | exact ih1 _ _ _ _ _ _ _ _ _ | exact ih2 _ _ _ _ _ _ _ _ _ _ _ | exact ih3 _ _ _ _ _ _ _ _ _ _ _ _ _ _ | exact ih4 _ _ _ _ _ _ _ _ _ _ _ _ _ _ _ _ | exact ih5 _ _ _ _ _ _ _ _ _ _ _ _ _ _ _ _ _ _ | exact ih6 _ _ _ _ _ _ | exact ih7 _ | exact ih8 _ _ _ _ _ _ _ _ | exact ih9 _ _ _ _ _ _ _ _ _ _ _ | exact ih10 _ _ _ _ | exact ih11 _ _ _ _ _ | exact impl_PlayMix.mono _ _ _ _ | exact impl_SortTexts.mono _ _ | exact impl_TagOf.mono _ _ | exact laws_sameTexts.mono _ _ _ | exact spec_DrawPlayMix.mono _ _ | exact spec_DrawSetSize.mono _ _ | exact spec_DrawSortTexts.mono _ _ | exact spec_PlayMix.mono _ _ _ _ | exact spec_SortTexts.mono _ _ | exact LeO.refl _ | exact LeO.none _ | refine LeO.ite ?_ ?_ | refine LeO.bind ?_ (fun _ => ?_)) | exact ih0 _ _ _ _ _ _ _ _ | exact ih1 _ _ _ _ _ _ _ _ _ | exact ih2 _ _ _ _ _ _ _ _ _ _ _ | exact ih3 _ _ _ _ _ _ _ _ _ _ _ _ _ _ | exact ih4 _ _ _ _ _ _ _ _ _ _ _ _ _ _ _ _ | exact ih5 _ _ _ _ _ _ _ _ _ _ _ _ _ _ _ _ _ _ | exact ih6 _ _ _ _ _ _ | exact ih7 _ | exact ih8 _ _ _ _ _ _ _ _ | exact ih9 _ _ _ _ _ _ _ _ _ _ _ | exact ih10 _ _ _ _ | exact ih11 _ _ _ _ _ | exact impl_PlayMix.mono _ _ _ _ | exact impl_SortTexts.mono _ _ | exact impl_TagOf.mono _ _ | exact laws_sameTexts.mono _ _ _ | exact spec_DrawPlayMix.mono _ _ | exact spec_DrawSetSize.mono _ _ | exact spec_DrawSortTexts.mono _ _ | exact spec_PlayMix.mono _ _ _ _ | exact spec_SortTexts.mono _ _ | exact LeO.none _ | refine LeO.ite ?_ ?_ | refine LeO.bind ?_ (fun _ => ?_))
set_option maxHeartbeats 40000000 in
set_option maxRecDepth 100000 in
theorem laws_FnMixes.calls (k : Nat) (A0 : Option Addr) (c0 : Nat) (l0 : List Int) (A1 : Option Addr) (c1 : Nat) (l1 : List Int) (r : Bool) (w : World) (hr0 : Kd.C (Kd.int .u8) w A0 l0.length l0) (hc0 : l0.length ≤ c0) (hr1 : Kd.C (Kd.int .u8) w A1 l1.length l1) (hc1 : l1.length ≤ c1) (h : laws_FnMixes.f k l0 l1 = some r) (hr_ : r = true) :
  Calls Try.prog 12 #[.slice A0 l0.length c0, .slice A1 l1.length c1] w fun e w' => e = .returned (.bool r) ∧ Below w.heap.size w w' := by
 have HR0 := Aside0.mk hr0; have HC0 := Aside0.mk hc0; clear hr0 hc0; have HR1 := Aside0.mk hr1; have HC1 := Aside0.mk hc1; clear hr1 hc1
 have HB := Aside0.mk (Below.refl w.heap.size w)
 have H : (if (wrap64 ((l0.length : Int) + (l1.length : Int))) > 1048576 then (some true) else ((spec_DrawPlayMix.f k l0).bind fun bt528 => ((impl_PlayMix.f k bt528.1 bt528.2.1 bt528.2.2).bind fun bt533 => ((spec_PlayMix.f k bt528.1 bt528.2.1 bt528.2.2).bind fun bt537 => (if (bt533.2 != bt537.2) = true then (laws_FnMixes.j0 k l1 bt528.1 bt528.2.1 bt528.2.2 bt533.1 bt533.2 bt537.1 true) else (laws_FnMixes.j0 k l1 bt528.1 bt528.2.1 bt528.2.2 bt533.1 bt533.2 bt537.1 ((bt533.1.length : Int) != (bt537.1.length : Int)))))))) = some r := h
 clear h
 by_cases c3 : (wrap64 ((l0.length : Int) + (l1.length : Int))) > 1048576
 ·rw [if_pos c3] at H
  have c3b0 : decide (1048576 < (wrap64 ((l0.length : Int) + (l1.length : Int)))) = true := decide_eq_true c3
  clear c3
  obtain rfl := Option.some.inj H
  go_enter Try.func12, Try.ntmps12
  go_wp2
  repeat (go_quiet (fail); try go_wp2)
  go_ret
  exact ⟨er2, belowd HB⟩
 ·rw [if_neg c3] at H
  have c3b0 : decide (1048576 < (wrap64 ((l0.length : Int) + (l1.length : Int)))) = false := decide_eq_false c3
  clear c3; replace H := bS H; obtain ⟨⟨t528, t529, t530⟩, A4, H⟩ := H
  replace H : ((impl_PlayMix.f k t528 t529 t530).bind fun bt533 => ((spec_PlayMix.f k t528 t529 t530).bind fun bt537 => (if (bt533.2 != bt537.2) = true then (laws_FnMixes.j0 k l1 t528 t529 t530 bt533.1 bt533.2 bt537.1 true) else (laws_FnMixes.j0 k l1 t528 t529 t530 bt533.1 bt533.2 bt537.1 ((bt533.1.length : Int) != (bt537.1.length : Int)))))) = some r := H
  replace H := bS H; obtain ⟨⟨t533, t534⟩, A5, H⟩ := H
  replace H : ((spec_PlayMix.f k t528 t529 t530).bind fun bt537 => (if (t534 != bt537.2) = true then (laws_FnMixes.j0 k l1 t528 t529 t530 t533 t534 bt537.1 true) else (laws_FnMixes.j0 k l1 t528 t529 t530 t533 t534 bt537.1 ((t533.length : Int) != (bt537.1.length : Int))))) = some r := H
  replace H := bS H; obtain ⟨⟨t537, t538⟩, A6, H⟩ := H
  replace H : (if (t534 != t538) = true then (laws_FnMixes.j0 k l1 t528 t529 t530 t533 t534 t537 true) else (laws_FnMixes.j0 k l1 t528 t529 t530 t533 t534 t537 ((t533.length : Int) != (t537.length : Int)))) = some r := H
  have HC7 := Aside0.mk H; clear H
  go_enter Try.func12, Try.ntmps12
  go_upto_region 6 with (first | (go_at_call 83; (with_reducible refine (spec_DrawPlayMix.calls k _ _ l0 t528 t529 t530 _ ?side1 ?side2 A4.out).mono ?_); (case side1 => exact cd HR0.out); (case side2 => exact HC0.out); rintro e w8 ⟨v531, rfl, ho0, hb⟩; have HO532 := ak (Kd.S_lower ho0 (below_size (belowd HB))); replace HB := ak (below_step (belowd HB) hb); (try clear hb); (try clear ho0); obtain ⟨Ao9, co9, eo9⟩ := Kd.S_slice HO532.out; subst eo9) | (go_at_call 23; (with_reducible refine (impl_PlayMix.calls k t528 t529 _ _ t530 t533 t534 _ ?side1 ?side2 A5.out).mono ?_); (case side1 => exact cd (Kd.S_reads' HO532.out).2.2); (case side2 => exact (Kd.S_reads' HO532.out).2.1); rintro e w10 ⟨v535, rfl, ho0, hb⟩; obtain ⟨N11, eN11⟩ := below_num hb; have HO536 := ak (Kd.S_lower (Kd.S_new' (S_geN eN11 ho0) (Kd.S_lt (sd HO532))) (below_size (belowd HB))); replace HO532 := ak (Kd.S_elder' (S_ltN eN11 (sd HO532)) (Kd.S_base ho0) hb); replace HB := ak (below_step (belowd HB) hb); (try clear hb); (try clear ho0)) | (go_at_call 21; (with_reducible refine (spec_PlayMix.calls k t528 t529 _ _ t530 t537 t538 _ ?side1 ?side2 A6.out).mono ?_); (case side1 => exact cd (Kd.S_reads' HO532.out).2.2); (case side2 => exact (Kd.S_reads' HO532.out).2.1); rintro e w12 ⟨v539, rfl, ho0, hb⟩; obtain ⟨N13, eN13⟩ := below_num hb; have HO540 := ak (Kd.S_lower (Kd.S_new' (Kd.S_new' (S_geN eN13 ho0) (Kd.S_lt (sd HO532))) (Kd.S_lt (sd HO536))) (below_size (belowd HB))); replace HO532 := ak (Kd.S_elder' (S_ltN eN13 (sd HO532)) (Kd.S_base ho0) hb); replace HO536 := ak (Kd.S_elder' (S_ltN eN13 (sd HO536)) (Kd.S_base ho0) hb); replace HB := ak (below_step (belowd HB) hb); (try clear hb); (try clear ho0)))
  repeat (go_quiet (first | (go_at_call 83; (with_reducible refine (spec_DrawPlayMix.calls k _ _ l0 t528 t529 t530 _ ?side1 ?side2 A4.out).mono ?_); (case side1 => exact cd HR0.out); (case side2 => exact HC0.out); rintro e w8 ⟨v531, rfl, ho0, hb⟩; have HO532 := ak (Kd.S_lower ho0 (below_size (belowd HB))); replace HB := ak (below_step (belowd HB) hb); (try clear hb); (try clear ho0); obtain ⟨Ao9, co9, eo9⟩ := Kd.S_slice HO532.out; subst eo9) | (go_at_call 23; (with_reducible refine (impl_PlayMix.calls k t528 t529 _ _ t530 t533 t534 _ ?side1 ?side2 A5.out).mono ?_); (case side1 => exact cd (Kd.S_reads' HO532.out).2.2); (case side2 => exact (Kd.S_reads' HO532.out).2.1); rintro e w10 ⟨v535, rfl, ho0, hb⟩; obtain ⟨N11, eN11⟩ := below_num hb; have HO536 := ak (Kd.S_lower (Kd.S_new' (S_geN eN11 ho0) (Kd.S_lt (sd HO532))) (below_size (belowd HB))); replace HO532 := ak (Kd.S_elder' (S_ltN eN11 (sd HO532)) (Kd.S_base ho0) hb); replace HB := ak (below_step (belowd HB) hb); (try clear hb); (try clear ho0)) | (go_at_call 21; (with_reducible refine (spec_PlayMix.calls k t528 t529 _ _ t530 t537 t538 _ ?side1 ?side2 A6.out).mono ?_); (case side1 => exact cd (Kd.S_reads' HO532.out).2.2); (case side2 => exact (Kd.S_reads' HO532.out).2.1); rintro e w12 ⟨v539, rfl, ho0, hb⟩; obtain ⟨N13, eN13⟩ := below_num hb; have HO540 := ak (Kd.S_lower (Kd.S_new' (Kd.S_new' (S_geN eN13 ho0) (Kd.S_lt (sd HO532))) (Kd.S_lt (sd HO536))) (below_size (belowd HB))); replace HO532 := ak (Kd.S_elder' (S_ltN eN13 (sd HO532)) (Kd.S_base ho0) hb); replace HO536 := ak (Kd.S_elder' (S_ltN eN13 (sd HO536)) (Kd.S_base ho0) hb); replace HB := ak (below_step (belowd HB) hb); (try clear hb); (try clear ho0))); go_upto_region 6 with (first | (go_at_call 83; (with_reducible refine (spec_DrawPlayMix.calls k _ _ l0 t528 t529 t530 _ ?side1 ?side2 A4.out).mono ?_); (case side1 => exact cd HR0.out); (case side2 => exact HC0.out); rintro e w8 ⟨v531, rfl, ho0, hb⟩; have HO532 := ak (Kd.S_lower ho0 (below_size (belowd HB))); replace HB := ak (below_step (belowd HB) hb); (try clear hb); (try clear ho0); obtain ⟨Ao9, co9, eo9⟩ := Kd.S_slice HO532.out; subst eo9) | (go_at_call 23; (with_reducible refine (impl_PlayMix.calls k t528 t529 _ _ t530 t533 t534 _ ?side1 ?side2 A5.out).mono ?_); (case side1 => exact cd (Kd.S_reads' HO532.out).2.2); (case side2 => exact (Kd.S_reads' HO532.out).2.1); rintro e w10 ⟨v535, rfl, ho0, hb⟩; obtain ⟨N11, eN11⟩ := below_num hb; have HO536 := ak (Kd.S_lower (Kd.S_new' (S_geN eN11 ho0) (Kd.S_lt (sd HO532))) (below_size (belowd HB))); replace HO532 := ak (Kd.S_elder' (S_ltN eN11 (sd HO532)) (Kd.S_base ho0) hb); replace HB := ak (below_step (belowd HB) hb); (try clear hb); (try clear ho0)) | (go_at_call 21; (with_reducible refine (spec_PlayMix.calls k t528 t529 _ _ t530 t537 t538 _ ?side1 ?side2 A6.out).mono ?_); (case side1 => exact cd (Kd.S_reads' HO532.out).2.2); (case side2 => exact (Kd.S_reads' HO532.out).2.1); rintro e w12 ⟨v539, rfl, ho0, hb⟩; obtain ⟨N13, eN13⟩ := below_num hb; have HO540 := ak (Kd.S_lower (Kd.S_new' (Kd.S_new' (S_geN eN13 ho0) (Kd.S_lt (sd HO532))) (Kd.S_lt (sd HO536))) (below_size (belowd HB))); replace HO532 := ak (Kd.S_elder' (S_ltN eN13 (sd HO532)) (Kd.S_base ho0) hb); replace HO536 := ak (Kd.S_elder' (S_ltN eN13 (sd HO536)) (Kd.S_base ho0) hb); replace HB := ak (below_step (belowd HB) hb); (try clear hb); (try clear ho0))))
  (try simp only [Act.put, List.setIfInBounds_toArray, List.set_cons_zero, List.set_cons_succ])
  go_cut [78] (fun v78 wc => ∃ (kq : Nat) (x78_6 : Bool), v78 = .bool x78_6 ∧ Aside0 (laws_FnMixes.j0 kq l1 t528 t529 t530 t533 t534 t537 x78_6 = some r) ∧ Aside0 (kq ≤ k) ∧ Aside0 (Kd.S (Kd.slice 9 Kd.string) 22 wc w.heap.size (fun k_ => some k_ ≠ (v535 : Value).ownBlock ∧ some k_ ≠ (v539 : Value).ownBlock ∧ k_ < N11 ∧ k_ < N13) (.slice Ao9 t530.length co9) t530) ∧ Aside0 (Kd.S (Kd.slice 9 Kd.string) 22 wc w.heap.size (fun k_ => some k_ ≠ ((.slice Ao9 t530.length co9) : Value).ownBlock ∧ some k_ ≠ (v539 : Value).ownBlock ∧ N11 ≤ k_ ∧ k_ < N13) v535 t533) ∧ Aside0 (Kd.S (Kd.slice 9 Kd.string) 22 wc w.heap.size (fun k_ => some k_ ≠ ((.slice Ao9 t530.length co9) : Value).ownBlock ∧ some k_ ≠ (v535 : Value).ownBlock ∧ N13 ≤ k_) v539 t537) ∧ Aside0 (Below w.heap.size w wc))
  case first =>
   have H := HC7.out; clear HC7
   by_cases c14 : (t534 != t538) = true
   ·rw [if_pos c14] at H
    have c14b0 : (t534 != t538) = true := c14
    (try (have c14b1 : decide (t534 = t538) = false := by simpa using c14))
    (try (have c14b2 : (t534 == t538) = false := by simpa using c14))
    (try (have c14b3 : ¬ (t534 = t538) := by simpa using c14))
    clear c14
    (first | rw [c14b0] | (simp only [i64_w, i32_w]; rw [c14b0]) | skip)
    have H' := Aside0.mk H
    clear H; go_wp2
    repeat (go_quiet (fail); try go_wp2)
    go_meet
    case rel => exact ⟨_, (true), er, H', ⟨by first | omega | exact Nat.le_refl _⟩, ⟨by (with_reducible repeat (first | apply Kd.S_alloc | apply Kd.S_drewN | apply Kd.S_drew)); exact Kd.S_mono HO532.out (fun _ hk => ⟨hk.1.1.2, ⟨hk.2, ⟨hk.1.1.1.2, hk.1.2⟩⟩⟩)⟩, ⟨by (with_reducible repeat (first | apply Kd.S_alloc | apply Kd.S_drewN | apply Kd.S_drew)); exact Kd.S_mono HO536.out (fun _ hk => ⟨hk.1.1.2, ⟨hk.2, ⟨hk.1.1.1.2, hk.1.2⟩⟩⟩)⟩, ⟨by (with_reducible repeat (first | apply Kd.S_alloc | apply Kd.S_drewN | apply Kd.S_drew)); exact Kd.S_mono HO540.out (fun _ hk => ⟨hk.1.2, ⟨hk.2, hk.1.1.2⟩⟩)⟩, ⟨belowd HB⟩⟩
   ·rw [if_neg c14] at H
    have c14b0 : (t534 != t538) = false := by simpa using c14
    (try (have c14b1 : decide (t534 = t538) = true := by simpa using c14))
    (try (have c14b2 : (t534 == t538) = true := by simpa using c14))
    clear c14
    (first | rw [c14b0] | (simp only [i64_w, i32_w]; rw [c14b0]) | skip)
    have H' := Aside0.mk H
    clear H
    obtain ⟨Ao15, co15, eo15⟩ := Kd.S_slice HO536.out
    subst eo15
    obtain ⟨Ao16, co16, eo16⟩ := Kd.S_slice HO540.out
    subst eo16; go_wp2
    repeat (go_quiet (fail); try go_wp2)
    go_meet
    case rel => exact ⟨_, (((t533.length : Int) != (t537.length : Int))), er, H', ⟨by first | omega | exact Nat.le_refl _⟩, ⟨by (with_reducible repeat (first | apply Kd.S_alloc | apply Kd.S_drewN | apply Kd.S_drew)); exact Kd.S_mono HO532.out (fun _ hk => ⟨hk.1.1.2, ⟨hk.2, ⟨hk.1.1.1.2, hk.1.2⟩⟩⟩)⟩, ⟨by (with_reducible repeat (first | apply Kd.S_alloc | apply Kd.S_drewN | apply Kd.S_drew)); exact Kd.S_mono HO536.out (fun _ hk => ⟨hk.1.1.2, ⟨hk.2, ⟨hk.1.1.1.2, hk.1.2⟩⟩⟩)⟩, ⟨by (with_reducible repeat (first | apply Kd.S_alloc | apply Kd.S_drewN | apply Kd.S_drew)); exact Kd.S_mono HO540.out (fun _ hk => ⟨hk.1.2, ⟨hk.2, hk.1.1.2⟩⟩)⟩, ⟨belowd HB⟩⟩
  case rest =>
   clear HC7; (try clear c1); (try clear c3b0)
   obtain ⟨kq, x78_6, rfl, HA, HJ6, HO_7, HO_8, HO_10, HB⟩ := hcut
   cases kq with
   | zero => exact absurd HA.out (by simp [laws_FnMixes.j0])
   | succ kj6 =>
    have H := HA.out; clear HA
    simp only [laws_FnMixes.j0] at H
    by_cases c17 : x78_6 = true
    ·subst c17
     have H1 : (some false) = some r := by rw [if_pos rfl] at H; exact H
     clear H
     have H := H1
     clear H1
     exact absurd (H.trans (congrArg some hr_)) (by simp)
    ·replace c17 := Bool.eq_false_iff.mpr c17
     subst c17
     have H1 : (laws_FnMixes.l0 kj6 l1 t528 t529 t530 t533 t534 t537 (t533.length : Int) 0) = some r := by rw [if_neg (show ¬ (false = true) by decide)] at H; exact H
     clear H
     have H := H1
     clear H1
     have H' := Aside0.mk H
     clear H
     obtain ⟨Ao18, co18, eo18⟩ := Kd.S_slice HO_8.out
     subst eo18; go_wp2
     repeat (go_quiet (fail); try go_wp2)
     go_loopg [81] kj6 (fun kq v81 w' => ∃ (x81_2 : Int), v81 = .int .i64 x81_2 ∧ Aside0 (laws_FnMixes.l0 kq l1 t528 t529 t530 t533 t534 t537 (t533.length : Int) x81_2 = some r) ∧ Aside0 (kq ≤ kj6) ∧ Aside0 (Kd.S (Kd.slice 9 Kd.string) 22 w' w.heap.size (fun k_ => some k_ ≠ ((.slice Ao18 t533.length co18) : Value).ownBlock ∧ some k_ ≠ (v539 : Value).ownBlock ∧ k_ < N11 ∧ k_ < N13) (.slice Ao9 t530.length co9) t530) ∧ Aside0 (Kd.S (Kd.slice 9 Kd.string) 22 w' w.heap.size (fun k_ => some k_ ≠ ((.slice Ao9 t530.length co9) : Value).ownBlock ∧ some k_ ≠ (v539 : Value).ownBlock ∧ N11 ≤ k_ ∧ k_ < N13) (.slice Ao18 t533.length co18) t533) ∧ Aside0 (Kd.S (Kd.slice 9 Kd.string) 22 w' w.heap.size (fun k_ => some k_ ≠ ((.slice Ao9 t530.length co9) : Value).ownBlock ∧ some k_ ≠ ((.slice Ao18 t533.length co18) : Value).ownBlock ∧ N13 ≤ k_) v539 t537) ∧ Aside0 (Below w.heap.size w w'))
     case atStart => exact ⟨(0), er, H', ⟨Nat.le_refl _⟩, ⟨sd HO_7⟩, ⟨sd HO_8⟩, ⟨sd HO_10⟩, ⟨belowd HB⟩⟩
     case round =>
      clear H'
      (try clear c17)
      obtain ⟨x81_2, rfl, HA, HK2, HO_7, HO_8, HO_10, HB⟩ := hrel
      cases gk with
      | zero => exact absurd HA.out (by simp [laws_FnMixes.l0])
      | succ k2 =>
       have H := HA.out; clear HA
       simp only [laws_FnMixes.l0] at H
       by_cases c19 : x81_2 < (t533.length : Int)
       ·rw [if_pos c19] at H
        have c19b0 : decide (x81_2 < (t533.length : Int)) = true := decide_eq_true c19
        clear c19; replace H := ifS H; obtain ⟨c20, H⟩ := H; have c20b0 := decide_eq_true c20; clear c20; replace H := ifS H; obtain ⟨c21, H⟩ := H; have c21b0 := decide_eq_true c21; clear c21; replace H := ifS H; obtain ⟨c22, H⟩ := H; have c22b0 := decide_eq_true c22; clear c22; replace H := bS H; obtain ⟨t543, A23, H⟩ := H
        replace H : (if t543 = true then (laws_FnMixes.l0 k2 l1 t528 t529 t530 t533 t534 t537 (t533.length : Int) (wrap64 (x81_2 + 1))) else (some false)) = some r := H
        by_cases c24 : t543 = true
        ·subst c24
         have H1 : (laws_FnMixes.l0 k2 l1 t528 t529 t530 t533 t534 t537 (t533.length : Int) (wrap64 (x81_2 + 1))) = some r := by rw [if_pos rfl] at H; exact H
         clear H
         have H := H1
         clear H1
         have H' := Aside0.mk H
         clear H
         have p541 : 0 ≤ (x81_2 : Int) := da
         have q541 : x81_2 < (t533.length : Int) := da
         obtain ⟨ad541, A541_0, c541_0, e541, hx541_0, hl541_0, hi541_0⟩ := at_L2 (Kd.S_reads' HO_8.out).2.2 x81_2 p541 q541
         cases e541
         obtain ⟨ce541, hce541, hMe541, hcc541⟩ := Kd.S_get HO_8.out [] x81_2 p541 (by first | exact q541 | exact da | (have e_ := (Kd.S_reads' HO_8.out).1; omega))
         obtain ⟨ve541_0, rfl, ge541_0⟩ := hMe541
         have hv541_0 := hcc541 0 _ rfl
         rw [Nat.add_zero, show ((Kd.slice 9 Kd.string)).sz = 1 from rfl, Nat.mul_one] at hv541_0
         replace hv541_0 := Option.some.inj (hv541_0.symm.trans hx541_0)
         rw [hv541_0] at ge541_0
         have HL541_0 := Aside0.mk (show Kd.R Kd.string 9 _ _ _ _ (rd_L2 t533 x81_2) from ge541_0)
         clear hv541_0 ge541_0; clear hcc541 hce541; have HR541_0 := Aside0.mk hi541_0; have HC541_0 := Aside0.mk hl541_0; clear hi541_0 hl541_0; replace p541 := eq_true p541; replace q541 := eq_true q541
         obtain ⟨Ao25, co25, eo25⟩ := Kd.S_slice HO_10.out
         subst eo25
         have p542 : 0 ≤ (x81_2 : Int) := da
         have q542 : x81_2 < (t537.length : Int) := da
         obtain ⟨ad542, A542_0, c542_0, e542, hx542_0, hl542_0, hi542_0⟩ := at_L2 (Kd.S_reads' HO_10.out).2.2 x81_2 p542 q542
         cases e542
         obtain ⟨ce542, hce542, hMe542, hcc542⟩ := Kd.S_get HO_10.out [] x81_2 p542 (by first | exact q542 | exact da | (have e_ := (Kd.S_reads' HO_10.out).1; omega))
         obtain ⟨ve542_0, rfl, ge542_0⟩ := hMe542
         have hv542_0 := hcc542 0 _ rfl
         rw [Nat.add_zero, show ((Kd.slice 9 Kd.string)).sz = 1 from rfl, Nat.mul_one] at hv542_0
         replace hv542_0 := Option.some.inj (hv542_0.symm.trans hx542_0)
         rw [hv542_0] at ge542_0
         have HL542_0 := Aside0.mk (show Kd.R Kd.string 9 _ _ _ _ (rd_L2 t537 x81_2) from ge542_0)
         clear hv542_0 ge542_0; clear hcc542 hce542; have HR542_0 := Aside0.mk hi542_0; have HC542_0 := Aside0.mk hl542_0; clear hi542_0 hl542_0; replace p542 := eq_true p542; replace q542 := eq_true q542
         go_wp2_with (first | (go_at_call 84; (with_reducible refine (laws_sameTexts.calls k2 _ _ (rd_L2 t533 x81_2) _ _ (rd_L2 t537 x81_2) true _ ?side1 ?side2 ?side3 ?side4 A23.out).mono ?_); (case side1 => exact cd (by repeat (first | (with_reducible exact HR541_0.out) | (with_reducible refine Kd.C_alloc ?_ _) | (with_reducible refine Kd.C_drewN ?_ _) | (with_reducible refine Kd.C_drew ?_) | exact HR541_0.out))); (case side2 => exact HC541_0.out); (case side3 => exact cd (by repeat (first | (with_reducible exact HR542_0.out) | (with_reducible refine Kd.C_alloc ?_ _) | (with_reducible refine Kd.C_drewN ?_ _) | (with_reducible refine Kd.C_drew ?_) | exact HR542_0.out))); (case side4 => exact HC542_0.out); rintro e w' ⟨rfl, ⟨nd, rfl⟩⟩; (try first | exact ⟨rfl, _, World.drewN_drewN _ _ _⟩ | exact ⟨rfl, _, Eq.trans (World.drewN_drewN _ _ _) (congrArg (World.drewN _) (Nat.add_assoc _ _ _))⟩)))
         repeat (go_quiet (first | (go_at_call 84; (with_reducible refine (laws_sameTexts.calls k2 _ _ (rd_L2 t533 x81_2) _ _ (rd_L2 t537 x81_2) true _ ?side1 ?side2 ?side3 ?side4 A23.out).mono ?_); (case side1 => exact cd (by repeat (first | (with_reducible exact HR541_0.out) | (with_reducible refine Kd.C_alloc ?_ _) | (with_reducible refine Kd.C_drewN ?_ _) | (with_reducible refine Kd.C_drew ?_) | exact HR541_0.out))); (case side2 => exact HC541_0.out); (case side3 => exact cd (by repeat (first | (with_reducible exact HR542_0.out) | (with_reducible refine Kd.C_alloc ?_ _) | (with_reducible refine Kd.C_drewN ?_ _) | (with_reducible refine Kd.C_drew ?_) | exact HR542_0.out))); (case side4 => exact HC542_0.out); rintro e w' ⟨rfl, ⟨nd, rfl⟩⟩; (try first | exact ⟨rfl, _, World.drewN_drewN _ _ _⟩ | exact ⟨rfl, _, Eq.trans (World.drewN_drewN _ _ _) (congrArg (World.drewN _) (Nat.add_assoc _ _ _))⟩))); try go_wp2_with (first | (go_at_call 84; (with_reducible refine (laws_sameTexts.calls k2 _ _ (rd_L2 t533 x81_2) _ _ (rd_L2 t537 x81_2) true _ ?side1 ?side2 ?side3 ?side4 A23.out).mono ?_); (case side1 => exact cd (by repeat (first | (with_reducible exact HR541_0.out) | (with_reducible refine Kd.C_alloc ?_ _) | (with_reducible refine Kd.C_drewN ?_ _) | (with_reducible refine Kd.C_drew ?_) | exact HR541_0.out))); (case side2 => exact HC541_0.out); (case side3 => exact cd (by repeat (first | (with_reducible exact HR542_0.out) | (with_reducible refine Kd.C_alloc ?_ _) | (with_reducible refine Kd.C_drewN ?_ _) | (with_reducible refine Kd.C_drew ?_) | exact HR542_0.out))); (case side4 => exact HC542_0.out); rintro e w' ⟨rfl, ⟨nd, rfl⟩⟩; (try first | exact ⟨rfl, _, World.drewN_drewN _ _ _⟩ | exact ⟨rfl, _, Eq.trans (World.drewN_drewN _ _ _) (congrArg (World.drewN _) (Nat.add_assoc _ _ _))⟩))))
         go_roundg k2
         case measure => have := HJ6.out; have := HK2.out; omega
         case rel => exact ⟨(wrap64 (x81_2 + 1)), er, H', ⟨by have := HJ6.out; have := HK2.out; omega⟩, ⟨sd HO_7⟩, ⟨sd HO_8⟩, ⟨sd HO_10⟩, ⟨belowd HB⟩⟩
        ·replace c24 := Bool.eq_false_iff.mpr c24
         subst c24
         have H1 : (some false) = some r := by rw [if_neg (show ¬ (false = true) by decide)] at H; exact H
         clear H
         have H := H1
         clear H1
         exact absurd (H.trans (congrArg some hr_)) (by simp)
       ·rw [if_neg c19] at H
        have c19b0 : decide (x81_2 < (t533.length : Int)) = false := decide_eq_false c19
        clear c19
        have H' := Aside0.mk H
        clear H; go_wp2
        repeat (go_quiet (fail); try go_wp2)
        go_loopg [13, 14, 15, 97] k2 (fun kq v13 v14 v15 v97 w' => ∃ (x13_3 : Bool) (x14_3 : List Int) (x15_3 : List ByteArray) (x97_3 : Int), v13 = .bool x13_3 ∧ v97 = .int .i64 x97_3 ∧ Aside0 (laws_FnMixes.l1 kq l1 t528 t529 t530 t533 t534 x13_3 x14_3 x15_3 (t530.length : Int) x97_3 = some r) ∧ Aside0 (kq ≤ k2) ∧ Aside0 (Kd.S (Kd.slice 9 Kd.string) 22 w' w.heap.size (fun k_ => some k_ ≠ ((.slice Ao18 t533.length co18) : Value).ownBlock ∧ some k_ ≠ (v15 : Value).ownBlock ∧ k_ < N11 ∧ k_ < N13) (.slice Ao9 t530.length co9) t530) ∧ Aside0 (Kd.S (Kd.slice 9 Kd.string) 22 w' w.heap.size (fun k_ => some k_ ≠ ((.slice Ao9 t530.length co9) : Value).ownBlock ∧ some k_ ≠ (v15 : Value).ownBlock ∧ N11 ≤ k_ ∧ k_ < N13) (.slice Ao18 t533.length co18) t533) ∧ Aside0 (Kd.R (Kd.int .i64) 3 w' w.heap.size (fun _ => True) v14 x14_3) ∧ Aside0 (Kd.R Kd.string 9 w' w.heap.size (fun _ => True) v15 x15_3) ∧ Aside0 (Below w.heap.size w w'))
        case atStart => exact ⟨(true), (([] : List Int)), (([] : List ByteArray)), (0), er, er, H', ⟨Nat.le_refl _⟩, ⟨by (with_reducible repeat (first | apply Kd.S_alloc | apply Kd.S_drewN | apply Kd.S_drew)); exact Kd.S_mono HO_7.out (fun _ hk => ⟨hk.1, ⟨(by simp [Value.ownBlock]), ⟨hk.2.2.1, hk.2.2.2⟩⟩⟩)⟩, ⟨by (with_reducible repeat (first | apply Kd.S_alloc | apply Kd.S_drewN | apply Kd.S_drew)); exact Kd.S_mono HO_8.out (fun _ hk => ⟨hk.1, ⟨(by simp [Value.ownBlock]), ⟨hk.2.2.1, hk.2.2.2⟩⟩⟩)⟩, ⟨by first | exact Kd.R_nil _ _ _ _ _ | exact Kd.N_nil _ _ _ _ _ | exact Kd.V_nil _ _ _ _ _ | exact Kd.Q_nil _ _ _ _ _ | exact Kd.S_nil _ _ _ _ _⟩, ⟨by first | exact Kd.R_nil _ _ _ _ _ | exact Kd.N_nil _ _ _ _ _ | exact Kd.V_nil _ _ _ _ _ | exact Kd.Q_nil _ _ _ _ _ | exact Kd.S_nil _ _ _ _ _⟩, ⟨belowd HB⟩⟩
        case round =>
         clear H'
         (try clear c19b0)
         obtain ⟨x13_3, x14_3, x15_3, x97_3, rfl, rfl, HA, HK3, HO_7, HO_8, HO_14, HO_15, HB⟩ := hrel
         cases gk with
         | zero => exact absurd HA.out (by simp [laws_FnMixes.l1])
         | succ k3 =>
          have H := HA.out; clear HA
          simp only [laws_FnMixes.l1] at H
          by_cases c26 : x97_3 < (t530.length : Int)
          ·rw [if_pos c26] at H
           have c26b0 : decide (x97_3 < (t530.length : Int)) = true := decide_eq_true c26
           clear c26; replace H := ifS H; obtain ⟨c27, H⟩ := H; have c27b0 := decide_eq_true c27; clear c27; replace H := ifS H; obtain ⟨c28, H⟩ := H; have c28b0 := decide_eq_true c28; clear c28
           have H' := Aside0.mk H
           clear H
           have p544 : 0 ≤ (x97_3 : Int) := da
           have q544 : x97_3 < (t530.length : Int) := da
           obtain ⟨ad544, A544_0, c544_0, e544, hx544_0, hl544_0, hi544_0⟩ := at_L2 (Kd.S_reads' HO_7.out).2.2 x97_3 p544 q544
           cases e544
           obtain ⟨ce544, hce544, hMe544, hcc544⟩ := Kd.S_get HO_7.out [] x97_3 p544 (by first | exact q544 | exact da | (have e_ := (Kd.S_reads' HO_7.out).1; omega))
           obtain ⟨ve544_0, rfl, ge544_0⟩ := hMe544
           have hv544_0 := hcc544 0 _ rfl
           rw [Nat.add_zero, show ((Kd.slice 9 Kd.string)).sz = 1 from rfl, Nat.mul_one] at hv544_0
           replace hv544_0 := Option.some.inj (hv544_0.symm.trans hx544_0)
           rw [hv544_0] at ge544_0
           have HL544_0 := Aside0.mk (show Kd.R Kd.string 9 _ _ _ _ (rd_L2 t530 x97_3) from ge544_0)
           clear hv544_0 ge544_0; clear hcc544 hce544; have HR544_0 := Aside0.mk hi544_0; have HC544_0 := Aside0.mk hl544_0; clear hi544_0 hl544_0; replace p544 := eq_true p544; replace q544 := eq_true q544; go_wp2
           repeat (go_quiet (fail); try go_wp2)
           go_loopg [13, 14, 15, 103] k3 (fun kq v13 v14 v15 v103 w' => ∃ (x13_4 : Bool) (x14_4 : List Int) (x15_4 : List ByteArray) (x103_4 : Int), v13 = .bool x13_4 ∧ v103 = .int .i64 x103_4 ∧ Aside0 (laws_FnMixes.l2 kq l1 t528 t529 t530 t533 t534 x13_4 x14_4 x15_4 (t530.length : Int) x97_3 (rd_L2 t530 x97_3) ((rd_L2 t530 x97_3).length : Int) x103_4 = some r) ∧ Aside0 (kq ≤ k3) ∧ Aside0 (Kd.S (Kd.slice 9 Kd.string) 22 w' w.heap.size (fun k_ => some k_ ≠ ((.slice Ao18 t533.length co18) : Value).ownBlock ∧ some k_ ≠ (v15 : Value).ownBlock ∧ k_ < N11 ∧ k_ < N13) (.slice (some ad544) t530.length co9) t530) ∧ Aside0 (Kd.S (Kd.slice 9 Kd.string) 22 w' w.heap.size (fun k_ => some k_ ≠ ((.slice (some ad544) t530.length co9) : Value).ownBlock ∧ some k_ ≠ (v15 : Value).ownBlock ∧ N11 ≤ k_ ∧ k_ < N13) (.slice Ao18 t533.length co18) t533) ∧ Aside0 (Kd.R (Kd.int .i64) 3 w' w.heap.size (fun _ => True) v14 x14_4) ∧ Aside0 (Kd.R Kd.string 9 w' w.heap.size (fun _ => True) v15 x15_4) ∧ Aside0 (Kd.R Kd.string 9 w' w.heap.size (fun k_ => some k_ ≠ (v15 : Value).ownBlock) (.slice A544_0 (rd_L2 t530 x97_3).length c544_0) (rd_L2 t530 x97_3)) ∧ Aside0 (Below w.heap.size w w'))
           case atStart => exact ⟨(x13_3), (x14_3), (x15_3), (0), er, er, H', ⟨Nat.le_refl _⟩, ⟨sd HO_7⟩, ⟨sd HO_8⟩, ⟨rdl HO_14⟩, ⟨rdl HO_15⟩, ⟨by (with_reducible repeat (first | apply Kd.R_alloc | apply Kd.R_drewN | apply Kd.R_drew)); exact Kd.R_mono HL544_0.out (fun _ hk => hk.1.2.1)⟩, ⟨belowd HB⟩⟩
           case round => as_aux_lemma =>
            clear H'
            (try clear c26b0); (try clear c27b0); (try clear c28b0); (try clear hx544_0); (try clear p544); (try clear q544)
            obtain ⟨x13_4, x14_4, x15_4, x103_4, rfl, rfl, HA, HK4, HO_7, HO_8, HO_14, HO_15, HO_101, HB⟩ := hrel
            cases gk with
            | zero => exact absurd HA.out (by simp [laws_FnMixes.l2])
            | succ k4 =>
             have H := HA.out; clear HA
             simp only [laws_FnMixes.l2] at H
             by_cases c29 : x103_4 < ((rd_L2 t530 x97_3).length : Int)
             ·rw [if_pos c29] at H
              have c29b0 : decide (x103_4 < ((rd_L2 t530 x97_3).length : Int)) = true := decide_eq_true c29
              clear c29; replace H := ifS H; obtain ⟨c30, H⟩ := H; have c30b0 := decide_eq_true c30; clear c30; replace H := ifS H; obtain ⟨c31, H⟩ := H; have c31b0 := decide_eq_true c31; clear c31; replace H := bS H; obtain ⟨⟨t546, t547⟩, A32, H⟩ := H
              replace H : (if t547 = true then (laws_FnMixes.j4 k4 l1 t528 t529 t530 t533 t534 x13_4 x14_4 x15_4 (rdOf ByteArray.empty (rd_L2 t530 x97_3) x103_4) t546 (t530.length : Int) x97_3 (rd_L2 t530 x97_3) ((rd_L2 t530 x97_3).length : Int) x103_4) else (laws_FnMixes.j4 k4 l1 t528 t529 t530 t533 t534 false x14_4 x15_4 (rdOf ByteArray.empty (rd_L2 t530 x97_3) x103_4) t546 (t530.length : Int) x97_3 (rd_L2 t530 x97_3) ((rd_L2 t530 x97_3).length : Int) x103_4)) = some r := H
              have HC33 := Aside0.mk H; clear H
              have p545 : 0 ≤ (x103_4 : Int) := da
              have q545 : x103_4 < ((rd_L2 t530 x97_3).length : Int) := da
              obtain ⟨ad545, e545, hx545_0⟩ := Kd.at_string (Kd.R_reads' HO_101.out).2.2 x103_4 p545 q545
              cases e545
              replace p545 := eq_true p545; replace q545 := eq_true q545
              go_upto_if 113 with (first | (go_at_call 85; (with_reducible refine (impl_TagOf.calls k4 (rdOf ByteArray.empty (rd_L2 t530 x97_3) x103_4) t546 t547 _ A32.out).mono ?_); rintro e w' ⟨rfl, ⟨nd, rfl⟩⟩; (try first | exact ⟨rfl, _, World.drewN_drewN _ _ _⟩ | exact ⟨rfl, _, Eq.trans (World.drewN_drewN _ _ _) (congrArg (World.drewN _) (Nat.add_assoc _ _ _))⟩)))
              repeat (go_quiet (first | (go_at_call 85; (with_reducible refine (impl_TagOf.calls k4 (rdOf ByteArray.empty (rd_L2 t530 x97_3) x103_4) t546 t547 _ A32.out).mono ?_); rintro e w' ⟨rfl, ⟨nd, rfl⟩⟩; (try first | exact ⟨rfl, _, World.drewN_drewN _ _ _⟩ | exact ⟨rfl, _, Eq.trans (World.drewN_drewN _ _ _) (congrArg (World.drewN _) (Nat.add_assoc _ _ _))⟩))); go_upto_if 113 with (first | (go_at_call 85; (with_reducible refine (impl_TagOf.calls k4 (rdOf ByteArray.empty (rd_L2 t530 x97_3) x103_4) t546 t547 _ A32.out).mono ?_); rintro e w' ⟨rfl, ⟨nd, rfl⟩⟩; (try first | exact ⟨rfl, _, World.drewN_drewN _ _ _⟩ | exact ⟨rfl, _, Eq.trans (World.drewN_drewN _ _ _) (congrArg (World.drewN _) (Nat.add_assoc _ _ _))⟩))))
              (try simp only [Act.put, List.setIfInBounds_toArray, List.set_cons_zero, List.set_cons_succ])
              go_cut [13] (fun v13 wc => ∃ (kq : Nat) (x13_32 : Bool), v13 = .bool x13_32 ∧ Aside0 (laws_FnMixes.j4 kq l1 t528 t529 t530 t533 t534 x13_32 x14_4 x15_4 (rdOf ByteArray.empty (rd_L2 t530 x97_3) x103_4) t546 (t530.length : Int) x97_3 (rd_L2 t530 x97_3) ((rd_L2 t530 x97_3).length : Int) x103_4 = some r) ∧ Aside0 (kq ≤ k4) ∧ Aside0 (Kd.S (Kd.slice 9 Kd.string) 22 wc w.heap.size (fun k_ => some k_ ≠ ((.slice Ao18 t533.length co18) : Value).ownBlock ∧ some k_ ≠ (u15 : Value).ownBlock ∧ k_ < N11 ∧ k_ < N13) (.slice (some ad544) t530.length co9) t530) ∧ Aside0 (Kd.S (Kd.slice 9 Kd.string) 22 wc w.heap.size (fun k_ => some k_ ≠ ((.slice (some ad544) t530.length co9) : Value).ownBlock ∧ some k_ ≠ (u15 : Value).ownBlock ∧ N11 ≤ k_ ∧ k_ < N13) (.slice Ao18 t533.length co18) t533) ∧ Aside0 (Kd.R (Kd.int .i64) 3 wc w.heap.size (fun _ => True) u14 x14_4) ∧ Aside0 (Kd.R Kd.string 9 wc w.heap.size (fun _ => True) u15 x15_4) ∧ Aside0 (Kd.R Kd.string 9 wc w.heap.size (fun k_ => some k_ ≠ (u15 : Value).ownBlock) (.slice (some ad545) (rd_L2 t530 x97_3).length c544_0) (rd_L2 t530 x97_3)) ∧ Aside0 (Below w.heap.size w wc))
              case first =>
               have H := HC33.out; clear HC33
               by_cases c34 : t547 = true
               ·subst c34
                have H1 : (laws_FnMixes.j4 k4 l1 t528 t529 t530 t533 t534 x13_4 x14_4 x15_4 (rdOf ByteArray.empty (rd_L2 t530 x97_3) x103_4) t546 (t530.length : Int) x97_3 (rd_L2 t530 x97_3) ((rd_L2 t530 x97_3).length : Int) x103_4) = some r := by rw [if_pos rfl] at H; exact H
                clear H
                have H := H1
                clear H1
                have H' := Aside0.mk H
                clear H; go_wp2
                repeat (go_quiet (fail); try go_wp2)
                go_meet
                case rel => exact ⟨_, (x13_4), er, H', ⟨by have := HJ6.out; have := HK2.out; have := HK3.out; have := HK4.out; first | omega | exact Nat.le_refl _⟩, ⟨sd HO_7⟩, ⟨sd HO_8⟩, ⟨rdl HO_14⟩, ⟨rdl HO_15⟩, ⟨rdl HO_101⟩, ⟨belowd HB⟩⟩
               ·replace c34 := Bool.eq_false_iff.mpr c34
                subst c34
                have H1 : (laws_FnMixes.j4 k4 l1 t528 t529 t530 t533 t534 false x14_4 x15_4 (rdOf ByteArray.empty (rd_L2 t530 x97_3) x103_4) t546 (t530.length : Int) x97_3 (rd_L2 t530 x97_3) ((rd_L2 t530 x97_3).length : Int) x103_4) = some r := by rw [if_neg (show ¬ (false = true) by decide)] at H; exact H
                clear H
                have H := H1
                clear H1
                have H' := Aside0.mk H
                clear H; go_wp2
                repeat (go_quiet (fail); try go_wp2)
                go_meet
                case rel => exact ⟨_, (false), er, H', ⟨by have := HJ6.out; have := HK2.out; have := HK3.out; have := HK4.out; first | omega | exact Nat.le_refl _⟩, ⟨sd HO_7⟩, ⟨sd HO_8⟩, ⟨rdl HO_14⟩, ⟨rdl HO_15⟩, ⟨rdl HO_101⟩, ⟨belowd HB⟩⟩
              case rest =>
               clear HC33; (try clear c29b0); (try clear c30b0); (try clear c31b0); (try clear hx545_0); (try clear p545); (try clear q545)
               obtain ⟨kq, x13_32, rfl, HA, HJ32, HO_7, HO_8, HO_14, HO_15, HO_101, HB⟩ := hcut
               cases kq with
               | zero => exact absurd HA.out (by simp [laws_FnMixes.j4])
               | succ kj32 =>
                have H := HA.out; clear HA
                simp only [laws_FnMixes.j4] at H
                have H' := Aside0.mk H
                clear H
                obtain ⟨Ao35, co35, eo35⟩ := Kd.R_slice HO_15.out
                subst eo35; go_wp2
                repeat (go_quiet (fail); try go_wp2)
                go_loopg [13, 116] kj32 (fun kq v13 v116 w' => ∃ (x13_6 : Bool) (x116_6 : Int), v13 = .bool x13_6 ∧ v116 = .int .i64 x116_6 ∧ Aside0 (laws_FnMixes.l3 kq l1 t528 t529 t530 t533 t534 x13_6 x14_4 x15_4 (rdOf ByteArray.empty (rd_L2 t530 x97_3) x103_4) t546 (t530.length : Int) x97_3 (rd_L2 t530 x97_3) ((rd_L2 t530 x97_3).length : Int) x103_4 (x15_4.length : Int) x116_6 = some r) ∧ Aside0 (kq ≤ kj32) ∧ Aside0 (Kd.S (Kd.slice 9 Kd.string) 22 w' w.heap.size (fun k_ => some k_ ≠ ((.slice Ao18 t533.length co18) : Value).ownBlock ∧ some k_ ≠ ((.slice Ao35 x15_4.length co35) : Value).ownBlock ∧ k_ < N11 ∧ k_ < N13) (.slice (some ad544) t530.length co9) t530) ∧ Aside0 (Kd.S (Kd.slice 9 Kd.string) 22 w' w.heap.size (fun k_ => some k_ ≠ ((.slice (some ad544) t530.length co9) : Value).ownBlock ∧ some k_ ≠ ((.slice Ao35 x15_4.length co35) : Value).ownBlock ∧ N11 ≤ k_ ∧ k_ < N13) (.slice Ao18 t533.length co18) t533) ∧ Aside0 (Kd.R (Kd.int .i64) 3 w' w.heap.size (fun _ => True) u14 x14_4) ∧ Aside0 (Kd.R Kd.string 9 w' w.heap.size (fun _ => True) (.slice Ao35 x15_4.length co35) x15_4) ∧ Aside0 (Kd.R Kd.string 9 w' w.heap.size (fun k_ => some k_ ≠ ((.slice Ao35 x15_4.length co35) : Value).ownBlock) (.slice (some ad545) (rd_L2 t530 x97_3).length c544_0) (rd_L2 t530 x97_3)) ∧ Aside0 (Below w.heap.size w w'))
                case atStart => exact ⟨(x13_32), (0), er, er, H', ⟨Nat.le_refl _⟩, ⟨sd HO_7⟩, ⟨sd HO_8⟩, ⟨rdl HO_14⟩, ⟨rdl HO_15⟩, ⟨rdl HO_101⟩, ⟨belowd HB⟩⟩
                case round =>
                 clear H'
                 obtain ⟨x13_6, x116_6, rfl, rfl, HA, HK6, HO_7, HO_8, HO_14, HO_15, HO_101, HB⟩ := hrel
                 cases gk with
                 | zero => exact absurd HA.out (by simp [laws_FnMixes.l3])
                 | succ k6 =>
                  have H := HA.out; clear HA
                  simp only [laws_FnMixes.l3] at H
                  by_cases c36 : x116_6 < (x15_4.length : Int)
                  ·rw [if_pos c36] at H
                   have c36b0 : decide (x116_6 < (x15_4.length : Int)) = true := decide_eq_true c36
                   clear c36; replace H := ifS H; obtain ⟨c37, H⟩ := H; have c37b0 := decide_eq_true c37; clear c37; replace H := ifS H; obtain ⟨c38, H⟩ := H; have c38b0 := decide_eq_true c38; clear c38
                   by_cases c39 : (rdOf ByteArray.empty x15_4 x116_6).toList = (rdOf ByteArray.empty (rd_L2 t530 x97_3) x103_4).toList
                   ·rw [if_pos c39] at H
                    have c39b0 : ((rdOf ByteArray.empty x15_4 x116_6).toList == (rdOf ByteArray.empty (rd_L2 t530 x97_3) x103_4).toList) = true := beq_iff_eq.mpr c39
                    have c39b1 : ((rdOf ByteArray.empty x15_4 x116_6).toList != (rdOf ByteArray.empty (rd_L2 t530 x97_3) x103_4).toList) = false := bne_eq_false_iff_eq.mpr c39
                    clear c39
                    have H' := Aside0.mk H
                    clear H
                    have p548 : 0 ≤ (x116_6 : Int) := da
                    have q548 : x116_6 < (x15_4.length : Int) := da
                    obtain ⟨ad548, e548, hx548_0⟩ := Kd.at_string (Kd.R_reads' HO_15.out).2.2 x116_6 p548 q548
                    cases e548
                    replace p548 := eq_true p548; replace q548 := eq_true q548; go_wp2
                    repeat (go_quiet (fail); try go_wp2)
                    go_roundg k6
                    case measure => have := HJ6.out; have := HK2.out; have := HK3.out; have := HK4.out; have := HJ32.out; have := HK6.out; omega
                    case rel => exact ⟨(x13_6), (wrap64 (x116_6 + 1)), er, er, H', ⟨by have := HJ6.out; have := HK2.out; have := HK3.out; have := HK4.out; have := HJ32.out; have := HK6.out; omega⟩, ⟨sd HO_7⟩, ⟨sd HO_8⟩, ⟨rdl HO_14⟩, ⟨rdl HO_15⟩, ⟨rdl HO_101⟩, ⟨belowd HB⟩⟩
                   ·rw [if_neg c39] at H
                    have c39b0 : ((rdOf ByteArray.empty x15_4 x116_6).toList == (rdOf ByteArray.empty (rd_L2 t530 x97_3) x103_4).toList) = false := beq_eq_false_iff_ne.mpr c39
                    have c39b1 : ((rdOf ByteArray.empty x15_4 x116_6).toList != (rdOf ByteArray.empty (rd_L2 t530 x97_3) x103_4).toList) = true := bne_iff_ne.mpr c39
                    replace H := ifS H; obtain ⟨c40, H⟩ := H; have c40b0 := decide_eq_true c40; clear c40
                    by_cases c41 : (rd x14_4 x116_6) = t546
                    ·rw [if_pos c41] at H
                     have c41b0 : ((rd x14_4 x116_6) == t546) = true := beq_iff_eq.mpr c41
                     have c41b1 : ((rd x14_4 x116_6) != t546) = false := bne_eq_false_iff_eq.mpr c41
                     clear c41
                     have H' := Aside0.mk H
                     clear H
                     have p548 : 0 ≤ (x116_6 : Int) := da
                     have q548 : x116_6 < (x15_4.length : Int) := da
                     obtain ⟨ad548, e548, hx548_0⟩ := Kd.at_string (Kd.R_reads' HO_15.out).2.2 x116_6 p548 q548
                     cases e548
                     replace p548 := eq_true p548; replace q548 := eq_true q548
                     obtain ⟨Ao42, co42, eo42⟩ := Kd.R_slice HO_14.out
                     subst eo42
                     have p549 : 0 ≤ (x116_6 : Int) := da
                     have q549 : x116_6 < (x14_4.length : Int) := da
                     obtain ⟨ad549, e549, hx549_0⟩ := Kd.at_int (Kd.R_reads' HO_14.out).2.2 x116_6 p549 q549
                     cases e549
                     replace p549 := eq_true p549; replace q549 := eq_true q549; go_wp2
                     repeat (go_quiet (fail); try go_wp2)
                     go_roundg k6
                     case measure => have := HJ6.out; have := HK2.out; have := HK3.out; have := HK4.out; have := HJ32.out; have := HK6.out; omega
                     case rel => exact ⟨(false), (wrap64 (x116_6 + 1)), er, er, H', ⟨by have := HJ6.out; have := HK2.out; have := HK3.out; have := HK4.out; have := HJ32.out; have := HK6.out; omega⟩, ⟨sd HO_7⟩, ⟨sd HO_8⟩, ⟨rdl HO_14⟩, ⟨rdl HO_15⟩, ⟨rdl HO_101⟩, ⟨belowd HB⟩⟩
                    ·rw [if_neg c41] at H
                     have c41b0 : ((rd x14_4 x116_6) == t546) = false := beq_eq_false_iff_ne.mpr c41
                     have c41b1 : ((rd x14_4 x116_6) != t546) = true := bne_iff_ne.mpr c41
                     have H' := Aside0.mk H
                     clear H
                     have p548 : 0 ≤ (x116_6 : Int) := da
                     have q548 : x116_6 < (x15_4.length : Int) := da
                     obtain ⟨ad548, e548, hx548_0⟩ := Kd.at_string (Kd.R_reads' HO_15.out).2.2 x116_6 p548 q548
                     cases e548
                     replace p548 := eq_true p548; replace q548 := eq_true q548
                     obtain ⟨Ao43, co43, eo43⟩ := Kd.R_slice HO_14.out
                     subst eo43
                     have p549 : 0 ≤ (x116_6 : Int) := da
                     have q549 : x116_6 < (x14_4.length : Int) := da
                     obtain ⟨ad549, e549, hx549_0⟩ := Kd.at_int (Kd.R_reads' HO_14.out).2.2 x116_6 p549 q549
                     cases e549
                     replace p549 := eq_true p549; replace q549 := eq_true q549; go_wp2
                     repeat (go_quiet (fail); try go_wp2)
                     go_roundg k6
                     case measure => have := HJ6.out; have := HK2.out; have := HK3.out; have := HK4.out; have := HJ32.out; have := HK6.out; omega
                     case rel => exact ⟨(x13_6), (wrap64 (x116_6 + 1)), er, er, H', ⟨by have := HJ6.out; have := HK2.out; have := HK3.out; have := HK4.out; have := HJ32.out; have := HK6.out; omega⟩, ⟨sd HO_7⟩, ⟨sd HO_8⟩, ⟨rdl HO_14⟩, ⟨rdl HO_15⟩, ⟨rdl HO_101⟩, ⟨belowd HB⟩⟩
                  ·rw [if_neg c36] at H
                   have c36b0 : decide (x116_6 < (x15_4.length : Int)) = false := decide_eq_false c36
                   clear c36; replace H := ifS H; obtain ⟨c44, H⟩ := H; have LMc44 := Aside0.mk c44; clear c44
                   obtain ⟨y550, hy_⟩ : ∃ y_ : List ByteArray, y_ = (x15_4 ++ [(rdOf ByteArray.empty (rd_L2 t530 x97_3) x103_4)]) := ⟨_, rfl⟩
                   replace H : (if x14_4.length < 17592186044416 then (laws_FnMixes.l2 k6 l1 t528 t529 t530 t533 t534 x13_6 (x14_4 ++ [t546]) y550 (t530.length : Int) x97_3 (rd_L2 t530 x97_3) ((rd_L2 t530 x97_3).length : Int) (wrap64 (x103_4 + 1))) else (none)) = some r := yH
                   have Ny550 := ak hy_; clear hy_; replace H := ifS H; obtain ⟨c45, H⟩ := H; have LMc45 := Aside0.mk c45; clear c45
                   obtain ⟨y553, hy_⟩ : ∃ y_ : List Int, y_ = (x14_4 ++ [t546]) := ⟨_, rfl⟩
                   replace H : (laws_FnMixes.l2 k6 l1 t528 t529 t530 t533 t534 x13_6 y553 y550 (t530.length : Int) x97_3 (rd_L2 t530 x97_3) ((rd_L2 t530 x97_3).length : Int) (wrap64 (x103_4 + 1))) = some r := yH
                   have Ny553 := ak hy_; clear hy_
                   have H' := Aside0.mk H
                   clear H
                   go_wp2_with (first | ((with_reducible refine gate_builtin (b := .append) (xs := #[.tmp 133, .tmp 135]) rfl ?_); (try (refine gate_guard (by rfl) ?_; dsimp only)); at_builtin; refine Kd.R_append Kd.string (w0 := w) w.heap.size rfl (.tmp 133) (.tmp 135) 22 9 (.string ⟨#[]⟩) 16 rfl Try.underlying22 info9 rfl (by decide) (by omega) (.slice Ao35 x15_4.length co35) x15_4 (rdOf ByteArray.empty (rd_L2 t530 x97_3) x103_4) [.string (rdOf ByteArray.empty (rd_L2 t530 x97_3) x103_4)] (fun _ => True) (fun _ => False) rfl rfl ?aP (fun _ hk => hk.elim) ?aF ?aO ?aB ?aS ?aL ?_; (case aP => exact rfl); (case aB => exact (belowd HB)); (case aF => exact (fun _ _ => trivial)); (case aO => exact (rdl HO_15)); (case aS => exact (below_size (belowd HB))); (case aL => have := LMc44.out; omega); intro v551 w46 ho hb hg hat; rw [← Ny550.out] at ho; replace HO_7 := ak (Kd.S_after (ok := (fun k_ => some k_ ≠ (.slice Ao18 t533.length co18 : Value).ownBlock ∧ k_ < N11 ∧ k_ < N13)) (by (with_reducible repeat (first | apply Kd.S_alloc | apply Kd.S_drewN | apply Kd.S_drew)); exact Kd.S_mono HO_7.out (fun _ hk => ⟨⟨hk.1, ⟨hk.2.2.1, hk.2.2.2⟩⟩, hk.2.1⟩)) hg hat); replace HO_8 := ak (Kd.S_after (ok := (fun k_ => some k_ ≠ (.slice (some ad544) t530.length co9 : Value).ownBlock ∧ N11 ≤ k_ ∧ k_ < N13)) (by (with_reducible repeat (first | apply Kd.S_alloc | apply Kd.S_drewN | apply Kd.S_drew)); exact Kd.S_mono HO_8.out (fun _ hk => ⟨⟨hk.1, ⟨hk.2.2.1, hk.2.2.2⟩⟩, hk.2.1⟩)) hg hat); replace HO_14 := ak (Kd.R_over' (rdl HO_14) (Kd.R_typed (rdl HO_15)) (by decide) hg); replace HO_101 := ak (Kd.R_after (ok := (fun _ => True)) (by (with_reducible repeat (first | apply Kd.R_alloc | apply Kd.R_drewN | apply Kd.R_drew)); exact Kd.R_mono HO_101.out (fun _ hk => ⟨trivial, hk⟩)) hg hat); replace HB := ak (hb); have HO552 := ak (ho); clear HO_15; clear ho hb hg hat) | ((with_reducible refine gate_builtin (b := .append) (xs := #[.tmp 137, .tmp 139]) rfl ?_); (try (refine gate_guard (by rfl) ?_; dsimp only)); at_builtin; refine Kd.R_append (Kd.int .i64) (w0 := w) w.heap.size rfl (.tmp 137) (.tmp 139) 23 3 (.int .i64 0) 8 rfl Try.underlying23 info3 rfl (by decide) (by omega) u14 x14_4 t546 [.int .i64 t546] (fun _ => True) (fun _ => False) rfl rfl ?aP (fun _ hk => hk.elim) ?aF ?aO ?aB ?aS ?aL ?_; (case aP => exact rfl); (case aB => exact (belowd HB)); (case aF => exact (fun _ _ => trivial)); (case aO => exact (rdl HO_14)); (case aS => exact (below_size (belowd HB))); (case aL => have := LMc45.out; omega); intro v554 w47 ho hb hg hat; rw [← Ny553.out] at ho; replace HO_7 := ak (Kd.S_over' (sd HO_7) (Kd.R_typed (rdl HO_14)) (by decide) hg); replace HO_8 := ak (Kd.S_over' (sd HO_8) (Kd.R_typed (rdl HO_14)) (by decide) hg); replace HO_101 := ak (Kd.R_over' (rdl HO_101) (Kd.R_typed (rdl HO_14)) (by decide) hg); replace HO552 := ak (Kd.R_over' (rdl HO552) (Kd.R_typed (rdl HO_14)) (by decide) hg); replace HB := ak (hb); have HO555 := ak (ho); clear HO_14; clear ho hb hg hat))
                   repeat (go_quiet (first | ((with_reducible refine gate_builtin (b := .append) (xs := #[.tmp 133, .tmp 135]) rfl ?_); (try (refine gate_guard (by rfl) ?_; dsimp only)); at_builtin; refine Kd.R_append Kd.string (w0 := w) w.heap.size rfl (.tmp 133) (.tmp 135) 22 9 (.string ⟨#[]⟩) 16 rfl Try.underlying22 info9 rfl (by decide) (by omega) (.slice Ao35 x15_4.length co35) x15_4 (rdOf ByteArray.empty (rd_L2 t530 x97_3) x103_4) [.string (rdOf ByteArray.empty (rd_L2 t530 x97_3) x103_4)] (fun _ => True) (fun _ => False) rfl rfl ?aP (fun _ hk => hk.elim) ?aF ?aO ?aB ?aS ?aL ?_; (case aP => exact rfl); (case aB => exact (belowd HB)); (case aF => exact (fun _ _ => trivial)); (case aO => exact (rdl HO_15)); (case aS => exact (below_size (belowd HB))); (case aL => have := LMc44.out; omega); intro v551 w46 ho hb hg hat; rw [← Ny550.out] at ho; replace HO_7 := ak (Kd.S_after (ok := (fun k_ => some k_ ≠ (.slice Ao18 t533.length co18 : Value).ownBlock ∧ k_ < N11 ∧ k_ < N13)) (by (with_reducible repeat (first | apply Kd.S_alloc | apply Kd.S_drewN | apply Kd.S_drew)); exact Kd.S_mono HO_7.out (fun _ hk => ⟨⟨hk.1, ⟨hk.2.2.1, hk.2.2.2⟩⟩, hk.2.1⟩)) hg hat); replace HO_8 := ak (Kd.S_after (ok := (fun k_ => some k_ ≠ (.slice (some ad544) t530.length co9 : Value).ownBlock ∧ N11 ≤ k_ ∧ k_ < N13)) (by (with_reducible repeat (first | apply Kd.S_alloc | apply Kd.S_drewN | apply Kd.S_drew)); exact Kd.S_mono HO_8.out (fun _ hk => ⟨⟨hk.1, ⟨hk.2.2.1, hk.2.2.2⟩⟩, hk.2.1⟩)) hg hat); replace HO_14 := ak (Kd.R_over' (rdl HO_14) (Kd.R_typed (rdl HO_15)) (by decide) hg); replace HO_101 := ak (Kd.R_after (ok := (fun _ => True)) (by (with_reducible repeat (first | apply Kd.R_alloc | apply Kd.R_drewN | apply Kd.R_drew)); exact Kd.R_mono HO_101.out (fun _ hk => ⟨trivial, hk⟩)) hg hat); replace HB := ak (hb); have HO552 := ak (ho); clear HO_15; clear ho hb hg hat) | ((with_reducible refine gate_builtin (b := .append) (xs := #[.tmp 137, .tmp 139]) rfl ?_); (try (refine gate_guard (by rfl) ?_; dsimp only)); at_builtin; refine Kd.R_append (Kd.int .i64) (w0 := w) w.heap.size rfl (.tmp 137) (.tmp 139) 23 3 (.int .i64 0) 8 rfl Try.underlying23 info3 rfl (by decide) (by omega) u14 x14_4 t546 [.int .i64 t546] (fun _ => True) (fun _ => False) rfl rfl ?aP (fun _ hk => hk.elim) ?aF ?aO ?aB ?aS ?aL ?_; (case aP => exact rfl); (case aB => exact (belowd HB)); (case aF => exact (fun _ _ => trivial)); (case aO => exact (rdl HO_14)); (case aS => exact (below_size (belowd HB))); (case aL => have := LMc45.out; omega); intro v554 w47 ho hb hg hat; rw [← Ny553.out] at ho; replace HO_7 := ak (Kd.S_over' (sd HO_7) (Kd.R_typed (rdl HO_14)) (by decide) hg); replace HO_8 := ak (Kd.S_over' (sd HO_8) (Kd.R_typed (rdl HO_14)) (by decide) hg); replace HO_101 := ak (Kd.R_over' (rdl HO_101) (Kd.R_typed (rdl HO_14)) (by decide) hg); replace HO552 := ak (Kd.R_over' (rdl HO552) (Kd.R_typed (rdl HO_14)) (by decide) hg); replace HB := ak (hb); have HO555 := ak (ho); clear HO_14; clear ho hb hg hat)); try go_wp2_with (first | ((with_reducible refine gate_builtin (b := .append) (xs := #[.tmp 133, .tmp 135]) rfl ?_); (try (refine gate_guard (by rfl) ?_; dsimp only)); at_builtin; refine Kd.R_append Kd.string (w0 := w) w.heap.size rfl (.tmp 133) (.tmp 135) 22 9 (.string ⟨#[]⟩) 16 rfl Try.underlying22 info9 rfl (by decide) (by omega) (.slice Ao35 x15_4.length co35) x15_4 (rdOf ByteArray.empty (rd_L2 t530 x97_3) x103_4) [.string (rdOf ByteArray.empty (rd_L2 t530 x97_3) x103_4)] (fun _ => True) (fun _ => False) rfl rfl ?aP (fun _ hk => hk.elim) ?aF ?aO ?aB ?aS ?aL ?_; (case aP => exact rfl); (case aB => exact (belowd HB)); (case aF => exact (fun _ _ => trivial)); (case aO => exact (rdl HO_15)); (case aS => exact (below_size (belowd HB))); (case aL => have := LMc44.out; omega); intro v551 w46 ho hb hg hat; rw [← Ny550.out] at ho; replace HO_7 := ak (Kd.S_after (ok := (fun k_ => some k_ ≠ (.slice Ao18 t533.length co18 : Value).ownBlock ∧ k_ < N11 ∧ k_ < N13)) (by (with_reducible repeat (first | apply Kd.S_alloc | apply Kd.S_drewN | apply Kd.S_drew)); exact Kd.S_mono HO_7.out (fun _ hk => ⟨⟨hk.1, ⟨hk.2.2.1, hk.2.2.2⟩⟩, hk.2.1⟩)) hg hat); replace HO_8 := ak (Kd.S_after (ok := (fun k_ => some k_ ≠ (.slice (some ad544) t530.length co9 : Value).ownBlock ∧ N11 ≤ k_ ∧ k_ < N13)) (by (with_reducible repeat (first | apply Kd.S_alloc | apply Kd.S_drewN | apply Kd.S_drew)); exact Kd.S_mono HO_8.out (fun _ hk => ⟨⟨hk.1, ⟨hk.2.2.1, hk.2.2.2⟩⟩, hk.2.1⟩)) hg hat); replace HO_14 := ak (Kd.R_over' (rdl HO_14) (Kd.R_typed (rdl HO_15)) (by decide) hg); replace HO_101 := ak (Kd.R_after (ok := (fun _ => True)) (by (with_reducible repeat (first | apply Kd.R_alloc | apply Kd.R_drewN | apply Kd.R_drew)); exact Kd.R_mono HO_101.out (fun _ hk => ⟨trivial, hk⟩)) hg hat); replace HB := ak (hb); have HO552 := ak (ho); clear HO_15; clear ho hb hg hat) | ((with_reducible refine gate_builtin (b := .append) (xs := #[.tmp 137, .tmp 139]) rfl ?_); (try (refine gate_guard (by rfl) ?_; dsimp only)); at_builtin; refine Kd.R_append (Kd.int .i64) (w0 := w) w.heap.size rfl (.tmp 137) (.tmp 139) 23 3 (.int .i64 0) 8 rfl Try.underlying23 info3 rfl (by decide) (by omega) u14 x14_4 t546 [.int .i64 t546] (fun _ => True) (fun _ => False) rfl rfl ?aP (fun _ hk => hk.elim) ?aF ?aO ?aB ?aS ?aL ?_; (case aP => exact rfl); (case aB => exact (belowd HB)); (case aF => exact (fun _ _ => trivial)); (case aO => exact (rdl HO_14)); (case aS => exact (below_size (belowd HB))); (case aL => have := LMc45.out; omega); intro v554 w47 ho hb hg hat; rw [← Ny553.out] at ho; replace HO_7 := ak (Kd.S_over' (sd HO_7) (Kd.R_typed (rdl HO_14)) (by decide) hg); replace HO_8 := ak (Kd.S_over' (sd HO_8) (Kd.R_typed (rdl HO_14)) (by decide) hg); replace HO_101 := ak (Kd.R_over' (rdl HO_101) (Kd.R_typed (rdl HO_14)) (by decide) hg); replace HO552 := ak (Kd.R_over' (rdl HO552) (Kd.R_typed (rdl HO_14)) (by decide) hg); replace HB := ak (hb); have HO555 := ak (ho); clear HO_14; clear ho hb hg hat)))
                   go_roundg k6
                   case measure => have := HJ6.out; have := HK2.out; have := HK3.out; have := HK4.out; have := HJ32.out; have := HK6.out; omega
                   case rel => exact ⟨(x13_6), (y553), (y550), (wrap64 (x103_4 + 1)), er, er, H', ⟨by have := HJ6.out; have := HK2.out; have := HK3.out; have := HK4.out; have := HJ32.out; have := HK6.out; omega⟩, ⟨by (with_reducible repeat (first | apply Kd.S_alloc | apply Kd.S_drewN | apply Kd.S_drew)); exact Kd.S_mono HO_7.out (fun _ hk => ⟨hk.1.1, ⟨hk.2, ⟨hk.1.2.1, hk.1.2.2⟩⟩⟩)⟩, ⟨by (with_reducible repeat (first | apply Kd.S_alloc | apply Kd.S_drewN | apply Kd.S_drew)); exact Kd.S_mono HO_8.out (fun _ hk => ⟨hk.1.1, ⟨hk.2, ⟨hk.1.2.1, hk.1.2.2⟩⟩⟩)⟩, ⟨rdl HO555⟩, ⟨rdl HO552⟩, ⟨by (with_reducible repeat (first | apply Kd.R_alloc | apply Kd.R_drewN | apply Kd.R_drew)); exact Kd.R_mono HO_101.out (fun _ hk => hk.2)⟩, ⟨belowd HB⟩⟩
             ·rw [if_neg c29] at H
              have c29b0 : decide (x103_4 < ((rd_L2 t530 x97_3).length : Int)) = false := decide_eq_false c29
              clear c29
              have H' := Aside0.mk H
              clear H; go_wp2
              repeat (go_quiet (fail); try go_wp2)
              go_roundg k4
              case measure => have := HJ6.out; have := HK2.out; have := HK3.out; have := HK4.out; omega
              case rel => exact ⟨(x13_4), (x14_4), (x15_4), (wrap64 (x97_3 + 1)), er, er, H', ⟨by have := HJ6.out; have := HK2.out; have := HK3.out; have := HK4.out; omega⟩, ⟨sd HO_7⟩, ⟨sd HO_8⟩, ⟨rdl HO_14⟩, ⟨rdl HO_15⟩, ⟨belowd HB⟩⟩
          ·rw [if_neg c26] at H
           have c26b0 : decide (x97_3 < (t530.length : Int)) = false := decide_eq_false c26
           clear c26; have HC48 := Aside0.mk H; clear H
           go_upto_region 36 with (fail)
           repeat (go_quiet (fail); go_upto_region 36 with (fail))
           go_cut [151] (fun v151 wc => ∃ (kq : Nat) (x151_47 : Bool), v151 = .bool x151_47 ∧ Aside0 (laws_FnMixes.j6 kq l1 t528 t529 t530 t533 x151_47 = some r) ∧ Aside0 (kq ≤ k3) ∧ Aside0 (Kd.S (Kd.slice 9 Kd.string) 22 wc w.heap.size (fun k_ => some k_ ≠ ((.slice Ao18 t533.length co18) : Value).ownBlock ∧ k_ < N11 ∧ k_ < N13) (.slice Ao9 t530.length co9) t530) ∧ Aside0 (Kd.S (Kd.slice 9 Kd.string) 22 wc w.heap.size (fun k_ => some k_ ≠ ((.slice Ao9 t530.length co9) : Value).ownBlock ∧ N11 ≤ k_ ∧ k_ < N13) (.slice Ao18 t533.length co18) t533) ∧ Aside0 (Below w.heap.size w wc))
           case first =>
            have H := HC48.out; clear HC48
            by_cases c49 : t534 = true
            ·subst c49
             have H1 : (if x13_3 = true then (laws_FnMixes.j6 k3 l1 t528 t529 t530 t533 (decide ((x15_3.length : Int) ≤ 12))) else (laws_FnMixes.j6 k3 l1 t528 t529 t530 t533 false)) = some r := by rw [if_pos rfl] at H; exact H
             clear H
             have H := H1
             clear H1
             by_cases c50 : x13_3 = true
             ·subst c50
              have H1 : (laws_FnMixes.j6 k3 l1 t528 t529 t530 t533 (decide ((x15_3.length : Int) ≤ 12))) = some r := by rw [if_pos rfl] at H; exact H
              clear H
              have H := H1
              clear H1
              have H' := Aside0.mk H
              clear H
              obtain ⟨Ao51, co51, eo51⟩ := Kd.R_slice HO_15.out
              subst eo51; go_wp2
              repeat (go_quiet (fail); try go_wp2)
              go_meet
              case rel => exact ⟨_, (decide ((x15_3.length : Int) ≤ 12)), er, H', ⟨by have := HJ6.out; have := HK2.out; have := HK3.out; first | omega | exact Nat.le_refl _⟩, ⟨by (with_reducible repeat (first | apply Kd.S_alloc | apply Kd.S_drewN | apply Kd.S_drew)); exact Kd.S_mono HO_7.out (fun _ hk => ⟨hk.1, ⟨hk.2.2.1, hk.2.2.2⟩⟩)⟩, ⟨by (with_reducible repeat (first | apply Kd.S_alloc | apply Kd.S_drewN | apply Kd.S_drew)); exact Kd.S_mono HO_8.out (fun _ hk => ⟨hk.1, ⟨hk.2.2.1, hk.2.2.2⟩⟩)⟩, ⟨belowd HB⟩⟩
             ·replace c50 := Bool.eq_false_iff.mpr c50
              subst c50
              have H1 : (laws_FnMixes.j6 k3 l1 t528 t529 t530 t533 false) = some r := by rw [if_neg (show ¬ (false = true) by decide)] at H; exact H
              clear H
              have H := H1
              clear H1
              have H' := Aside0.mk H
              clear H; go_wp2
              repeat (go_quiet (fail); try go_wp2)
              go_meet
              case rel => exact ⟨_, (false), er, H', ⟨by have := HJ6.out; have := HK2.out; have := HK3.out; first | omega | exact Nat.le_refl _⟩, ⟨by (with_reducible repeat (first | apply Kd.S_alloc | apply Kd.S_drewN | apply Kd.S_drew)); exact Kd.S_mono HO_7.out (fun _ hk => ⟨hk.1, ⟨hk.2.2.1, hk.2.2.2⟩⟩)⟩, ⟨by (with_reducible repeat (first | apply Kd.S_alloc | apply Kd.S_drewN | apply Kd.S_drew)); exact Kd.S_mono HO_8.out (fun _ hk => ⟨hk.1, ⟨hk.2.2.1, hk.2.2.2⟩⟩)⟩, ⟨belowd HB⟩⟩
            ·replace c49 := Bool.eq_false_iff.mpr c49
             subst c49
             have H1 : (laws_FnMixes.j6 k3 l1 t528 t529 t530 t533 false) = some r := by rw [if_neg (show ¬ (false = true) by decide)] at H; exact H
             clear H
             have H := H1
             clear H1
             have H' := Aside0.mk H
             clear H; go_wp2
             repeat (go_quiet (fail); try go_wp2)
             go_meet
             case rel => exact ⟨_, (false), er, H', ⟨by have := HJ6.out; have := HK2.out; have := HK3.out; first | omega | exact Nat.le_refl _⟩, ⟨by (with_reducible repeat (first | apply Kd.S_alloc | apply Kd.S_drewN | apply Kd.S_drew)); exact Kd.S_mono HO_7.out (fun _ hk => ⟨hk.1, ⟨hk.2.2.1, hk.2.2.2⟩⟩)⟩, ⟨by (with_reducible repeat (first | apply Kd.S_alloc | apply Kd.S_drewN | apply Kd.S_drew)); exact Kd.S_mono HO_8.out (fun _ hk => ⟨hk.1, ⟨hk.2.2.1, hk.2.2.2⟩⟩)⟩, ⟨belowd HB⟩⟩
           case rest =>
            clear HC48; (try clear c26b0)
            obtain ⟨kq, x151_47, rfl, HA, HJ47, HO_7, HO_8, HB⟩ := hcut
            cases kq with
            | zero => exact absurd HA.out (by simp [laws_FnMixes.j6])
            | succ kj47 =>
             have H := HA.out; clear HA
             simp only [laws_FnMixes.j6] at H
             have HC52 := Aside0.mk H; clear H
             go_upto_if 151 with (fail)
             repeat (go_quiet (fail); go_upto_if 151 with (fail))
             go_cut [] (fun wc => ∃ (kq : Nat), Aside0 (laws_FnMixes.j11 kq l1 = some r) ∧ Aside0 (kq ≤ kj47) ∧ Aside0 (Below w.heap.size w wc))
             case first => as_aux_lemma =>
              have H := HC52.out; clear HC52
              by_cases c53 : x151_47 = true
              ·subst c53
               have H1 : (laws_FnMixes.l4 kj47 l1 t528 t529 t530 t533 ([] : List (List ByteArray)) (t530.length : Int) 0) = some r := by rw [if_pos rfl] at H; exact H
               clear H
               have H := H1
               clear H1
               have H' := Aside0.mk H
               clear H; go_wp2
               repeat (go_quiet (fail); try go_wp2)
               go_loopg [24, 154] kj47 (fun kq v24 v154 w' => ∃ (x24_5 : List (List ByteArray)) (x154_5 : Int), v154 = .int .i64 x154_5 ∧ Aside0 (laws_FnMixes.l4 kq l1 t528 t529 t530 t533 x24_5 (t530.length : Int) x154_5 = some r) ∧ Aside0 (kq ≤ kj47) ∧ Aside0 (Kd.S (Kd.slice 9 Kd.string) 22 w' w.heap.size (fun k_ => some k_ ≠ ((.slice Ao18 t533.length co18) : Value).ownBlock ∧ some k_ ≠ (v24 : Value).ownBlock ∧ k_ < N11 ∧ k_ < N13) (.slice Ao9 t530.length co9) t530) ∧ Aside0 (Kd.S (Kd.slice 9 Kd.string) 22 w' w.heap.size (fun k_ => some k_ ≠ ((.slice Ao9 t530.length co9) : Value).ownBlock ∧ some k_ ≠ (v24 : Value).ownBlock ∧ N11 ≤ k_ ∧ k_ < N13) (.slice Ao18 t533.length co18) t533) ∧ Aside0 (Kd.S (Kd.slice 9 Kd.string) 22 w' w.heap.size (fun k_ => some k_ ≠ ((.slice Ao9 t530.length co9) : Value).ownBlock ∧ some k_ ≠ ((.slice Ao18 t533.length co18) : Value).ownBlock) v24 x24_5) ∧ Aside0 (Below w.heap.size w w'))
               case atStart => exact ⟨(([] : List (List ByteArray))), (0), er, H', ⟨Nat.le_refl _⟩, ⟨by (with_reducible repeat (first | apply Kd.S_alloc | apply Kd.S_drewN | apply Kd.S_drew)); exact Kd.S_mono HO_7.out (fun _ hk => ⟨hk.1, ⟨(by simp [Value.ownBlock]), ⟨hk.2.1, hk.2.2⟩⟩⟩)⟩, ⟨by (with_reducible repeat (first | apply Kd.S_alloc | apply Kd.S_drewN | apply Kd.S_drew)); exact Kd.S_mono HO_8.out (fun _ hk => ⟨hk.1, ⟨(by simp [Value.ownBlock]), ⟨hk.2.1, hk.2.2⟩⟩⟩)⟩, ⟨by first | exact Kd.S_nil _ _ _ _ _ | exact Kd.N_nil _ _ _ _ _ | exact Kd.V_nil _ _ _ _ _ | exact Kd.Q_nil _ _ _ _ _ | exact Kd.R_nil _ _ _ _ _⟩, ⟨belowd HB⟩⟩
               case round =>
                clear H'
                (try clear c53)
                obtain ⟨x24_5, x154_5, rfl, HA, HK5, HO_7, HO_8, HO_24, HB⟩ := hrel
                cases gk with
                | zero => exact absurd HA.out (by simp [laws_FnMixes.l4])
                | succ k5 =>
                 have H := HA.out; clear HA
                 simp only [laws_FnMixes.l4] at H
                 by_cases c54 : x154_5 < (t530.length : Int)
                 ·rw [if_pos c54] at H
                  have c54b0 : decide (x154_5 < (t530.length : Int)) = true := decide_eq_true c54
                  clear c54
                  (first | rw [c54b0] | (simp only [i64_w, i32_w]; rw [c54b0]) | skip)
                  replace H := ifS H; obtain ⟨c55, H⟩ := H; have c55b0 := decide_eq_true c55; clear c55; replace H := ifS H; obtain ⟨c56, H⟩ := H; have c56b0 := decide_eq_true c56; clear c56
                  have H' := Aside0.mk H
                  clear H
                  have p556 : 0 ≤ (x154_5 : Int) := da
                  have q556 : x154_5 < (t530.length : Int) := da
                  obtain ⟨ad556, A556_0, c556_0, e556, hx556_0, hl556_0, hi556_0⟩ := at_L2 (Kd.S_reads' HO_7.out).2.2 x154_5 p556 q556
                  cases e556
                  obtain ⟨ce556, hce556, hMe556, hcc556⟩ := Kd.S_get HO_7.out [] x154_5 p556 (by first | exact q556 | exact da | (have e_ := (Kd.S_reads' HO_7.out).1; omega))
                  obtain ⟨ve556_0, rfl, ge556_0⟩ := hMe556
                  have hv556_0 := hcc556 0 _ rfl
                  rw [Nat.add_zero, show ((Kd.slice 9 Kd.string)).sz = 1 from rfl, Nat.mul_one] at hv556_0
                  replace hv556_0 := Option.some.inj (hv556_0.symm.trans hx556_0)
                  rw [hv556_0] at ge556_0
                  have HL556_0 := Aside0.mk (show Kd.R Kd.string 9 _ _ _ _ (rd_L2 t530 x154_5) from ge556_0)
                  clear hv556_0 ge556_0; clear hcc556 hce556; have HR556_0 := Aside0.mk hi556_0; have HC556_0 := Aside0.mk hl556_0; clear hi556_0 hl556_0; replace p556 := eq_true p556; replace q556 := eq_true q556; go_wp2
                  repeat (go_quiet (fail); try go_wp2)
                  go_loopg [27, 28] k5 (fun kq v27 v28 w' => ∃ (x27_6 : List ByteArray) (x28_6 : Int), v28 = .int .i64 x28_6 ∧ Aside0 (laws_FnMixes.l5 kq l1 t528 t529 t530 t533 x24_5 (rd_L2 t530 x154_5) x27_6 x28_6 (t530.length : Int) x154_5 = some r) ∧ Aside0 (kq ≤ k5) ∧ Aside0 (Kd.S (Kd.slice 9 Kd.string) 22 w' w.heap.size (fun k_ => some k_ ≠ ((.slice Ao18 t533.length co18) : Value).ownBlock ∧ some k_ ≠ (u24 : Value).ownBlock ∧ some k_ ≠ (v27 : Value).ownBlock ∧ k_ < N11 ∧ k_ < N13) (.slice (some ad556) t530.length co9) t530) ∧ Aside0 (Kd.S (Kd.slice 9 Kd.string) 22 w' w.heap.size (fun k_ => some k_ ≠ ((.slice (some ad556) t530.length co9) : Value).ownBlock ∧ some k_ ≠ (u24 : Value).ownBlock ∧ some k_ ≠ (v27 : Value).ownBlock ∧ N11 ≤ k_ ∧ k_ < N13) (.slice Ao18 t533.length co18) t533) ∧ Aside0 (Kd.S (Kd.slice 9 Kd.string) 22 w' w.heap.size (fun k_ => some k_ ≠ ((.slice (some ad556) t530.length co9) : Value).ownBlock ∧ some k_ ≠ ((.slice Ao18 t533.length co18) : Value).ownBlock ∧ some k_ ≠ (v27 : Value).ownBlock) u24 x24_5) ∧ Aside0 (Kd.R Kd.string 9 w' w.heap.size (fun k_ => some k_ ≠ (v27 : Value).ownBlock) (.slice A556_0 (rd_L2 t530 x154_5).length c556_0) (rd_L2 t530 x154_5)) ∧ Aside0 (Kd.R Kd.string 9 w' w.heap.size (fun _ => True) v27 x27_6) ∧ Aside0 (Below w.heap.size w w'))
                  case atStart => exact ⟨(([] : List ByteArray)), (wrap64 (((rd_L2 t530 x154_5).length : Int) - 1)), er, H', ⟨Nat.le_refl _⟩, ⟨by (with_reducible repeat (first | apply Kd.S_alloc | apply Kd.S_drewN | apply Kd.S_drew)); exact Kd.S_mono HO_7.out (fun _ hk => ⟨hk.1, ⟨hk.2.1, ⟨(by simp [Value.ownBlock]), ⟨hk.2.2.1, hk.2.2.2⟩⟩⟩⟩)⟩, ⟨by (with_reducible repeat (first | apply Kd.S_alloc | apply Kd.S_drewN | apply Kd.S_drew)); exact Kd.S_mono HO_8.out (fun _ hk => ⟨hk.1, ⟨hk.2.1, ⟨(by simp [Value.ownBlock]), ⟨hk.2.2.1, hk.2.2.2⟩⟩⟩⟩)⟩, ⟨by (with_reducible repeat (first | apply Kd.S_alloc | apply Kd.S_drewN | apply Kd.S_drew)); exact Kd.S_mono HO_24.out (fun _ hk => ⟨hk.1, ⟨hk.2, (by simp [Value.ownBlock])⟩⟩)⟩, ⟨by (with_reducible repeat (first | apply Kd.R_alloc | apply Kd.R_drewN | apply Kd.R_drew)); exact Kd.R_mono HL556_0.out (fun _ hk => (by simp [Value.ownBlock]))⟩, ⟨by first | exact Kd.R_nil _ _ _ _ _ | exact Kd.N_nil _ _ _ _ _ | exact Kd.V_nil _ _ _ _ _ | exact Kd.Q_nil _ _ _ _ _ | exact Kd.S_nil _ _ _ _ _⟩, ⟨belowd HB⟩⟩
                  case round => as_aux_lemma =>
                   clear H'
                   (try clear c54b0); (try clear c55b0); (try clear c56b0); (try clear hx556_0); (try clear p556); (try clear q556)
                   obtain ⟨x27_6, x28_6, rfl, HA, HK6, HO_7, HO_8, HO_24, HO_26, HO_27, HB⟩ := hrel
                   cases gk with
                   | zero => exact absurd HA.out (by simp [laws_FnMixes.l5])
                   | succ k6 =>
                    have H := HA.out; clear HA
                    simp only [laws_FnMixes.l5] at H
                    by_cases c57 : x28_6 ≥ 0
                    ·rw [if_pos c57] at H
                     have c57b0 : decide (0 ≤ x28_6) = true := decide_eq_true c57
                     clear c57; replace H := ifS H; obtain ⟨c58, H⟩ := H; have c58b0 := decide_eq_true c58; clear c58; replace H := ifS H; obtain ⟨c59, H⟩ := H; have c59b0 := decide_eq_true c59; clear c59; replace H := ifS H; obtain ⟨c60, H⟩ := H; have LMc60 := Aside0.mk c60; clear c60
                     obtain ⟨y558, hy_⟩ : ∃ y_ : List ByteArray, y_ = (x27_6 ++ [rdOf ByteArray.empty (rd_L2 t530 x154_5) x28_6]) := ⟨_, rfl⟩
                     replace H : (laws_FnMixes.l5 k6 l1 t528 t529 t530 t533 x24_5 (rd_L2 t530 x154_5) y558 (wrap64 (x28_6 - 1)) (t530.length : Int) x154_5) = some r := yH
                     have Ny558 := ak hy_; clear hy_
                     have H' := Aside0.mk H
                     clear H
                     have p557 : 0 ≤ (x28_6 : Int) := da
                     have q557 : x28_6 < ((rd_L2 t530 x154_5).length : Int) := da
                     obtain ⟨ad557, e557, hx557_0⟩ := Kd.at_string (Kd.R_reads' HO_26.out).2.2 x28_6 p557 q557
                     cases e557
                     replace p557 := eq_true p557; replace q557 := eq_true q557
                     go_wp2_with (first | ((with_reducible refine gate_builtin (b := .append) (xs := #[.tmp 165, .tmp 170]) rfl ?_); (try (refine gate_guard (by rfl) ?_; dsimp only)); at_builtin; refine Kd.R_append Kd.string (w0 := w) w.heap.size rfl (.tmp 165) (.tmp 170) 22 9 (.string ⟨#[]⟩) 16 rfl Try.underlying22 info9 rfl (by decide) (by omega) u27 x27_6 (rdOf ByteArray.empty (rd_L2 t530 x154_5) x28_6) [.string (rdOf ByteArray.empty (rd_L2 t530 x154_5) x28_6)] (fun _ => True) (fun _ => False) rfl rfl ?aP (fun _ hk => hk.elim) ?aF ?aO ?aB ?aS ?aL ?_; (case aP => exact rfl); (case aB => exact (belowd HB)); (case aF => exact (fun _ _ => trivial)); (case aO => exact (rdl HO_27)); (case aS => exact (below_size (belowd HB))); (case aL => have := LMc60.out; omega); intro v559 w61 ho hb hg hat; rw [← Ny558.out] at ho; replace HO_7 := ak (Kd.S_after (ok := (fun k_ => some k_ ≠ (.slice Ao18 t533.length co18 : Value).ownBlock ∧ some k_ ≠ (u24 : Value).ownBlock ∧ k_ < N11 ∧ k_ < N13)) (by (with_reducible repeat (first | apply Kd.S_alloc | apply Kd.S_drewN | apply Kd.S_drew)); exact Kd.S_mono HO_7.out (fun _ hk => ⟨⟨hk.1, ⟨hk.2.1, ⟨hk.2.2.2.1, hk.2.2.2.2⟩⟩⟩, hk.2.2.1⟩)) hg hat); replace HO_8 := ak (Kd.S_after (ok := (fun k_ => some k_ ≠ (.slice (some ad556) t530.length co9 : Value).ownBlock ∧ some k_ ≠ (u24 : Value).ownBlock ∧ N11 ≤ k_ ∧ k_ < N13)) (by (with_reducible repeat (first | apply Kd.S_alloc | apply Kd.S_drewN | apply Kd.S_drew)); exact Kd.S_mono HO_8.out (fun _ hk => ⟨⟨hk.1, ⟨hk.2.1, ⟨hk.2.2.2.1, hk.2.2.2.2⟩⟩⟩, hk.2.2.1⟩)) hg hat); replace HO_24 := ak (Kd.S_after (ok := (fun k_ => some k_ ≠ (.slice (some ad556) t530.length co9 : Value).ownBlock ∧ some k_ ≠ (.slice Ao18 t533.length co18 : Value).ownBlock)) (by (with_reducible repeat (first | apply Kd.S_alloc | apply Kd.S_drewN | apply Kd.S_drew)); exact Kd.S_mono HO_24.out (fun _ hk => ⟨⟨hk.1, hk.2.1⟩, hk.2.2⟩)) hg hat); replace HO_26 := ak (Kd.R_after (ok := (fun _ => True)) (by (with_reducible repeat (first | apply Kd.R_alloc | apply Kd.R_drewN | apply Kd.R_drew)); exact Kd.R_mono HO_26.out (fun _ hk => ⟨trivial, hk⟩)) hg hat); replace HB := ak (hb); have HO560 := ak (ho); clear HO_27; clear ho hb hg hat))
                     repeat (go_quiet (first | ((with_reducible refine gate_builtin (b := .append) (xs := #[.tmp 165, .tmp 170]) rfl ?_); (try (refine gate_guard (by rfl) ?_; dsimp only)); at_builtin; refine Kd.R_append Kd.string (w0 := w) w.heap.size rfl (.tmp 165) (.tmp 170) 22 9 (.string ⟨#[]⟩) 16 rfl Try.underlying22 info9 rfl (by decide) (by omega) u27 x27_6 (rdOf ByteArray.empty (rd_L2 t530 x154_5) x28_6) [.string (rdOf ByteArray.empty (rd_L2 t530 x154_5) x28_6)] (fun _ => True) (fun _ => False) rfl rfl ?aP (fun _ hk => hk.elim) ?aF ?aO ?aB ?aS ?aL ?_; (case aP => exact rfl); (case aB => exact (belowd HB)); (case aF => exact (fun _ _ => trivial)); (case aO => exact (rdl HO_27)); (case aS => exact (below_size (belowd HB))); (case aL => have := LMc60.out; omega); intro v559 w61 ho hb hg hat; rw [← Ny558.out] at ho; replace HO_7 := ak (Kd.S_after (ok := (fun k_ => some k_ ≠ (.slice Ao18 t533.length co18 : Value).ownBlock ∧ some k_ ≠ (u24 : Value).ownBlock ∧ k_ < N11 ∧ k_ < N13)) (by (with_reducible repeat (first | apply Kd.S_alloc | apply Kd.S_drewN | apply Kd.S_drew)); exact Kd.S_mono HO_7.out (fun _ hk => ⟨⟨hk.1, ⟨hk.2.1, ⟨hk.2.2.2.1, hk.2.2.2.2⟩⟩⟩, hk.2.2.1⟩)) hg hat); replace HO_8 := ak (Kd.S_after (ok := (fun k_ => some k_ ≠ (.slice (some ad556) t530.length co9 : Value).ownBlock ∧ some k_ ≠ (u24 : Value).ownBlock ∧ N11 ≤ k_ ∧ k_ < N13)) (by (with_reducible repeat (first | apply Kd.S_alloc | apply Kd.S_drewN | apply Kd.S_drew)); exact Kd.S_mono HO_8.out (fun _ hk => ⟨⟨hk.1, ⟨hk.2.1, ⟨hk.2.2.2.1, hk.2.2.2.2⟩⟩⟩, hk.2.2.1⟩)) hg hat); replace HO_24 := ak (Kd.S_after (ok := (fun k_ => some k_ ≠ (.slice (some ad556) t530.length co9 : Value).ownBlock ∧ some k_ ≠ (.slice Ao18 t533.length co18 : Value).ownBlock)) (by (with_reducible repeat (first | apply Kd.S_alloc | apply Kd.S_drewN | apply Kd.S_drew)); exact Kd.S_mono HO_24.out (fun _ hk => ⟨⟨hk.1, hk.2.1⟩, hk.2.2⟩)) hg hat); replace HO_26 := ak (Kd.R_after (ok := (fun _ => True)) (by (with_reducible repeat (first | apply Kd.R_alloc | apply Kd.R_drewN | apply Kd.R_drew)); exact Kd.R_mono HO_26.out (fun _ hk => ⟨trivial, hk⟩)) hg hat); replace HB := ak (hb); have HO560 := ak (ho); clear HO_27; clear ho hb hg hat)); try go_wp2_with (first | ((with_reducible refine gate_builtin (b := .append) (xs := #[.tmp 165, .tmp 170]) rfl ?_); (try (refine gate_guard (by rfl) ?_; dsimp only)); at_builtin; refine Kd.R_append Kd.string (w0 := w) w.heap.size rfl (.tmp 165) (.tmp 170) 22 9 (.string ⟨#[]⟩) 16 rfl Try.underlying22 info9 rfl (by decide) (by omega) u27 x27_6 (rdOf ByteArray.empty (rd_L2 t530 x154_5) x28_6) [.string (rdOf ByteArray.empty (rd_L2 t530 x154_5) x28_6)] (fun _ => True) (fun _ => False) rfl rfl ?aP (fun _ hk => hk.elim) ?aF ?aO ?aB ?aS ?aL ?_; (case aP => exact rfl); (case aB => exact (belowd HB)); (case aF => exact (fun _ _ => trivial)); (case aO => exact (rdl HO_27)); (case aS => exact (below_size (belowd HB))); (case aL => have := LMc60.out; omega); intro v559 w61 ho hb hg hat; rw [← Ny558.out] at ho; replace HO_7 := ak (Kd.S_after (ok := (fun k_ => some k_ ≠ (.slice Ao18 t533.length co18 : Value).ownBlock ∧ some k_ ≠ (u24 : Value).ownBlock ∧ k_ < N11 ∧ k_ < N13)) (by (with_reducible repeat (first | apply Kd.S_alloc | apply Kd.S_drewN | apply Kd.S_drew)); exact Kd.S_mono HO_7.out (fun _ hk => ⟨⟨hk.1, ⟨hk.2.1, ⟨hk.2.2.2.1, hk.2.2.2.2⟩⟩⟩, hk.2.2.1⟩)) hg hat); replace HO_8 := ak (Kd.S_after (ok := (fun k_ => some k_ ≠ (.slice (some ad556) t530.length co9 : Value).ownBlock ∧ some k_ ≠ (u24 : Value).ownBlock ∧ N11 ≤ k_ ∧ k_ < N13)) (by (with_reducible repeat (first | apply Kd.S_alloc | apply Kd.S_drewN | apply Kd.S_drew)); exact Kd.S_mono HO_8.out (fun _ hk => ⟨⟨hk.1, ⟨hk.2.1, ⟨hk.2.2.2.1, hk.2.2.2.2⟩⟩⟩, hk.2.2.1⟩)) hg hat); replace HO_24 := ak (Kd.S_after (ok := (fun k_ => some k_ ≠ (.slice (some ad556) t530.length co9 : Value).ownBlock ∧ some k_ ≠ (.slice Ao18 t533.length co18 : Value).ownBlock)) (by (with_reducible repeat (first | apply Kd.S_alloc | apply Kd.S_drewN | apply Kd.S_drew)); exact Kd.S_mono HO_24.out (fun _ hk => ⟨⟨hk.1, hk.2.1⟩, hk.2.2⟩)) hg hat); replace HO_26 := ak (Kd.R_after (ok := (fun _ => True)) (by (with_reducible repeat (first | apply Kd.R_alloc | apply Kd.R_drewN | apply Kd.R_drew)); exact Kd.R_mono HO_26.out (fun _ hk => ⟨trivial, hk⟩)) hg hat); replace HB := ak (hb); have HO560 := ak (ho); clear HO_27; clear ho hb hg hat)))
                     go_roundg k6
                     case measure => have := HJ6.out; have := HK2.out; have := HK3.out; have := HJ47.out; have := HK5.out; have := HK6.out; omega
                     case rel => exact ⟨(y558), (wrap64 (x28_6 - 1)), er, H', ⟨by have := HJ6.out; have := HK2.out; have := HK3.out; have := HJ47.out; have := HK5.out; have := HK6.out; omega⟩, ⟨by (with_reducible repeat (first | apply Kd.S_alloc | apply Kd.S_drewN | apply Kd.S_drew)); exact Kd.S_mono HO_7.out (fun _ hk => ⟨hk.1.1, ⟨hk.1.2.1, ⟨hk.2, ⟨hk.1.2.2.1, hk.1.2.2.2⟩⟩⟩⟩)⟩, ⟨by (with_reducible repeat (first | apply Kd.S_alloc | apply Kd.S_drewN | apply Kd.S_drew)); exact Kd.S_mono HO_8.out (fun _ hk => ⟨hk.1.1, ⟨hk.1.2.1, ⟨hk.2, ⟨hk.1.2.2.1, hk.1.2.2.2⟩⟩⟩⟩)⟩, ⟨by (with_reducible repeat (first | apply Kd.S_alloc | apply Kd.S_drewN | apply Kd.S_drew)); exact Kd.S_mono HO_24.out (fun _ hk => ⟨hk.1.1, ⟨hk.1.2, hk.2⟩⟩)⟩, ⟨by (with_reducible repeat (first | apply Kd.R_alloc | apply Kd.R_drewN | apply Kd.R_drew)); exact Kd.R_mono HO_26.out (fun _ hk => hk.2)⟩, ⟨rdl HO560⟩, ⟨belowd HB⟩⟩
                    ·rw [if_neg c57] at H
                     have c57b0 : decide (0 ≤ x28_6) = false := decide_eq_false c57
                     clear c57; replace H := ifS H; obtain ⟨c62, H⟩ := H; have LMc62 := Aside0.mk c62; clear c62
                     obtain ⟨y561, hy_⟩ : ∃ y_ : List (List ByteArray), y_ = (x24_5 ++ [x27_6]) := ⟨_, rfl⟩
                     replace H : (laws_FnMixes.l4 k6 l1 t528 t529 t530 t533 y561 (t530.length : Int) (wrap64 (x154_5 + 1))) = some r := yH
                     have Ny561 := ak hy_; clear hy_
                     have H' := Aside0.mk H
                     clear H
                     obtain ⟨Ao64, co64, eo64⟩ := Kd.R_slice HO_27.out
                     subst eo64
                     go_wp2_with (first | ((with_reducible refine gate_builtin (b := .append) (xs := #[.tmp 172, .tmp 174]) rfl ?_); (try (refine gate_guard (by rfl) ?_; dsimp only)); at_builtin; refine Kd.S_append (Kd.slice 9 Kd.string) (w0 := w) w.heap.size rfl (.tmp 172) (.tmp 174) 34 22 (.slice none 0 0) 24 rfl Try.underlying34 info22 rfl (by decide) (by omega) u24 x24_5 x27_6 [.slice Ao64 x27_6.length co64] (fun k_ => some k_ ≠ (.slice (some ad556) t530.length co9 : Value).ownBlock ∧ some k_ ≠ (.slice Ao18 t533.length co18 : Value).ownBlock) (fun k_ => some k_ = (.slice Ao64 x27_6.length co64 : Value).ownBlock) rfl rfl ?aP (fun k_ hk_ => ((Kd.R_mono (ok' := fun k_ => ((fun k_ => some k_ ≠ (.slice (some ad556) t530.length co9 : Value).ownBlock ∧ some k_ ≠ (.slice Ao18 t533.length co18 : Value).ownBlock)) k_ ∧ some k_ ≠ (u24 : Value).ownBlock) (Kd.R_apart' (Kd.R_apart' (Kd.R_apart' (HO_27.out) (Kd.S_typed HO_7.out) (by decide)) (Kd.S_typed HO_8.out) (by decide)) (Kd.S_typed HO_24.out) (by decide)) (fun k_ hk => ⟨⟨hk.1.1.2, hk.1.2⟩, hk.2⟩))).1 k_ hk_.symm) ?aF ?aO ?aB ?aS ?aL ?_; (case aP => exact Kd.M_row (Kd.R_mono (Kd.R_tight rfl (Kd.R_mono (ok' := fun k_ => ((fun k_ => some k_ ≠ (.slice (some ad556) t530.length co9 : Value).ownBlock ∧ some k_ ≠ (.slice Ao18 t533.length co18 : Value).ownBlock)) k_ ∧ some k_ ≠ (u24 : Value).ownBlock) (Kd.R_apart' (Kd.R_apart' (Kd.R_apart' (HO_27.out) (Kd.S_typed HO_7.out) (by decide)) (Kd.S_typed HO_8.out) (by decide)) (Kd.S_typed HO_24.out) (by decide)) (fun k_ hk => ⟨⟨hk.1.1.2, hk.1.2⟩, hk.2⟩))) (fun _ h_ => h_))); (case aB => exact (belowd HB)); (case aF => exact (fun k_ hk => ⟨Kd.fresh' (Kd.S_lt (sd HO_7)) k_ hk, Kd.fresh' (Kd.S_lt (sd HO_8)) k_ hk⟩)); (case aO => exact (by (with_reducible repeat (first | apply Kd.S_alloc | apply Kd.S_drewN | apply Kd.S_drew)); exact Kd.S_mono HO_24.out (fun k_ hk => ⟨⟨hk.1, hk.2.1⟩, fun e_ => hk.2.2 e_⟩))); (case aS => exact (below_size (belowd HB))); (case aL => have := LMc62.out; omega); intro v562 w63 ho hb hg hat; rw [← Ny561.out] at ho; replace HO_7 := ak (Kd.S_after (ok := (fun k_ => some k_ ≠ (.slice Ao18 t533.length co18 : Value).ownBlock ∧ some k_ ≠ (.slice Ao64 x27_6.length co64 : Value).ownBlock ∧ k_ < N11 ∧ k_ < N13)) (by (with_reducible repeat (first | apply Kd.S_alloc | apply Kd.S_drewN | apply Kd.S_drew)); exact Kd.S_mono HO_7.out (fun _ hk => ⟨⟨hk.1, ⟨hk.2.2.1, ⟨hk.2.2.2.1, hk.2.2.2.2⟩⟩⟩, hk.2.1⟩)) hg hat); replace HO_8 := ak (Kd.S_after (ok := (fun k_ => some k_ ≠ (.slice (some ad556) t530.length co9 : Value).ownBlock ∧ some k_ ≠ (.slice Ao64 x27_6.length co64 : Value).ownBlock ∧ N11 ≤ k_ ∧ k_ < N13)) (by (with_reducible repeat (first | apply Kd.S_alloc | apply Kd.S_drewN | apply Kd.S_drew)); exact Kd.S_mono HO_8.out (fun _ hk => ⟨⟨hk.1, ⟨hk.2.2.1, ⟨hk.2.2.2.1, hk.2.2.2.2⟩⟩⟩, hk.2.1⟩)) hg hat); replace HO_26 := ak (Kd.R_over' (rdl HO_26) (Kd.S_typed (sd HO_24)) (by decide) hg); replace HB := ak (hb); have HO563 := ak (ho); clear HO_24 HO_27; clear ho hb hg hat))
                     repeat (go_quiet (first | ((with_reducible refine gate_builtin (b := .append) (xs := #[.tmp 172, .tmp 174]) rfl ?_); (try (refine gate_guard (by rfl) ?_; dsimp only)); at_builtin; refine Kd.S_append (Kd.slice 9 Kd.string) (w0 := w) w.heap.size rfl (.tmp 172) (.tmp 174) 34 22 (.slice none 0 0) 24 rfl Try.underlying34 info22 rfl (by decide) (by omega) u24 x24_5 x27_6 [.slice Ao64 x27_6.length co64] (fun k_ => some k_ ≠ (.slice (some ad556) t530.length co9 : Value).ownBlock ∧ some k_ ≠ (.slice Ao18 t533.length co18 : Value).ownBlock) (fun k_ => some k_ = (.slice Ao64 x27_6.length co64 : Value).ownBlock) rfl rfl ?aP (fun k_ hk_ => ((Kd.R_mono (ok' := fun k_ => ((fun k_ => some k_ ≠ (.slice (some ad556) t530.length co9 : Value).ownBlock ∧ some k_ ≠ (.slice Ao18 t533.length co18 : Value).ownBlock)) k_ ∧ some k_ ≠ (u24 : Value).ownBlock) (Kd.R_apart' (Kd.R_apart' (Kd.R_apart' (HO_27.out) (Kd.S_typed HO_7.out) (by decide)) (Kd.S_typed HO_8.out) (by decide)) (Kd.S_typed HO_24.out) (by decide)) (fun k_ hk => ⟨⟨hk.1.1.2, hk.1.2⟩, hk.2⟩))).1 k_ hk_.symm) ?aF ?aO ?aB ?aS ?aL ?_; (case aP => exact Kd.M_row (Kd.R_mono (Kd.R_tight rfl (Kd.R_mono (ok' := fun k_ => ((fun k_ => some k_ ≠ (.slice (some ad556) t530.length co9 : Value).ownBlock ∧ some k_ ≠ (.slice Ao18 t533.length co18 : Value).ownBlock)) k_ ∧ some k_ ≠ (u24 : Value).ownBlock) (Kd.R_apart' (Kd.R_apart' (Kd.R_apart' (HO_27.out) (Kd.S_typed HO_7.out) (by decide)) (Kd.S_typed HO_8.out) (by decide)) (Kd.S_typed HO_24.out) (by decide)) (fun k_ hk => ⟨⟨hk.1.1.2, hk.1.2⟩, hk.2⟩))) (fun _ h_ => h_))); (case aB => exact (belowd HB)); (case aF => exact (fun k_ hk => ⟨Kd.fresh' (Kd.S_lt (sd HO_7)) k_ hk, Kd.fresh' (Kd.S_lt (sd HO_8)) k_ hk⟩)); (case aO => exact (by (with_reducible repeat (first | apply Kd.S_alloc | apply Kd.S_drewN | apply Kd.S_drew)); exact Kd.S_mono HO_24.out (fun k_ hk => ⟨⟨hk.1, hk.2.1⟩, fun e_ => hk.2.2 e_⟩))); (case aS => exact (below_size (belowd HB))); (case aL => have := LMc62.out; omega); intro v562 w63 ho hb hg hat; rw [← Ny561.out] at ho; replace HO_7 := ak (Kd.S_after (ok := (fun k_ => some k_ ≠ (.slice Ao18 t533.length co18 : Value).ownBlock ∧ some k_ ≠ (.slice Ao64 x27_6.length co64 : Value).ownBlock ∧ k_ < N11 ∧ k_ < N13)) (by (with_reducible repeat (first | apply Kd.S_alloc | apply Kd.S_drewN | apply Kd.S_drew)); exact Kd.S_mono HO_7.out (fun _ hk => ⟨⟨hk.1, ⟨hk.2.2.1, ⟨hk.2.2.2.1, hk.2.2.2.2⟩⟩⟩, hk.2.1⟩)) hg hat); replace HO_8 := ak (Kd.S_after (ok := (fun k_ => some k_ ≠ (.slice (some ad556) t530.length co9 : Value).ownBlock ∧ some k_ ≠ (.slice Ao64 x27_6.length co64 : Value).ownBlock ∧ N11 ≤ k_ ∧ k_ < N13)) (by (with_reducible repeat (first | apply Kd.S_alloc | apply Kd.S_drewN | apply Kd.S_drew)); exact Kd.S_mono HO_8.out (fun _ hk => ⟨⟨hk.1, ⟨hk.2.2.1, ⟨hk.2.2.2.1, hk.2.2.2.2⟩⟩⟩, hk.2.1⟩)) hg hat); replace HO_26 := ak (Kd.R_over' (rdl HO_26) (Kd.S_typed (sd HO_24)) (by decide) hg); replace HB := ak (hb); have HO563 := ak (ho); clear HO_24 HO_27; clear ho hb hg hat)); try go_wp2_with (first | ((with_reducible refine gate_builtin (b := .append) (xs := #[.tmp 172, .tmp 174]) rfl ?_); (try (refine gate_guard (by rfl) ?_; dsimp only)); at_builtin; refine Kd.S_append (Kd.slice 9 Kd.string) (w0 := w) w.heap.size rfl (.tmp 172) (.tmp 174) 34 22 (.slice none 0 0) 24 rfl Try.underlying34 info22 rfl (by decide) (by omega) u24 x24_5 x27_6 [.slice Ao64 x27_6.length co64] (fun k_ => some k_ ≠ (.slice (some ad556) t530.length co9 : Value).ownBlock ∧ some k_ ≠ (.slice Ao18 t533.length co18 : Value).ownBlock) (fun k_ => some k_ = (.slice Ao64 x27_6.length co64 : Value).ownBlock) rfl rfl ?aP (fun k_ hk_ => ((Kd.R_mono (ok' := fun k_ => ((fun k_ => some k_ ≠ (.slice (some ad556) t530.length co9 : Value).ownBlock ∧ some k_ ≠ (.slice Ao18 t533.length co18 : Value).ownBlock)) k_ ∧ some k_ ≠ (u24 : Value).ownBlock) (Kd.R_apart' (Kd.R_apart' (Kd.R_apart' (HO_27.out) (Kd.S_typed HO_7.out) (by decide)) (Kd.S_typed HO_8.out) (by decide)) (Kd.S_typed HO_24.out) (by decide)) (fun k_ hk => ⟨⟨hk.1.1.2, hk.1.2⟩, hk.2⟩))).1 k_ hk_.symm) ?aF ?aO ?aB ?aS ?aL ?_; (case aP => exact Kd.M_row (Kd.R_mono (Kd.R_tight rfl (Kd.R_mono (ok' := fun k_ => ((fun k_ => some k_ ≠ (.slice (some ad556) t530.length co9 : Value).ownBlock ∧ some k_ ≠ (.slice Ao18 t533.length co18 : Value).ownBlock)) k_ ∧ some k_ ≠ (u24 : Value).ownBlock) (Kd.R_apart' (Kd.R_apart' (Kd.R_apart' (HO_27.out) (Kd.S_typed HO_7.out) (by decide)) (Kd.S_typed HO_8.out) (by decide)) (Kd.S_typed HO_24.out) (by decide)) (fun k_ hk => ⟨⟨hk.1.1.2, hk.1.2⟩, hk.2⟩))) (fun _ h_ => h_))); (case aB => exact (belowd HB)); (case aF => exact (fun k_ hk => ⟨Kd.fresh' (Kd.S_lt (sd HO_7)) k_ hk, Kd.fresh' (Kd.S_lt (sd HO_8)) k_ hk⟩)); (case aO => exact (by (with_reducible repeat (first | apply Kd.S_alloc | apply Kd.S_drewN | apply Kd.S_drew)); exact Kd.S_mono HO_24.out (fun k_ hk => ⟨⟨hk.1, hk.2.1⟩, fun e_ => hk.2.2 e_⟩))); (case aS => exact (below_size (belowd HB))); (case aL => have := LMc62.out; omega); intro v562 w63 ho hb hg hat; rw [← Ny561.out] at ho; replace HO_7 := ak (Kd.S_after (ok := (fun k_ => some k_ ≠ (.slice Ao18 t533.length co18 : Value).ownBlock ∧ some k_ ≠ (.slice Ao64 x27_6.length co64 : Value).ownBlock ∧ k_ < N11 ∧ k_ < N13)) (by (with_reducible repeat (first | apply Kd.S_alloc | apply Kd.S_drewN | apply Kd.S_drew)); exact Kd.S_mono HO_7.out (fun _ hk => ⟨⟨hk.1, ⟨hk.2.2.1, ⟨hk.2.2.2.1, hk.2.2.2.2⟩⟩⟩, hk.2.1⟩)) hg hat); replace HO_8 := ak (Kd.S_after (ok := (fun k_ => some k_ ≠ (.slice (some ad556) t530.length co9 : Value).ownBlock ∧ some k_ ≠ (.slice Ao64 x27_6.length co64 : Value).ownBlock ∧ N11 ≤ k_ ∧ k_ < N13)) (by (with_reducible repeat (first | apply Kd.S_alloc | apply Kd.S_drewN | apply Kd.S_drew)); exact Kd.S_mono HO_8.out (fun _ hk => ⟨⟨hk.1, ⟨hk.2.2.1, ⟨hk.2.2.2.1, hk.2.2.2.2⟩⟩⟩, hk.2.1⟩)) hg hat); replace HO_26 := ak (Kd.R_over' (rdl HO_26) (Kd.S_typed (sd HO_24)) (by decide) hg); replace HB := ak (hb); have HO563 := ak (ho); clear HO_24 HO_27; clear ho hb hg hat)))
                     go_roundg k6
                     case measure => have := HJ6.out; have := HK2.out; have := HK3.out; have := HJ47.out; have := HK5.out; have := HK6.out; omega
                     case rel => exact ⟨(y561), (wrap64 (x154_5 + 1)), er, H', ⟨by have := HJ6.out; have := HK2.out; have := HK3.out; have := HJ47.out; have := HK5.out; have := HK6.out; omega⟩, ⟨by (with_reducible repeat (first | apply Kd.S_alloc | apply Kd.S_drewN | apply Kd.S_drew)); exact Kd.S_mono HO_7.out (fun _ hk => ⟨hk.1.1, ⟨hk.2, ⟨hk.1.2.2.1, hk.1.2.2.2⟩⟩⟩)⟩, ⟨by (with_reducible repeat (first | apply Kd.S_alloc | apply Kd.S_drewN | apply Kd.S_drew)); exact Kd.S_mono HO_8.out (fun _ hk => ⟨hk.1.1, ⟨hk.2, ⟨hk.1.2.2.1, hk.1.2.2.2⟩⟩⟩)⟩, ⟨sd HO563⟩, ⟨belowd HB⟩⟩
                 ·rw [if_neg c54] at H
                  have c54b0 : decide (x154_5 < (t530.length : Int)) = false := decide_eq_false c54
                  clear c54
                  (first | rw [c54b0] | (simp only [i64_w, i32_w]; rw [c54b0]) | skip)
                  replace H := bS H; obtain ⟨⟨t564, t565⟩, A65, H⟩ := H
                  replace H : (if t565 = true then (laws_FnMixes.j9 k5 l1 t533 t564 ((t564.length : Int) != (t533.length : Int))) else (laws_FnMixes.j9 k5 l1 t533 t564 true)) = some r := H
                  have HC66 := Aside0.mk H; clear H
                  obtain ⟨Ao67, co67, eo67⟩ := Kd.S_slice HO_24.out
                  subst eo67
                  go_upto_region 49 with (first | (go_at_call 23; (with_reducible refine (impl_PlayMix.calls k5 t528 t529 _ _ x24_5 t564 t565 _ ?side1 ?side2 A65.out).mono ?_); (case side1 => exact cd (Kd.S_reads' HO_24.out).2.2); (case side2 => exact (Kd.S_reads' HO_24.out).2.1); rintro e w68 ⟨v566, rfl, ho0, hb⟩; obtain ⟨N69, eN69⟩ := below_num hb; have HO567 := ak (Kd.S_lower (Kd.S_new' (Kd.S_new' (Kd.S_new' (S_geN eN69 ho0) (Kd.S_lt (sd HO_7))) (Kd.S_lt (sd HO_8))) (Kd.S_lt (sd HO_24))) (below_size (belowd HB))); replace HO_7 := ak (Kd.S_elder' (S_ltN eN69 (sd HO_7)) (Kd.S_base ho0) hb); replace HO_8 := ak (Kd.S_elder' (S_ltN eN69 (sd HO_8)) (Kd.S_base ho0) hb); replace HO_24 := ak (Kd.S_elder' (S_ltN eN69 (sd HO_24)) (Kd.S_base ho0) hb); replace HB := ak (below_step (belowd HB) hb); (try clear hb); (try clear ho0)))
                  repeat (go_quiet (first | (go_at_call 23; (with_reducible refine (impl_PlayMix.calls k5 t528 t529 _ _ x24_5 t564 t565 _ ?side1 ?side2 A65.out).mono ?_); (case side1 => exact cd (Kd.S_reads' HO_24.out).2.2); (case side2 => exact (Kd.S_reads' HO_24.out).2.1); rintro e w68 ⟨v566, rfl, ho0, hb⟩; obtain ⟨N69, eN69⟩ := below_num hb; have HO567 := ak (Kd.S_lower (Kd.S_new' (Kd.S_new' (Kd.S_new' (S_geN eN69 ho0) (Kd.S_lt (sd HO_7))) (Kd.S_lt (sd HO_8))) (Kd.S_lt (sd HO_24))) (below_size (belowd HB))); replace HO_7 := ak (Kd.S_elder' (S_ltN eN69 (sd HO_7)) (Kd.S_base ho0) hb); replace HO_8 := ak (Kd.S_elder' (S_ltN eN69 (sd HO_8)) (Kd.S_base ho0) hb); replace HO_24 := ak (Kd.S_elder' (S_ltN eN69 (sd HO_24)) (Kd.S_base ho0) hb); replace HB := ak (below_step (belowd HB) hb); (try clear hb); (try clear ho0))); go_upto_region 49 with (first | (go_at_call 23; (with_reducible refine (impl_PlayMix.calls k5 t528 t529 _ _ x24_5 t564 t565 _ ?side1 ?side2 A65.out).mono ?_); (case side1 => exact cd (Kd.S_reads' HO_24.out).2.2); (case side2 => exact (Kd.S_reads' HO_24.out).2.1); rintro e w68 ⟨v566, rfl, ho0, hb⟩; obtain ⟨N69, eN69⟩ := below_num hb; have HO567 := ak (Kd.S_lower (Kd.S_new' (Kd.S_new' (Kd.S_new' (S_geN eN69 ho0) (Kd.S_lt (sd HO_7))) (Kd.S_lt (sd HO_8))) (Kd.S_lt (sd HO_24))) (below_size (belowd HB))); replace HO_7 := ak (Kd.S_elder' (S_ltN eN69 (sd HO_7)) (Kd.S_base ho0) hb); replace HO_8 := ak (Kd.S_elder' (S_ltN eN69 (sd HO_8)) (Kd.S_base ho0) hb); replace HO_24 := ak (Kd.S_elder' (S_ltN eN69 (sd HO_24)) (Kd.S_base ho0) hb); replace HB := ak (below_step (belowd HB) hb); (try clear hb); (try clear ho0))))
                  (try simp only [Act.put, List.setIfInBounds_toArray, List.set_cons_zero, List.set_cons_succ])
                  go_cut [192] (fun v192 wc => ∃ (kq : Nat) (x192_65 : Bool), v192 = .bool x192_65 ∧ Aside0 (laws_FnMixes.j9 kq l1 t533 t564 x192_65 = some r) ∧ Aside0 (kq ≤ k5) ∧ Aside0 (Kd.S (Kd.slice 9 Kd.string) 22 wc w.heap.size (fun k_ => some k_ ≠ (v566 : Value).ownBlock ∧ N11 ≤ k_ ∧ k_ < N13 ∧ k_ < N69) (.slice Ao18 t533.length co18) t533) ∧ Aside0 (Kd.S (Kd.slice 9 Kd.string) 22 wc w.heap.size (fun k_ => some k_ ≠ ((.slice Ao18 t533.length co18) : Value).ownBlock ∧ N69 ≤ k_) v566 t564) ∧ Aside0 (Below w.heap.size w wc))
                  case first =>
                   have H := HC66.out; clear HC66
                   by_cases c70 : t565 = true
                   ·subst c70
                    have H1 : (laws_FnMixes.j9 k5 l1 t533 t564 ((t564.length : Int) != (t533.length : Int))) = some r := by rw [if_pos rfl] at H; exact H
                    clear H
                    have H := H1
                    clear H1
                    have H' := Aside0.mk H
                    clear H
                    obtain ⟨Ao71, co71, eo71⟩ := Kd.S_slice HO567.out
                    subst eo71; go_wp2
                    repeat (go_quiet (fail); try go_wp2)
                    go_meet
                    case rel => exact ⟨_, (((t564.length : Int) != (t533.length : Int))), er, H', ⟨by have := HJ6.out; have := HK2.out; have := HK3.out; have := HJ47.out; have := HK5.out; first | omega | exact Nat.le_refl _⟩, ⟨by (with_reducible repeat (first | apply Kd.S_alloc | apply Kd.S_drewN | apply Kd.S_drew)); exact Kd.S_mono HO_8.out (fun _ hk => ⟨hk.2, ⟨hk.1.1.2.2.1, ⟨hk.1.1.2.2.2, hk.1.2⟩⟩⟩)⟩, ⟨by (with_reducible repeat (first | apply Kd.S_alloc | apply Kd.S_drewN | apply Kd.S_drew)); exact Kd.S_mono HO567.out (fun _ hk => ⟨hk.1.2, hk.1.1.1.2⟩)⟩, ⟨belowd HB⟩⟩
                   ·replace c70 := Bool.eq_false_iff.mpr c70
                    subst c70
                    have H1 : (laws_FnMixes.j9 k5 l1 t533 t564 true) = some r := by rw [if_neg (show ¬ (false = true) by decide)] at H; exact H
                    clear H
                    have H := H1
                    clear H1
                    have H' := Aside0.mk H
                    clear H; go_wp2
                    repeat (go_quiet (fail); try go_wp2)
                    go_meet
                    case rel => exact ⟨_, (true), er, H', ⟨by have := HJ6.out; have := HK2.out; have := HK3.out; have := HJ47.out; have := HK5.out; first | omega | exact Nat.le_refl _⟩, ⟨by (with_reducible repeat (first | apply Kd.S_alloc | apply Kd.S_drewN | apply Kd.S_drew)); exact Kd.S_mono HO_8.out (fun _ hk => ⟨hk.2, ⟨hk.1.1.2.2.1, ⟨hk.1.1.2.2.2, hk.1.2⟩⟩⟩)⟩, ⟨by (with_reducible repeat (first | apply Kd.S_alloc | apply Kd.S_drewN | apply Kd.S_drew)); exact Kd.S_mono HO567.out (fun _ hk => ⟨hk.1.2, hk.1.1.1.2⟩)⟩, ⟨belowd HB⟩⟩
                  case rest =>
                   clear HC66; (try clear c54b0)
                   obtain ⟨kq, x192_65, rfl, HA, HJ65, HO_8, HO_29, HB⟩ := hcut
                   cases kq with
                   | zero => exact absurd HA.out (by simp [laws_FnMixes.j9])
                   | succ kj65 =>
                    have H := HA.out; clear HA
                    simp only [laws_FnMixes.j9] at H
                    by_cases c72 : x192_65 = true
                    ·subst c72
                     have H1 : (some false) = some r := by rw [if_pos rfl] at H; exact H
                     clear H
                     have H := H1
                     clear H1
                     exact absurd (H.trans (congrArg some hr_)) (by simp)
                    ·replace c72 := Bool.eq_false_iff.mpr c72
                     subst c72
                     have H1 : (laws_FnMixes.l6 kj65 l1 t533 t564 (t533.length : Int) 0) = some r := by rw [if_neg (show ¬ (false = true) by decide)] at H; exact H
                     clear H
                     have H := H1
                     clear H1
                     have H' := Aside0.mk H
                     clear H; go_wp2
                     repeat (go_quiet (fail); try go_wp2)
                     go_loopg [195] kj65 (fun kq v195 w' => ∃ (x195_7 : Int), v195 = .int .i64 x195_7 ∧ Aside0 (laws_FnMixes.l6 kq l1 t533 t564 (t533.length : Int) x195_7 = some r) ∧ Aside0 (kq ≤ kj65) ∧ Aside0 (Kd.S (Kd.slice 9 Kd.string) 22 w' w.heap.size (fun k_ => some k_ ≠ (v566 : Value).ownBlock ∧ N11 ≤ k_ ∧ k_ < N13 ∧ k_ < N69) (.slice Ao18 t533.length co18) t533) ∧ Aside0 (Kd.S (Kd.slice 9 Kd.string) 22 w' w.heap.size (fun k_ => some k_ ≠ ((.slice Ao18 t533.length co18) : Value).ownBlock ∧ N69 ≤ k_) v566 t564) ∧ Aside0 (Below w.heap.size w w'))
                     case atStart => exact ⟨(0), er, H', ⟨Nat.le_refl _⟩, ⟨sd HO_8⟩, ⟨sd HO_29⟩, ⟨belowd HB⟩⟩
                     case round =>
                      clear H'
                      (try clear c72)
                      obtain ⟨x195_7, rfl, HA, HK7, HO_8, HO_29, HB⟩ := hrel
                      cases gk with
                      | zero => exact absurd HA.out (by simp [laws_FnMixes.l6])
                      | succ k7 =>
                       have H := HA.out; clear HA
                       simp only [laws_FnMixes.l6] at H
                       by_cases c73 : x195_7 < (t533.length : Int)
                       ·rw [if_pos c73] at H
                        have c73b0 : decide (x195_7 < (t533.length : Int)) = true := decide_eq_true c73
                        clear c73; replace H := ifS H; obtain ⟨c74, H⟩ := H; have c74b0 := decide_eq_true c74; clear c74; replace H := ifS H; obtain ⟨c75, H⟩ := H; have c75b0 := decide_eq_true c75; clear c75; replace H := ifS H; obtain ⟨c76, H⟩ := H; have c76b0 := decide_eq_true c76; clear c76; replace H := bS H; obtain ⟨t570, A77, H⟩ := H
                        replace H : (if t570 = true then (laws_FnMixes.l6 k7 l1 t533 t564 (t533.length : Int) (wrap64 (x195_7 + 1))) else (some false)) = some r := H
                        by_cases c78 : t570 = true
                        ·subst c78
                         have H1 : (laws_FnMixes.l6 k7 l1 t533 t564 (t533.length : Int) (wrap64 (x195_7 + 1))) = some r := by rw [if_pos rfl] at H; exact H
                         clear H
                         have H := H1
                         clear H1
                         have H' := Aside0.mk H
                         clear H
                         obtain ⟨Ao79, co79, eo79⟩ := Kd.S_slice HO_29.out
                         subst eo79
                         have p568 : 0 ≤ (x195_7 : Int) := da
                         have q568 : x195_7 < (t564.length : Int) := da
                         obtain ⟨ad568, A568_0, c568_0, e568, hx568_0, hl568_0, hi568_0⟩ := at_L2 (Kd.S_reads' HO_29.out).2.2 x195_7 p568 q568
                         cases e568
                         obtain ⟨ce568, hce568, hMe568, hcc568⟩ := Kd.S_get HO_29.out [] x195_7 p568 (by first | exact q568 | exact da | (have e_ := (Kd.S_reads' HO_29.out).1; omega))
                         obtain ⟨ve568_0, rfl, ge568_0⟩ := hMe568
                         have hv568_0 := hcc568 0 _ rfl
                         rw [Nat.add_zero, show ((Kd.slice 9 Kd.string)).sz = 1 from rfl, Nat.mul_one] at hv568_0
                         replace hv568_0 := Option.some.inj (hv568_0.symm.trans hx568_0)
                         rw [hv568_0] at ge568_0
                         have HL568_0 := Aside0.mk (show Kd.R Kd.string 9 _ _ _ _ (rd_L2 t564 x195_7) from ge568_0)
                         clear hv568_0 ge568_0; clear hcc568 hce568; have HR568_0 := Aside0.mk hi568_0; have HC568_0 := Aside0.mk hl568_0; clear hi568_0 hl568_0; replace p568 := eq_true p568; replace q568 := eq_true q568
                         have p569 : 0 ≤ (x195_7 : Int) := da
                         have q569 : x195_7 < (t533.length : Int) := da
                         obtain ⟨ad569, A569_0, c569_0, e569, hx569_0, hl569_0, hi569_0⟩ := at_L2 (Kd.S_reads' HO_8.out).2.2 x195_7 p569 q569
                         cases e569
                         obtain ⟨ce569, hce569, hMe569, hcc569⟩ := Kd.S_get HO_8.out [] x195_7 p569 (by first | exact q569 | exact da | (have e_ := (Kd.S_reads' HO_8.out).1; omega))
                         obtain ⟨ve569_0, rfl, ge569_0⟩ := hMe569
                         have hv569_0 := hcc569 0 _ rfl
                         rw [Nat.add_zero, show ((Kd.slice 9 Kd.string)).sz = 1 from rfl, Nat.mul_one] at hv569_0
                         replace hv569_0 := Option.some.inj (hv569_0.symm.trans hx569_0)
                         rw [hv569_0] at ge569_0
                         have HL569_0 := Aside0.mk (show Kd.R Kd.string 9 _ _ _ _ (rd_L2 t533 x195_7) from ge569_0)
                         clear hv569_0 ge569_0; clear hcc569 hce569; have HR569_0 := Aside0.mk hi569_0; have HC569_0 := Aside0.mk hl569_0; clear hi569_0 hl569_0; replace p569 := eq_true p569; replace q569 := eq_true q569
                         go_wp2_with (first | (go_at_call 84; (with_reducible refine (laws_sameTexts.calls k7 _ _ (rd_L2 t564 x195_7) _ _ (rd_L2 t533 x195_7) true _ ?side1 ?side2 ?side3 ?side4 A77.out).mono ?_); (case side1 => exact cd (by repeat (first | (with_reducible exact HR568_0.out) | (with_reducible refine Kd.C_alloc ?_ _) | (with_reducible refine Kd.C_drewN ?_ _) | (with_reducible refine Kd.C_drew ?_) | exact HR568_0.out))); (case side2 => exact HC568_0.out); (case side3 => exact cd (by repeat (first | (with_reducible exact HR569_0.out) | (with_reducible refine Kd.C_alloc ?_ _) | (with_reducible refine Kd.C_drewN ?_ _) | (with_reducible refine Kd.C_drew ?_) | exact HR569_0.out))); (case side4 => exact HC569_0.out); rintro e w' ⟨rfl, ⟨nd, rfl⟩⟩; (try first | exact ⟨rfl, _, World.drewN_drewN _ _ _⟩ | exact ⟨rfl, _, Eq.trans (World.drewN_drewN _ _ _) (congrArg (World.drewN _) (Nat.add_assoc _ _ _))⟩)))
                         repeat (go_quiet (first | (go_at_call 84; (with_reducible refine (laws_sameTexts.calls k7 _ _ (rd_L2 t564 x195_7) _ _ (rd_L2 t533 x195_7) true _ ?side1 ?side2 ?side3 ?side4 A77.out).mono ?_); (case side1 => exact cd (by repeat (first | (with_reducible exact HR568_0.out) | (with_reducible refine Kd.C_alloc ?_ _) | (with_reducible refine Kd.C_drewN ?_ _) | (with_reducible refine Kd.C_drew ?_) | exact HR568_0.out))); (case side2 => exact HC568_0.out); (case side3 => exact cd (by repeat (first | (with_reducible exact HR569_0.out) | (with_reducible refine Kd.C_alloc ?_ _) | (with_reducible refine Kd.C_drewN ?_ _) | (with_reducible refine Kd.C_drew ?_) | exact HR569_0.out))); (case side4 => exact HC569_0.out); rintro e w' ⟨rfl, ⟨nd, rfl⟩⟩; (try first | exact ⟨rfl, _, World.drewN_drewN _ _ _⟩ | exact ⟨rfl, _, Eq.trans (World.drewN_drewN _ _ _) (congrArg (World.drewN _) (Nat.add_assoc _ _ _))⟩))); try go_wp2_with (first | (go_at_call 84; (with_reducible refine (laws_sameTexts.calls k7 _ _ (rd_L2 t564 x195_7) _ _ (rd_L2 t533 x195_7) true _ ?side1 ?side2 ?side3 ?side4 A77.out).mono ?_); (case side1 => exact cd (by repeat (first | (with_reducible exact HR568_0.out) | (with_reducible refine Kd.C_alloc ?_ _) | (with_reducible refine Kd.C_drewN ?_ _) | (with_reducible refine Kd.C_drew ?_) | exact HR568_0.out))); (case side2 => exact HC568_0.out); (case side3 => exact cd (by repeat (first | (with_reducible exact HR569_0.out) | (with_reducible refine Kd.C_alloc ?_ _) | (with_reducible refine Kd.C_drewN ?_ _) | (with_reducible refine Kd.C_drew ?_) | exact HR569_0.out))); (case side4 => exact HC569_0.out); rintro e w' ⟨rfl, ⟨nd, rfl⟩⟩; (try first | exact ⟨rfl, _, World.drewN_drewN _ _ _⟩ | exact ⟨rfl, _, Eq.trans (World.drewN_drewN _ _ _) (congrArg (World.drewN _) (Nat.add_assoc _ _ _))⟩))))
                         go_roundg k7
                         case measure => have := HJ6.out; have := HK2.out; have := HK3.out; have := HJ47.out; have := HK5.out; have := HJ65.out; have := HK7.out; omega
                         case rel => exact ⟨(wrap64 (x195_7 + 1)), er, H', ⟨by have := HJ6.out; have := HK2.out; have := HK3.out; have := HJ47.out; have := HK5.out; have := HJ65.out; have := HK7.out; omega⟩, ⟨sd HO_8⟩, ⟨sd HO_29⟩, ⟨belowd HB⟩⟩
                        ·replace c78 := Bool.eq_false_iff.mpr c78
                         subst c78
                         have H1 : (some false) = some r := by rw [if_neg (show ¬ (false = true) by decide)] at H; exact H
                         clear H
                         have H := H1
                         clear H1
                         exact absurd (H.trans (congrArg some hr_)) (by simp)
                       ·rw [if_neg c73] at H
                        have c73b0 : decide (x195_7 < (t533.length : Int)) = false := decide_eq_false c73
                        clear c73
                        have H' := Aside0.mk H
                        clear H; go_wp2
                        repeat (go_quiet (fail); try go_wp2)
                        go_meet
                        case rel => exact ⟨_, H', ⟨by have := HJ6.out; have := HK2.out; have := HK3.out; have := HJ47.out; have := HK5.out; have := HJ65.out; have := HK7.out; first | omega | exact Nat.le_refl _⟩, ⟨belowd HB⟩⟩
              ·replace c53 := Bool.eq_false_iff.mpr c53
               subst c53
               have H1 : (laws_FnMixes.j11 kj47 l1) = some r := by rw [if_neg (show ¬ (false = true) by decide)] at H; exact H
               clear H
               have H := H1
               clear H1
               have H' := Aside0.mk H
               clear H; go_wp2
               repeat (go_quiet (fail); try go_wp2)
               go_meet
               case rel => exact ⟨_, H', ⟨by have := HJ6.out; have := HK2.out; have := HK3.out; have := HJ47.out; first | omega | exact Nat.le_refl _⟩, ⟨belowd HB⟩⟩
             case rest => as_aux_lemma =>
              clear HC52
              obtain ⟨kq, HA, HJ51, HB⟩ := hcut
              cases kq with
              | zero => exact absurd HA.out (by simp [laws_FnMixes.j11])
              | succ kj51 =>
               have H := HA.out; clear HA
               simp only [laws_FnMixes.j11] at H
               replace H := bS H; obtain ⟨t571, A80, H⟩ := H
               replace H : ((impl_SortTexts.f kj51 t571).bind fun bt574 => ((spec_SortTexts.f kj51 t571).bind fun bt578 => ((spec_DrawSetSize.f kj51 l1).bind fun bt582 => ((impl_SetSize.f bt582.1 bt582.2).bind fun bt586 => ((spec_SetSize.f bt582.1 bt582.2).bind fun bt588 => (if (bt574.2 == bt578.2) = true then ((laws_sameTexts.f kj51 bt574.1 bt578.1).bind fun t590 => (if t590 = true then (if (bt586.2 == bt588.2) = true then (some (bt586.1 == bt588.1)) else (some false)) else (some false))) else (some false))))))) = some r := H
               replace H := bS H; obtain ⟨⟨t574, t575⟩, A81, H⟩ := H
               replace H : ((spec_SortTexts.f kj51 t571).bind fun bt578 => ((spec_DrawSetSize.f kj51 l1).bind fun bt582 => ((impl_SetSize.f bt582.1 bt582.2).bind fun bt586 => ((spec_SetSize.f bt582.1 bt582.2).bind fun bt588 => (if (t575 == bt578.2) = true then ((laws_sameTexts.f kj51 t574 bt578.1).bind fun t590 => (if t590 = true then (if (bt586.2 == bt588.2) = true then (some (bt586.1 == bt588.1)) else (some false)) else (some false))) else (some false)))))) = some r := H
               replace H := bS H; obtain ⟨⟨t578, t579⟩, A82, H⟩ := H
               replace H : ((spec_DrawSetSize.f kj51 l1).bind fun bt582 => ((impl_SetSize.f bt582.1 bt582.2).bind fun bt586 => ((spec_SetSize.f bt582.1 bt582.2).bind fun bt588 => (if (t575 == t579) = true then ((laws_sameTexts.f kj51 t574 t578).bind fun t590 => (if t590 = true then (if (bt586.2 == bt588.2) = true then (some (bt586.1 == bt588.1)) else (some false)) else (some false))) else (some false))))) = some r := H
               replace H := bS H; obtain ⟨⟨t582, t583⟩, A83, H⟩ := H
               replace H : ((impl_SetSize.f t582 t583).bind fun bt586 => ((spec_SetSize.f t582 t583).bind fun bt588 => (if (t575 == t579) = true then ((laws_sameTexts.f kj51 t574 t578).bind fun t590 => (if t590 = true then (if (bt586.2 == bt588.2) = true then (some (bt586.1 == bt588.1)) else (some false)) else (some false))) else (some false)))) = some r := H
               replace H := bS H; obtain ⟨⟨t586, t587⟩, A84, H⟩ := H
               replace H : ((spec_SetSize.f t582 t583).bind fun bt588 => (if (t575 == t579) = true then ((laws_sameTexts.f kj51 t574 t578).bind fun t590 => (if t590 = true then (if (t587 == bt588.2) = true then (some (t586 == bt588.1)) else (some false)) else (some false))) else (some false))) = some r := H
               replace H := bS H; obtain ⟨⟨t588, t589⟩, A85, H⟩ := H
               replace H : (if (t575 == t579) = true then ((laws_sameTexts.f kj51 t574 t578).bind fun t590 => (if t590 = true then (if (t587 == t589) = true then (some (t586 == t588)) else (some false)) else (some false))) else (some false)) = some r := H
               by_cases c86 : (t575 == t579) = true
               ·rw [if_pos c86] at H
                have c86b0 : (t575 == t579) = true := c86
                (try (have c86b1 : decide (t575 = t579) = true := by simpa using c86))
                (try (have c86b2 : (t575 == t579) = true := by simpa using c86))
                clear c86; replace H := bS H; obtain ⟨t590, A87, H⟩ := H
                replace H : (if t590 = true then (if (t587 == t589) = true then (some (t586 == t588)) else (some false)) else (some false)) = some r := H
                by_cases c88 : t590 = true
                ·subst c88
                 have H1 : (if (t587 == t589) = true then (some (t586 == t588)) else (some false)) = some r := by rw [if_pos rfl] at H; exact H
                 clear H
                 have H := H1
                 clear H1
                 by_cases c89 : (t587 == t589) = true
                 ·rw [if_pos c89] at H
                  have c89b0 : (t587 == t589) = true := c89
                  (try (have c89b1 : decide (t587 = t589) = true := by simpa using c89))
                  (try (have c89b2 : (t587 == t589) = true := by simpa using c89))
                  clear c89
                  obtain rfl := Option.some.inj H
                  go_wp2_with (first | (go_at_call 86; (with_reducible refine (spec_DrawSortTexts.calls kj51 _ _ l1 t571 _ ?side1 ?side2 A80.out).mono ?_); (case side1 => exact cd (Kd.C_below HR1.out HB.out)); (case side2 => exact HC1.out); rintro e w90 ⟨v572, rfl, ho0, hb⟩; have HO573 := ak (Kd.R_lower ho0 (below_size (belowd HB))); replace HB := ak (below_step (belowd HB) hb); (try clear hb); (try clear ho0); obtain ⟨Ao91, co91, eo91⟩ := Kd.R_slice HO573.out; subst eo91) | (go_at_call 87; (with_reducible refine (impl_SortTexts.calls kj51 _ _ t571 t574 t575 _ ?side1 ?side2 A81.out).mono ?_); (case side1 => exact cd (Kd.R_reads' HO573.out).2.2); (case side2 => exact (Kd.R_reads' HO573.out).2.1); rintro e w92 ⟨v576, rfl, ho0, hb⟩; have HO577 := ak (Kd.R_lower (Kd.R_new' ho0 (Kd.R_lt (rdl HO573))) (below_size (belowd HB))); replace HO573 := ak (Kd.R_elder' (rdl HO573) (Kd.R_base ho0) hb); replace HB := ak (below_step (belowd HB) hb); (try clear hb); (try clear ho0)) | (go_at_call 88; (with_reducible refine (spec_SortTexts.calls kj51 _ _ t571 t578 t579 _ ?side1 ?side2 A82.out).mono ?_); (case side1 => exact cd (Kd.R_reads' HO573.out).2.2); (case side2 => exact (Kd.R_reads' HO573.out).2.1); rintro e w93 ⟨v580, rfl, ho0, hb⟩; have HO581 := ak (Kd.R_lower (Kd.R_new' (Kd.R_new' ho0 (Kd.R_lt (rdl HO573))) (Kd.R_lt (rdl HO577))) (below_size (belowd HB))); replace HO573 := ak (Kd.R_elder' (rdl HO573) (Kd.R_base ho0) hb); replace HO577 := ak (Kd.R_elder' (rdl HO577) (Kd.R_base ho0) hb); replace HB := ak (below_step (belowd HB) hb); (try clear hb); (try clear ho0)) | (go_at_call 89; (with_reducible refine (spec_DrawSetSize.calls kj51 _ _ l1 t582 t583 _ ?side1 ?side2 A83.out).mono ?_); (case side1 => exact cd (Kd.C_below HR1.out HB.out)); (case side2 => exact HC1.out); rintro e w94 ⟨v584, rfl, ho0, hb⟩; have HO585 := ak (Kd.S_lower (Kd.S_new' (Kd.S_new' (Kd.S_new' ho0 (Kd.R_lt (rdl HO573))) (Kd.R_lt (rdl HO577))) (Kd.R_lt (rdl HO581))) (below_size (belowd HB))); replace HO573 := ak (Kd.R_below (rdl HO573) hb); replace HO577 := ak (Kd.R_below (rdl HO577) hb); replace HO581 := ak (Kd.R_below (rdl HO581) hb); replace HB := ak (below_step (belowd HB) hb); (try clear hb); (try clear ho0); obtain ⟨Ao95, co95, eo95⟩ := Kd.S_slice HO585.out; subst eo95) | (go_at_call 90; (with_reducible refine (impl_SetSize.calls _ _ t582 t583 t586 t587 _ ?side1 ?side2 A84.out).mono ?_); (case side1 => exact cd (Kd.S_reads' HO585.out).2.2); (case side2 => exact (Kd.S_reads' HO585.out).2.1); rintro e w' ⟨rfl, ⟨nd, rfl⟩⟩; (try first | exact ⟨rfl, _, World.drewN_drewN _ _ _⟩ | exact ⟨rfl, _, Eq.trans (World.drewN_drewN _ _ _) (congrArg (World.drewN _) (Nat.add_assoc _ _ _))⟩)) | (go_at_call 91; (with_reducible refine (spec_SetSize.calls _ _ t582 t583 t588 t589 _ ?side1 ?side2 A85.out).mono ?_); (case side1 => exact cd (Kd.S_reads' HO585.out).2.2); (case side2 => exact (Kd.S_reads' HO585.out).2.1); rintro e w' ⟨rfl, ⟨nd, rfl⟩⟩; (try first | exact ⟨rfl, _, World.drewN_drewN _ _ _⟩ | exact ⟨rfl, _, Eq.trans (World.drewN_drewN _ _ _) (congrArg (World.drewN _) (Nat.add_assoc _ _ _))⟩); obtain ⟨Ao96, co96, eo96⟩ := Kd.R_slice HO577.out; subst eo96; obtain ⟨Ao97, co97, eo97⟩ := Kd.R_slice HO581.out; subst eo97) | (go_at_call 84; (with_reducible refine (laws_sameTexts.calls kj51 _ _ t574 _ _ t578 true _ ?side1 ?side2 ?side3 ?side4 A87.out).mono ?_); (case side1 => exact cd (Kd.R_reads' HO577.out).2.2); (case side2 => exact (Kd.R_reads' HO577.out).2.1); (case side3 => exact cd (Kd.R_reads' HO581.out).2.2); (case side4 => exact (Kd.R_reads' HO581.out).2.1); rintro e w' ⟨rfl, ⟨nd, rfl⟩⟩; (try first | exact ⟨rfl, _, World.drewN_drewN _ _ _⟩ | exact ⟨rfl, _, Eq.trans (World.drewN_drewN _ _ _) (congrArg (World.drewN _) (Nat.add_assoc _ _ _))⟩)))
                  repeat (go_quiet (first | (go_at_call 86; (with_reducible refine (spec_DrawSortTexts.calls kj51 _ _ l1 t571 _ ?side1 ?side2 A80.out).mono ?_); (case side1 => exact cd (Kd.C_below HR1.out HB.out)); (case side2 => exact HC1.out); rintro e w90 ⟨v572, rfl, ho0, hb⟩; have HO573 := ak (Kd.R_lower ho0 (below_size (belowd HB))); replace HB := ak (below_step (belowd HB) hb); (try clear hb); (try clear ho0); obtain ⟨Ao91, co91, eo91⟩ := Kd.R_slice HO573.out; subst eo91) | (go_at_call 87; (with_reducible refine (impl_SortTexts.calls kj51 _ _ t571 t574 t575 _ ?side1 ?side2 A81.out).mono ?_); (case side1 => exact cd (Kd.R_reads' HO573.out).2.2); (case side2 => exact (Kd.R_reads' HO573.out).2.1); rintro e w92 ⟨v576, rfl, ho0, hb⟩; have HO577 := ak (Kd.R_lower (Kd.R_new' ho0 (Kd.R_lt (rdl HO573))) (below_size (belowd HB))); replace HO573 := ak (Kd.R_elder' (rdl HO573) (Kd.R_base ho0) hb); replace HB := ak (below_step (belowd HB) hb); (try clear hb); (try clear ho0)) | (go_at_call 88; (with_reducible refine (spec_SortTexts.calls kj51 _ _ t571 t578 t579 _ ?side1 ?side2 A82.out).mono ?_); (case side1 => exact cd (Kd.R_reads' HO573.out).2.2); (case side2 => exact (Kd.R_reads' HO573.out).2.1); rintro e w93 ⟨v580, rfl, ho0, hb⟩; have HO581 := ak (Kd.R_lower (Kd.R_new' (Kd.R_new' ho0 (Kd.R_lt (rdl HO573))) (Kd.R_lt (rdl HO577))) (below_size (belowd HB))); replace HO573 := ak (Kd.R_elder' (rdl HO573) (Kd.R_base ho0) hb); replace HO577 := ak (Kd.R_elder' (rdl HO577) (Kd.R_base ho0) hb); replace HB := ak (below_step (belowd HB) hb); (try clear hb); (try clear ho0)) | (go_at_call 89; (with_reducible refine (spec_DrawSetSize.calls kj51 _ _ l1 t582 t583 _ ?side1 ?side2 A83.out).mono ?_); (case side1 => exact cd (Kd.C_below HR1.out HB.out)); (case side2 => exact HC1.out); rintro e w94 ⟨v584, rfl, ho0, hb⟩; have HO585 := ak (Kd.S_lower (Kd.S_new' (Kd.S_new' (Kd.S_new' ho0 (Kd.R_lt (rdl HO573))) (Kd.R_lt (rdl HO577))) (Kd.R_lt (rdl HO581))) (below_size (belowd HB))); replace HO573 := ak (Kd.R_below (rdl HO573) hb); replace HO577 := ak (Kd.R_below (rdl HO577) hb); replace HO581 := ak (Kd.R_below (rdl HO581) hb); replace HB := ak (below_step (belowd HB) hb); (try clear hb); (try clear ho0); obtain ⟨Ao95, co95, eo95⟩ := Kd.S_slice HO585.out; subst eo95) | (go_at_call 90; (with_reducible refine (impl_SetSize.calls _ _ t582 t583 t586 t587 _ ?side1 ?side2 A84.out).mono ?_); (case side1 => exact cd (Kd.S_reads' HO585.out).2.2); (case side2 => exact (Kd.S_reads' HO585.out).2.1); rintro e w' ⟨rfl, ⟨nd, rfl⟩⟩; (try first | exact ⟨rfl, _, World.drewN_drewN _ _ _⟩ | exact ⟨rfl, _, Eq.trans (World.drewN_drewN _ _ _) (congrArg (World.drewN _) (Nat.add_assoc _ _ _))⟩)) | (go_at_call 91; (with_reducible refine (spec_SetSize.calls _ _ t582 t583 t588 t589 _ ?side1 ?side2 A85.out).mono ?_); (case side1 => exact cd (Kd.S_reads' HO585.out).2.2); (case side2 => exact (Kd.S_reads' HO585.out).2.1); rintro e w' ⟨rfl, ⟨nd, rfl⟩⟩; (try first | exact ⟨rfl, _, World.drewN_drewN _ _ _⟩ | exact ⟨rfl, _, Eq.trans (World.drewN_drewN _ _ _) (congrArg (World.drewN _) (Nat.add_assoc _ _ _))⟩); obtain ⟨Ao96, co96, eo96⟩ := Kd.R_slice HO577.out; subst eo96; obtain ⟨Ao97, co97, eo97⟩ := Kd.R_slice HO581.out; subst eo97) | (go_at_call 84; (with_reducible refine (laws_sameTexts.calls kj51 _ _ t574 _ _ t578 true _ ?side1 ?side2 ?side3 ?side4 A87.out).mono ?_); (case side1 => exact cd (Kd.R_reads' HO577.out).2.2); (case side2 => exact (Kd.R_reads' HO577.out).2.1); (case side3 => exact cd (Kd.R_reads' HO581.out).2.2); (case side4 => exact (Kd.R_reads' HO581.out).2.1); rintro e w' ⟨rfl, ⟨nd, rfl⟩⟩; (try first | exact ⟨rfl, _, World.drewN_drewN _ _ _⟩ | exact ⟨rfl, _, Eq.trans (World.drewN_drewN _ _ _) (congrArg (World.drewN _) (Nat.add_assoc _ _ _))⟩))); try go_wp2_with (first | (go_at_call 86; (with_reducible refine (spec_DrawSortTexts.calls kj51 _ _ l1 t571 _ ?side1 ?side2 A80.out).mono ?_); (case side1 => exact cd (Kd.C_below HR1.out HB.out)); (case side2 => exact HC1.out); rintro e w90 ⟨v572, rfl, ho0, hb⟩; have HO573 := ak (Kd.R_lower ho0 (below_size (belowd HB))); replace HB := ak (below_step (belowd HB) hb); (try clear hb); (try clear ho0); obtain ⟨Ao91, co91, eo91⟩ := Kd.R_slice HO573.out; subst eo91) | (go_at_call 87; (with_reducible refine (impl_SortTexts.calls kj51 _ _ t571 t574 t575 _ ?side1 ?side2 A81.out).mono ?_); (case side1 => exact cd (Kd.R_reads' HO573.out).2.2); (case side2 => exact (Kd.R_reads' HO573.out).2.1); rintro e w92 ⟨v576, rfl, ho0, hb⟩; have HO577 := ak (Kd.R_lower (Kd.R_new' ho0 (Kd.R_lt (rdl HO573))) (below_size (belowd HB))); replace HO573 := ak (Kd.R_elder' (rdl HO573) (Kd.R_base ho0) hb); replace HB := ak (below_step (belowd HB) hb); (try clear hb); (try clear ho0)) | (go_at_call 88; (with_reducible refine (spec_SortTexts.calls kj51 _ _ t571 t578 t579 _ ?side1 ?side2 A82.out).mono ?_); (case side1 => exact cd (Kd.R_reads' HO573.out).2.2); (case side2 => exact (Kd.R_reads' HO573.out).2.1); rintro e w93 ⟨v580, rfl, ho0, hb⟩; have HO581 := ak (Kd.R_lower (Kd.R_new' (Kd.R_new' ho0 (Kd.R_lt (rdl HO573))) (Kd.R_lt (rdl HO577))) (below_size (belowd HB))); replace HO573 := ak (Kd.R_elder' (rdl HO573) (Kd.R_base ho0) hb); replace HO577 := ak (Kd.R_elder' (rdl HO577) (Kd.R_base ho0) hb); replace HB := ak (below_step (belowd HB) hb); (try clear hb); (try clear ho0)) | (go_at_call 89; (with_reducible refine (spec_DrawSetSize.calls kj51 _ _ l1 t582 t583 _ ?side1 ?side2 A83.out).mono ?_); (case side1 => exact cd (Kd.C_below HR1.out HB.out)); (case side2 => exact HC1.out); rintro e w94 ⟨v584, rfl, ho0, hb⟩; have HO585 := ak (Kd.S_lower (Kd.S_new' (Kd.S_new' (Kd.S_new' ho0 (Kd.R_lt (rdl HO573))) (Kd.R_lt (rdl HO577))) (Kd.R_lt (rdl HO581))) (below_size (belowd HB))); replace HO573 := ak (Kd.R_below (rdl HO573) hb); replace HO577 := ak (Kd.R_below (rdl HO577) hb); replace HO581 := ak (Kd.R_below (rdl HO581) hb); replace HB := ak (below_step (belowd HB) hb); (try clear hb); (try clear ho0); obtain ⟨Ao95, co95, eo95⟩ := Kd.S_slice HO585.out; subst eo95) | (go_at_call 90; (with_reducible refine (impl_SetSize.calls _ _ t582 t583 t586 t587 _ ?side1 ?side2 A84.out).mono ?_); (case side1 => exact cd (Kd.S_reads' HO585.out).2.2); (case side2 => exact (Kd.S_reads' HO585.out).2.1); rintro e w' ⟨rfl, ⟨nd, rfl⟩⟩; (try first | exact ⟨rfl, _, World.drewN_drewN _ _ _⟩ | exact ⟨rfl, _, Eq.trans (World.drewN_drewN _ _ _) (congrArg (World.drewN _) (Nat.add_assoc _ _ _))⟩)) | (go_at_call 91; (with_reducible refine (spec_SetSize.calls _ _ t582 t583 t588 t589 _ ?side1 ?side2 A85.out).mono ?_); (case side1 => exact cd (Kd.S_reads' HO585.out).2.2); (case side2 => exact (Kd.S_reads' HO585.out).2.1); rintro e w' ⟨rfl, ⟨nd, rfl⟩⟩; (try first | exact ⟨rfl, _, World.drewN_drewN _ _ _⟩ | exact ⟨rfl, _, Eq.trans (World.drewN_drewN _ _ _) (congrArg (World.drewN _) (Nat.add_assoc _ _ _))⟩); obtain ⟨Ao96, co96, eo96⟩ := Kd.R_slice HO577.out; subst eo96; obtain ⟨Ao97, co97, eo97⟩ := Kd.R_slice HO581.out; subst eo97) | (go_at_call 84; (with_reducible refine (laws_sameTexts.calls kj51 _ _ t574 _ _ t578 true _ ?side1 ?side2 ?side3 ?side4 A87.out).mono ?_); (case side1 => exact cd (Kd.R_reads' HO577.out).2.2); (case side2 => exact (Kd.R_reads' HO577.out).2.1); (case side3 => exact cd (Kd.R_reads' HO581.out).2.2); (case side4 => exact (Kd.R_reads' HO581.out).2.1); rintro e w' ⟨rfl, ⟨nd, rfl⟩⟩; (try first | exact ⟨rfl, _, World.drewN_drewN _ _ _⟩ | exact ⟨rfl, _, Eq.trans (World.drewN_drewN _ _ _) (congrArg (World.drewN _) (Nat.add_assoc _ _ _))⟩))))
                  go_ret
                  exact ⟨er2, belowd HB⟩
                 ·rw [if_neg c89] at H
                  have c89b0 : (t587 == t589) = false := by simpa using c89
                  (try (have c89b1 : decide (t587 = t589) = false := by simpa using c89))
                  (try (have c89b2 : (t587 == t589) = false := by simpa using c89))
                  (try (have c89b3 : ¬ (t587 = t589) := by simpa using c89))
                  clear c89
                  exact absurd (H.trans (congrArg some hr_)) (by simp)
                ·replace c88 := Bool.eq_false_iff.mpr c88
                 subst c88
                 have H1 : (some false) = some r := by rw [if_neg (show ¬ (false = true) by decide)] at H; exact H
                 clear H
                 have H := H1
                 clear H1
                 exact absurd (H.trans (congrArg some hr_)) (by simp)
               ·rw [if_neg c86] at H
                have c86b0 : (t575 == t579) = false := by simpa using c86
                (try (have c86b1 : decide (t575 = t579) = false := by simpa using c86))
                (try (have c86b2 : (t575 == t579) = false := by simpa using c86))
                (try (have c86b3 : ¬ (t575 = t579) := by simpa using c86))
                clear c86
                exact absurd (H.trans (congrArg some hr_)) (by simp)

/-- THE ONE PURE STATEMENT of laws_FnMixes: yours. -/
def laws_FnMixes.Pure : Prop := ∀ (l0 : List Int) (l1 : List Int), l0.length ≤ maxLen → l0.length * 1 ≤ 140737488351232 → (∀ x ∈ l0, (Lit.int .u8 x).wf = true) → l1.length ≤ maxLen → l1.length * 1 ≤ 140737488351232 → (∀ x ∈ l1, (Lit.int .u8 x).wf = true) → ∃ k, laws_FnMixes.f k l0 l1 = some true
theorem laws_FnMixes.walk (P : laws_FnMixes.Pure) (a0 : Option Addr) (len0 cap0 : Nat) (z0 : List Int) (a1 : Option Addr) (len1 cap1 : Nat) (z1 : List Int) (w : World) (w0 : (a0 = none ∧ len0 = 0 ∧ cap0 = 0 ∧ z0 = []) ∨ ∃ x, a0 = some x ∧ len0 ≤ cap0 ∧ cap0 ≤ maxLen ∧ z0.length = cap0 ∧ (∀ i, i < z0.length → w.cell? (x.add i) = some (.int .u8 (z0.getD i 0))) ∧ ∀ n ∈ z0, (Lit.int .u8 n).wf = true) (y0 : len0 * 1 ≤ 140737488351232) (w1 : (a1 = none ∧ len1 = 0 ∧ cap1 = 0 ∧ z1 = []) ∨ ∃ x, a1 = some x ∧ len1 ≤ cap1 ∧ cap1 ≤ maxLen ∧ z1.length = cap1 ∧ (∀ i, i < z1.length → w.cell? (x.add i) = some (.int .u8 (z1.getD i 0))) ∧ ∀ n ∈ z1, (Lit.int .u8 n).wf = true) (y1 : len1 * 1 ≤ 140737488351232) :
  Calls Try.prog 12 #[.slice a0 len0 cap0, .slice a1 len1 cap1] w fun e w' => e = .returned (.bool true) ∧ Below w.heap.size w w' := by
 obtain ⟨l0, rfl, hr0, hm0, hw0, hc0⟩ := ReadsInt.ofRowC w0
 obtain ⟨l1, rfl, hr1, hm1, hw1, hc1⟩ := ReadsInt.ofRowC w1
 obtain ⟨k, h⟩ := P l0 l1 hm0 y0 hw0 hm1 y1 hw1
 refine (laws_FnMixes.calls k _ _ l0 _ _ l1 true w (Kd.C_of_reads (d := (0 : Int)) (h1 := fun _ => rfl) hr0) hc0 (Kd.C_of_reads (d := (0 : Int)) (h1 := fun _ => rfl) hr1) hc1 h rfl).mono ?_
 rintro e w' ⟨rfl, hd⟩
 exact ⟨rfl, hd⟩

end Go.Proofs.Ytkgogglnipdcfaa.QFnMixes
