-- printed by this session's own program (wip/tools/pp.py: the kit's print.py with changes); Lean checks it
import Derived.Test.YtpibdgknmjjolaaQFnGroupsx0
import Derived.Test.YtpibdgknmjjolaaQFnGroupsx2
import Derived.Test.YtpibdgknmjjolaaQFnGroupsx4
import Derived.Test.YtpibdgknmjjolaaQFnGroupsx5
import Derived.Test.YtpibdgknmjjolaaQFnGroupsx6
import Derived.Test.YtpibdgknmjjolaaQFnGroupsx7
import Derived.Test.YtpibdgknmjjolaaQFnGroupsx8
namespace Go.Proofs.Ytpibdgknmjjolaa.QFnGroups
open Go.RowKit Go.Proofs.YtpibdgknmjjolaaW.PrintWords Go.Proofs.YtpibdgknmjjolaaW.PrintLast Go.Proofs.YtpibdgknmjjolaaW.PrintMore
attribute [local go_sem] max2_int min2_int max_two min_two max_three min_three max_four min_four strLss strGtr strLeq strGeq   -- for this text's walks alone
set_option linter.unusedVariables false
set_option linter.unusedSimpArgs false

/-! ### laws_FnGroups: function 13 -/
mutual
def laws_FnGroups.j0 : Nat → List Int → List Int → List Int → Bool → Bool → Option (Bool)
  | 0, _, _, _, _, _ => none
  | k + 1, x1, x6, x7, x8, x65 => if x65 = true then (some false) else (if x8 = true then ((impl_SumOf.f k x7).bind fun bt471 => ((impl_SumOf.f k x6).bind fun bt473 => (if bt471.2 = true then (if bt473.2 = true then (if bt471.1 = bt473.1 then (laws_FnGroups.j1 k x1) else (some false)) else (some false)) else (some false)))) else (laws_FnGroups.j1 k x1))
def laws_FnGroups.j1 : Nat → List Int → Option (Bool)
  | 0, _ => none
  | k + 1, x1 => (spec_DrawWayBetween.f k x1).bind fun bt475 => ((impl_WayBetween.f k bt475.1 bt475.2.1 bt475.2.2.1 bt475.2.2.2.1 bt475.2.2.2.2).bind fun bt485 => ((spec_WayBetween.f k bt475.1 bt475.2.1 bt475.2.2.1 bt475.2.2.2.1 bt475.2.2.2.2).bind fun bt489 => ((impl_GroupsOf.f k bt475.1 bt475.2.1 bt475.2.2.1).bind fun bt493 => ((spec_GroupsOf.f k bt475.1 bt475.2.1 bt475.2.2.1).bind fun bt497 => (if (bt485.2 != bt489.2) = true then (laws_FnGroups.j2 k x1 bt475.2.2.2.1 bt475.2.2.2.2 bt485.1 bt485.2 bt493.1 bt493.2 true bt475.1 bt475.2.1 bt475.2.2.1) else ((laws_sameInts.f k bt485.1 bt489.1).bind fun t501 => (if t501 = true then (if (bt493.2 != bt497.2) = true then (laws_FnGroups.j2 k x1 bt475.2.2.2.1 bt475.2.2.2.2 bt485.1 bt485.2 bt493.1 bt493.2 true bt475.1 bt475.2.1 bt475.2.2.1) else ((laws_sameRows.f k bt493.1 bt497.1).bind fun t502 => (laws_FnGroups.j2 k x1 bt475.2.2.2.1 bt475.2.2.2.2 bt485.1 bt485.2 bt493.1 bt493.2 (!t502) bt475.1 bt475.2.1 bt475.2.2.1))) else (laws_FnGroups.j2 k x1 bt475.2.2.2.1 bt475.2.2.2.2 bt485.1 bt485.2 bt493.1 bt493.2 true bt475.1 bt475.2.1 bt475.2.2.1))))))))
def laws_FnGroups.j2 : Nat → List Int → Int → Int → List Int → Bool → List (List Int) → Bool → Bool → Int → List (List Int) → List Int → Option (Bool)
  | 0, _, _, _, _, _, _, _, _, _, _, _ => none
  | k + 1, x1, x16, x17, x18, x19, x22, x23, x137, x485000, x485001, x485002 => if x137 = true then (some false) else (if x23 = true then (laws_FnGroups.l0 k x1 x16 x17 x18 x19 x22 0 (x22.length : Int) 0 x485000 x485001 x485002) else ((spec_DrawSumOf.f k x1).bind fun t513 => ((impl_SumOf.f k t513).bind fun bt516 => ((spec_SumOf.f k t513).bind fun bt518 => (if (bt516.2 == bt518.2) = true then (some (bt516.1 == bt518.1)) else (some false))))))
def laws_FnGroups.l0 : Nat → List Int → Int → Int → List Int → Bool → List (List Int) → Int → Int → Int → Int → List (List Int) → List Int → Option (Bool)
  | 0, _, _, _, _, _, _, _, _, _, _, _, _ => none
  | k + 1, x1, x16, x17, x18, x19, x22, x26, x140, x141, x485000, x485001, x485002 => if x141 < x140 then (if 0 ≤ x141 then (if x141 < (x22.length : Int) then ((laws_has.f k (rd_L1 x22 x141) x16).bind fun t504 => (if t504 = true then ((laws_has.f k (rd_L1 x22 x141) x17).bind fun t505 => (if (t505 != x19) = true then (if x17 ≥ 0 then (if x17 < x485000 then (some false) else (laws_FnGroups.l0 k x1 x16 x17 x18 x19 x22 (wrap64 (x26 + ((rd_L1 x22 x141).length : Int))) x140 (wrap64 (x141 + 1)) x485000 x485001 x485002)) else (laws_FnGroups.l0 k x1 x16 x17 x18 x19 x22 (wrap64 (x26 + ((rd_L1 x22 x141).length : Int))) x140 (wrap64 (x141 + 1)) x485000 x485001 x485002)) else (laws_FnGroups.l0 k x1 x16 x17 x18 x19 x22 (wrap64 (x26 + ((rd_L1 x22 x141).length : Int))) x140 (wrap64 (x141 + 1)) x485000 x485001 x485002))) else (laws_FnGroups.l0 k x1 x16 x17 x18 x19 x22 (wrap64 (x26 + ((rd_L1 x22 x141).length : Int))) x140 (wrap64 (x141 + 1)) x485000 x485001 x485002))) else (none)) else (none)) else (if x26 = x485000 then (if x19 = true then (laws_FnGroups.j4 k x1 (decide ((x18.length : Int) ≥ x485000))) else (laws_FnGroups.j4 k x1 false)) else (laws_FnGroups.j4 k x1 true))
def laws_FnGroups.j4 : Nat → List Int → Bool → Option (Bool)
  | 0, _, _ => none
  | k + 1, x1, x183 => if x183 = true then (some false) else ((spec_DrawSumOf.f k x1).bind fun t506 => ((impl_SumOf.f k t506).bind fun bt509 => ((spec_SumOf.f k t506).bind fun bt511 => (if (bt509.2 == bt511.2) = true then (some (bt509.1 == bt511.1)) else (some false)))))
end
def laws_FnGroups.f (k : Nat) (l0 : List Int) (l1 : List Int) : Option (Bool) := if (wrap64 ((l0.length : Int) + (l1.length : Int))) > 1048576 then (some true) else ((spec_DrawTogetherSay.f k l0).bind fun bt451 => ((impl_TogetherSay.f k bt451.1 bt451.2.1 bt451.2.2.1 bt451.2.2.2).bind fun bt462 => ((spec_TogetherSay.f k bt451.1 bt451.2.1 bt451.2.2.1 bt451.2.2.2).bind fun bt466 => (if (bt462.2 != bt466.2) = true then (laws_FnGroups.j0 k l1 bt451.2.2.2 bt462.1 bt462.2 true) else ((laws_sameInts.f k bt462.1 bt466.1).bind fun t470 => (laws_FnGroups.j0 k l1 bt451.2.2.2 bt462.1 bt462.2 (!t470)))))))
theorem laws_FnGroups.mono_l : ∀ k, (∀ y0 y1 y2 y3 y4, LeO (laws_FnGroups.j0 k y0 y1 y2 y3 y4) (laws_FnGroups.j0 (k + 1) y0 y1 y2 y3 y4)) ∧ (∀ y0, LeO (laws_FnGroups.j1 k y0) (laws_FnGroups.j1 (k + 1) y0)) ∧ (∀ y0 y1 y2 y3 y4 y5 y6 y7 y8 y9 y10, LeO (laws_FnGroups.j2 k y0 y1 y2 y3 y4 y5 y6 y7 y8 y9 y10) (laws_FnGroups.j2 (k + 1) y0 y1 y2 y3 y4 y5 y6 y7 y8 y9 y10)) ∧ (∀ y0 y1 y2 y3 y4 y5 y6 y7 y8 y9 y10 y11, LeO (laws_FnGroups.l0 k y0 y1 y2 y3 y4 y5 y6 y7 y8 y9 y10 y11) (laws_FnGroups.l0 (k + 1) y0 y1 y2 y3 y4 y5 y6 y7 y8 y9 y10 y11)) ∧ (∀ y0 y1, LeO (laws_FnGroups.j4 k y0 y1) (laws_FnGroups.j4 (k + 1) y0 y1))
 | 0 => ⟨fun _ _ _ _ _ r h => by simp [laws_FnGroups.j0] at h, fun _ r h => by simp [laws_FnGroups.j1] at h, fun _ _ _ _ _ _ _ _ _ _ _ r h => by simp [laws_FnGroups.j2] at h, fun _ _ _ _ _ _ _ _ _ _ _ _ r h => by simp [laws_FnGroups.l0] at h, fun _ _ r h => by simp [laws_FnGroups.j4] at h⟩
 | k + 1 => by
  obtain ⟨ih0, ih1, ih2, ih3, ih4⟩ := laws_FnGroups.mono_l k
  refine ⟨?_, ?_, ?_, ?_, ?_⟩
  ·intro y0 y1 y2 y3 y4
   unfold laws_FnGroups.j0
   repeat' (first | (with_reducible first | exact ih0 _ _ _ _ _ | exact ih1 _ | exact ih2 _ _ _ _ _ _ _ _ _ _ _ | exact ih3 _ _ _ _ _ _ _ _ _ _ _ _ | exact ih4 _ _ | exact impl_GroupsOf.mono _ _ _ _ | exact impl_SumOf.mono _ _ | exact impl_TogetherSay.mono _ _ _ _ _ | exact impl_WayBetween.mono _ _ _ _ _ _ | exact laws_has.mono _ _ _ | exact laws_sameInts.mono _ _ _ | exact laws_sameRows.mono _ _ _ | exact spec_DrawSumOf.mono _ _ | exact spec_DrawTogetherSay.mono _ _ | exact spec_DrawWayBetween.mono _ _ | exact spec_GroupsOf.mono _ _ _ _ | exact spec_SumOf.mono _ _ | exact spec_TogetherSay.mono _ _ _ _ _ | exact spec_WayBetween.mono _ _ _ _ _ _ | exact LeO.refl _ | exact LeO.none _ | refine LeO.ite ?_ ?_ | refine LeO.bind ?_ (fun _ => ?_)) | exact ih0 _ _ _ _ _ | exact ih1 _ | exact ih2 _ _ _ _ _ _ _ _ _ _ _ | exact ih3 _ _ _ _ _ _ _ _ _ _ _ _ | exact ih4 _ _ | exact impl_GroupsOf.mono _ _ _ _ | exact impl_SumOf.mono _ _ | exact impl_TogetherSay.mono _ _ _ _ _ | exact impl_WayBetween.mono _ _ _ _ _ _ | exact laws_has.mono _ _ _ | exact laws_sameInts.mono _ _ _ | exact laws_sameRows.mono _ _ _ | exact spec_DrawSumOf.mono _ _ | exact spec_DrawTogetherSay.mono _ _ | exact spec_DrawWayBetween.mono _ _ | exact spec_GroupsOf.mono _ _ _ _ | exact spec_SumOf.mono _ _ | exact spec_TogetherSay.mono _ _ _ _ _ | exact spec_WayBetween.mono _ _ _ _ _ _ | exact LeO.none _ | refine LeO.ite ?_ ?_ | refine LeO.bind ?_ (fun _ => ?_))
  ·intro y0
   unfold laws_FnGroups.j1
   repeat' (first | (with_reducible first | exact ih0 _ _ _ _ _ | exact ih1 _ | exact ih2 _ _ _ _ _ _ _ _ _ _ _ | exact ih3 _ _ _ _ _ _ _ _ _ _ _ _ | exact ih4 _ _ | exact impl_GroupsOf.mono _ _ _ _ | exact impl_SumOf.mono _ _ | exact impl_TogetherSay.mono _ _ _ _ _ | exact impl_WayBetween.mono _ _ _ _ _ _ | exact laws_has.mono _ _ _ | exact laws_sameInts.mono _ _ _ | exact laws_sameRows.mono _ _ _ | exact spec_DrawSumOf.mono _ _ | exact spec_DrawTogetherSay.mono _ _ | exact spec_DrawWayBetween.mono _ _ | exact spec_GroupsOf.mono _ _ _ _ | exact spec_SumOf.mono _ _ | exact spec_TogetherSay.mono _ _ _ _ _ | exact spec_WayBetween.mono _ _ _ _ _ _ | exact LeO.refl _ | exact LeO.none _ | refine LeO.ite ?_ ?_ | refine LeO.bind ?_ (fun _ => ?_)) | exact ih0 _ _ _ _ _ | exact ih1 _ | exact ih2 _ _ _ _ _ _ _ _ _ _ _ | exact ih3 _ _ _ _ _ _ _ _ _ _ _ _ | exact ih4 _ _ | exact impl_GroupsOf.mono _ _ _ _ | exact impl_SumOf.mono _ _ | exact impl_TogetherSay.mono _ _ _ _ _ | exact impl_WayBetween.mono _ _ _ _ _ _ | exact laws_has.mono _ _ _ | exact laws_sameInts.mono _ _ _ | exact laws_sameRows.mono _ _ _ | exact spec_DrawSumOf.mono _ _ | exact spec_DrawTogetherSay.mono _ _ | exact spec_DrawWayBetween.mono _ _ | exact spec_GroupsOf.mono _ _ _ _ | exact spec_SumOf.mono _ _ | exact spec_TogetherSay.mono _ _ _ _ _ | exact spec_WayBetween.mono _ _ _ _ _ _ | exact LeO.none _ | refine LeO.ite ?_ ?_ | refine LeO.bind ?_ (fun _ => ?_))
  ·intro y0 y1 y2 y3 y4 y5 y6 y7 y8 y9 y10
   unfold laws_FnGroups.j2
   repeat' (first | (with_reducible first | exact ih0 _ _ _ _ _ | exact ih1 _ | exact ih2 _ _ _ _ _ _ _ _ _ _ _ | exact ih3 _ _ _ _ _ _ _ _ _ _ _ _ | exact ih4 _ _ | exact impl_GroupsOf.mono _ _ _ _ | exact impl_SumOf.mono _ _ | exact impl_TogetherSay.mono _ _ _ _ _ | exact impl_WayBetween.mono _ _ _ _ _ _ | exact laws_has.mono _ _ _ | exact laws_sameInts.mono _ _ _ | exact laws_sameRows.mono _ _ _ | exact spec_DrawSumOf.mono _ _ | exact spec_DrawTogetherSay.mono _ _ | exact spec_DrawWayBetween.mono _ _ | exact spec_GroupsOf.mono _ _ _ _ | exact spec_SumOf.mono _ _ | exact spec_TogetherSay.mono _ _ _ _ _ | exact spec_WayBetween.mono _ _ _ _ _ _ | exact LeO.refl _ | exact LeO.none _ | refine LeO.ite ?_ ?_ | refine LeO.bind ?_ (fun _ => ?_)) | exact ih0 _ _ _ _ _ | exact ih1 _ | exact ih2 _ _ _ _ _ _ _ _ _ _ _ | exact ih3 _ _ _ _ _ _ _ _ _ _ _ _ | exact ih4 _ _ | exact impl_GroupsOf.mono _ _ _ _ | exact impl_SumOf.mono _ _ | exact impl_TogetherSay.mono _ _ _ _ _ | exact impl_WayBetween.mono _ _ _ _ _ _ | exact laws_has.mono _ _ _ | exact laws_sameInts.mono _ _ _ | exact laws_sameRows.mono _ _ _ | exact spec_DrawSumOf.mono _ _ | exact spec_DrawTogetherSay.mono _ _ | exact spec_DrawWayBetween.mono _ _ | exact spec_GroupsOf.mono _ _ _ _ | exact spec_SumOf.mono _ _ | exact spec_TogetherSay.mono _ _ _ _ _ | exact spec_WayBetween.mono _ _ _ _ _ _ | exact LeO.none _ | refine LeO.ite ?_ ?_ | refine LeO.bind ?_ (fun _ => ?_))
  ·intro y0 y1 y2 y3 y4 y5 y6 y7 y8 y9 y10 y11
   unfold laws_FnGroups.l0
   repeat' (first | (with_reducible first | exact ih0 _ _ _ _ _ | exact ih1 _ | exact ih2 _ _ _ _ _ _ _ _ _ _ _ | exact ih3 _ _ _ _ _ _ _ _ _ _ _ _ | exact ih4 _ _ | exact impl_GroupsOf.mono _ _ _ _ | exact impl_SumOf.mono _ _ | exact impl_TogetherSay.mono _ _ _ _ _ | exact impl_WayBetween.mono _ _ _ _ _ _ | exact laws_has.mono _ _ _ | exact laws_sameInts.mono _ _ _ | exact laws_sameRows.mono _ _ _ | exact spec_DrawSumOf.mono _ _ | exact spec_DrawTogetherSay.mono _ _ | exact spec_DrawWayBetween.mono _ _ | exact spec_GroupsOf.mono _ _ _ _ | exact spec_SumOf.mono _ _ | exact spec_TogetherSay.mono _ _ _ _ _ | exact spec_WayBetween.mono _ _ _ _ _ _ | exact LeO.refl _ | exact LeO.none _ | refine LeO.ite ?_ ?_ | refine LeO.bind ?_ (fun _ => ?_)) | exact ih0 _ _ _ _ _ | exact ih1 _ | exact ih2 _ _ _ _ _ _ _ _ _ _ _ | exact ih3 _ _ _ _ _ _ _ _ _ _ _ _ | exact ih4 _ _ | exact impl_GroupsOf.mono _ _ _ _ | exact impl_SumOf.mono _ _ | exact impl_TogetherSay.mono _ _ _ _ _ | exact impl_WayBetween.mono _ _ _ _ _ _ | exact laws_has.mono _ _ _ | exact laws_sameInts.mono _ _ _ | exact laws_sameRows.mono _ _ _ | exact spec_DrawSumOf.mono _ _ | exact spec_DrawTogetherSay.mono _ _ | exact spec_DrawWayBetween.mono _ _ | exact spec_GroupsOf.mono _ _ _ _ | exact spec_SumOf.mono _ _ | exact spec_TogetherSay.mono _ _ _ _ _ | exact spec_WayBetween.mono _ _ _ _ _ _ | exact LeO.none _ | refine LeO.ite ?_ ?_ | refine LeO.bind ?_ (fun _ => ?_))
  ·intro y0 y1
   unfold laws_FnGroups.j4
   repeat' (first | (with_reducible first | exact ih0 _ _ _ _ _ | exact ih1 _ | exact ih2 _ _ _ _ _ _ _ _ _ _ _ | exact ih3 _ _ _ _ _ _ _ _ _ _ _ _ | exact ih4 _ _ | exact impl_GroupsOf.mono _ _ _ _ | exact impl_SumOf.mono _ _ | exact impl_TogetherSay.mono _ _ _ _ _ | exact impl_WayBetween.mono _ _ _ _ _ _ | exact laws_has.mono _ _ _ | exact laws_sameInts.mono _ _ _ | exact laws_sameRows.mono _ _ _ | exact spec_DrawSumOf.mono _ _ | exact spec_DrawTogetherSay.mono _ _ | exact spec_DrawWayBetween.mono _ _ | exact spec_GroupsOf.mono _ _ _ _ | exact spec_SumOf.mono _ _ | exact spec_TogetherSay.mono _ _ _ _ _ | exact spec_WayBetween.mono _ _ _ _ _ _ | exact LeO.refl _ | exact LeO.none _ | refine LeO.ite ?_ ?_ | refine LeO.bind ?_ (fun _ => ?_)) | exact ih0 _ _ _ _ _ | exact ih1 _ | exact ih2 _ _ _ _ _ _ _ _ _ _ _ | exact ih3 _ _ _ _ _ _ _ _ _ _ _ _ | exact ih4 _ _ | exact impl_GroupsOf.mono _ _ _ _ | exact impl_SumOf.mono _ _ | exact impl_TogetherSay.mono _ _ _ _ _ | exact impl_WayBetween.mono _ _ _ _ _ _ | exact laws_has.mono _ _ _ | exact laws_sameInts.mono _ _ _ | exact laws_sameRows.mono _ _ _ | exact spec_DrawSumOf.mono _ _ | exact spec_DrawTogetherSay.mono _ _ | exact spec_DrawWayBetween.mono _ _ | exact spec_GroupsOf.mono _ _ _ _ | exact spec_SumOf.mono _ _ | exact spec_TogetherSay.mono _ _ _ _ _ | exact spec_WayBetween.mono _ _ _ _ _ _ | exact LeO.none _ | refine LeO.ite ?_ ?_ | refine LeO.bind ?_ (fun _ => ?_))
theorem laws_FnGroups.mono : ∀ a0 a1 k, LeO (laws_FnGroups.f k a0 a1) (laws_FnGroups.f (k + 1) a0 a1) := by
 intro a0 a1 k
 obtain ⟨ih0, ih1, ih2, ih3, ih4⟩ := laws_FnGroups.mono_l k
 unfold laws_FnGroups.f
 repeat' (first | (with_reducible first | exact ih0 _ _ _ _ _ | exact ih1 _ | exact ih2 _ _ _ _ _ _ _ _ _ _ _ | exact ih3 _ _ _ _ _ _ _ _ _ _ _ _ | exact ih4 _ _ | exact impl_GroupsOf.mono _ _ _ _ | exact impl_SumOf.mono _ _ | exact impl_TogetherSay.mono _ _ _ _ _ | exact impl_WayBetween.mono _ _ _ _ _ _ | exact laws_has.mono _ _ _ | exact laws_sameInts.mono _ _ _ | exact laws_sameRows.mono _ _ _ | exact spec_DrawSumOf.mono _ _ | exact spec_DrawTogetherSay.mono _ _ | exact spec_DrawWayBetween.mono _ _ | exact spec_GroupsOf.mono _ _ _ _ | exact spec_SumOf.mono _ _ | exact spec_TogetherSay.mono _ _ _ _ _ | exact spec_WayBetween.mono _ _ _ _ _ _ | exact LeO.refl _ | exact LeO.none _ | refine LeO.ite ?_ ?_ | refine LeO.bind ?_ (fun _ => ?_)) | exact ih0 _ _ _ _ _ | exact ih1 _ | exact ih2 _ _ _ _ _ _ _ _ _ _ _ | exact ih3 _ _ _ _ _ _ _ _ _ _ _ _ | exact ih4 _ _ | exact impl_GroupsOf.mono _ _ _ _ | exact impl_SumOf.mono _ _ | exact impl_TogetherSay.mono _ _ _ _ _ | exact impl_WayBetween.mono _ _ _ _ _ _ | exact laws_has.mono _ _ _ | exact laws_sameInts.mono _ _ _ | exact laws_sameRows.mono _ _ _ | exact spec_DrawSumOf.mono _ _ | exact spec_DrawTogetherSay.mono _ _ | exact spec_DrawWayBetween.mono _ _ | exact spec_GroupsOf.mono _ _ _ _ | exact spec_SumOf.mono _ _ | exact spec_TogetherSay.mono _ _ _ _ _ | exact spec_WayBetween.mono _ _ _ _ _ _ | exact LeO.none _ | refine LeO.ite ?_ ?_ | refine LeO.bind ?_ (fun _ => ?_))
set_option maxHeartbeats 40000000 in
set_option maxRecDepth 100000 in
theorem laws_FnGroups.calls (k : Nat) (A0 : Option Addr) (c0 : Nat) (l0 : List Int) (A1 : Option Addr) (c1 : Nat) (l1 : List Int) (r : Bool) (w : World) (hr0 : Kd.C (Kd.int .u8) w A0 l0.length l0) (hc0 : l0.length ≤ c0) (hr1 : Kd.C (Kd.int .u8) w A1 l1.length l1) (hc1 : l1.length ≤ c1) (h : laws_FnGroups.f k l0 l1 = some r) (hr_ : r = true) :
  Calls Try.prog 13 #[.slice A0 l0.length c0, .slice A1 l1.length c1] w fun e w' => e = .returned (.bool r) ∧ Below w.heap.size w w' := by
 have hu38 := Try.underlying38
 have HR0 := Aside0.mk hr0; have HC0 := Aside0.mk hc0; clear hr0 hc0; have HR1 := Aside0.mk hr1; have HC1 := Aside0.mk hc1; clear hr1 hc1
 have HB := Aside0.mk (Below.refl w.heap.size w)
 have H : (if (wrap64 ((l0.length : Int) + (l1.length : Int))) > 1048576 then (some true) else ((spec_DrawTogetherSay.f k l0).bind fun bt451 => ((impl_TogetherSay.f k bt451.1 bt451.2.1 bt451.2.2.1 bt451.2.2.2).bind fun bt462 => ((spec_TogetherSay.f k bt451.1 bt451.2.1 bt451.2.2.1 bt451.2.2.2).bind fun bt466 => (if (bt462.2 != bt466.2) = true then (laws_FnGroups.j0 k l1 bt451.2.2.2 bt462.1 bt462.2 true) else ((laws_sameInts.f k bt462.1 bt466.1).bind fun t470 => (laws_FnGroups.j0 k l1 bt451.2.2.2 bt462.1 bt462.2 (!t470)))))))) = some r := h
 clear h
 by_cases c3 : (wrap64 ((l0.length : Int) + (l1.length : Int))) > 1048576
 ·rw [if_pos c3] at H
  have c3b0 : decide (1048576 < (wrap64 ((l0.length : Int) + (l1.length : Int)))) = true := decide_eq_true c3
  clear c3
  obtain rfl := Option.some.inj H
  go_enter Try.func13, Try.ntmps13
  go_wp2
  go_ret
  exact ⟨er2, belowd HB⟩
 ·rw [if_neg c3] at H
  have c3b0 : decide (1048576 < (wrap64 ((l0.length : Int) + (l1.length : Int)))) = false := decide_eq_false c3
  clear c3; replace H := bS H; obtain ⟨⟨t451, t452, t455, t458⟩, A4, H⟩ := H
  replace H : ((impl_TogetherSay.f k t451 t452 t455 t458).bind fun bt462 => ((spec_TogetherSay.f k t451 t452 t455 t458).bind fun bt466 => (if (bt462.2 != bt466.2) = true then (laws_FnGroups.j0 k l1 t458 bt462.1 bt462.2 true) else ((laws_sameInts.f k bt462.1 bt466.1).bind fun t470 => (laws_FnGroups.j0 k l1 t458 bt462.1 bt462.2 (!t470)))))) = some r := H
  replace H := bS H; obtain ⟨⟨t462, t465⟩, A5, H⟩ := H
  replace H : ((spec_TogetherSay.f k t451 t452 t455 t458).bind fun bt466 => (if (t465 != bt466.2) = true then (laws_FnGroups.j0 k l1 t458 t462 t465 true) else ((laws_sameInts.f k t462 bt466.1).bind fun t470 => (laws_FnGroups.j0 k l1 t458 t462 t465 (!t470))))) = some r := H
  replace H := bS H; obtain ⟨⟨t466, t469⟩, A6, H⟩ := H
  replace H : (if (t465 != t469) = true then (laws_FnGroups.j0 k l1 t458 t462 t465 true) else ((laws_sameInts.f k t462 t466).bind fun t470 => (laws_FnGroups.j0 k l1 t458 t462 t465 (!t470)))) = some r := H
  have HC7 := Aside0.mk H; clear H
  go_enter Try.func13, Try.ntmps13
  go_upto_region 6 with (first | ((with_reducible refine gate_callee (f := 67) rfl ?_); refine goesLa (some 42) rfl Try.func67 #[.slice A0 l0.length c0] rfl ?_; (with_reducible refine (spec_DrawTogetherSay.calls k _ _ l0 t451 t452 t455 t458 _ ?side1 ?side2 A4.out).mono ?_); (case side1 => exact cd HR0.out); (case side2 => exact HC0.out); rintro e w8 ⟨v453, v456, v459, rfl, ho0, ho1, ho2, hb⟩; refine ⟨_, rfl, ?_⟩; have HO454 := ak (Kd.S_lower ho0 (below_size (belowd HB))); have HO457 := ak (Kd.R_lower ho1 (below_size (belowd HB))); have HO460 := ak (Kd.R_lower ho2 (below_size (belowd HB))); replace HB := ak (below_step (belowd HB) hb); (try clear hb); (try clear ho0); (try clear ho1); (try clear ho2)) | ((with_reducible refine gate_dst (N := 5) rfl ?_); (try (refine gate_guard (by rfl) ?_; dsimp only)); refine boxev 5 #[.int .i64 0, .slice none 0 0, .slice none 0 0] 38 ?_; intro gb461 hg w9 hbox hb; replace HO454 := ak (Kd.S_below (sd HO454) hb); replace HO457 := ak (Kd.R_below (rdl HO457) hb); replace HO460 := ak (Kd.R_below (rdl HO460) hb); have BK461 := ak (hbox); have GW461 := ak (hgl hg (belowd HB)); have GE461 := ak (hgl hg (belowd HB)); replace HB := ak (below_step (belowd HB) hb); clear hb hbox hg; obtain ⟨hcz10_0, hcz10_1, hcz10_2, hfz10_0, hfz10_1, hfz10_2⟩ := box3 BK461; obtain ⟨Ao11, co11, eo11⟩ := Kd.S_slice HO454.out; subst eo11; obtain ⟨Ao12, co12, eo12⟩ := Kd.R_slice HO457.out; subst eo12; obtain ⟨Ao13, co13, eo13⟩ := Kd.R_slice HO460.out; subst eo13) | ((with_reducible refine gate_callee (f := 68) rfl ?_); refine goesLa (some 48) rfl Try.func68 #[.agg #[.int .i64 t451, .slice Ao11 t452.length co11, .slice Ao12 t455.length co12], .slice Ao13 t458.length co13] rfl ?_; (with_reducible refine (impl_TogetherSay.calls k t451 _ _ t452 _ _ t455 _ _ t458 t462 t465 _ ?side1 ?side2 ?side3 ?side4 ?side5 ?side6 A5.out).mono ?_); (case side1 => refine (Kd.S_reads' (e := 22) (base := w.heap.size) (ok := fun k_ => (some k_ ≠ (.slice Ao12 t455.length co12 : Value).ownBlock ∧ some k_ ≠ (.slice Ao13 t458.length co13 : Value).ownBlock)) (n := t452.length) (c := co11) ?_).2.2; exact (by (with_reducible repeat (first | apply Kd.S_alloc | apply Kd.S_drewN | apply Kd.S_drew)); exact (Kd.S_mono (Kd.S_far (p := ⟨gb461, 2, none⟩) (Kd.S_far (p := ⟨gb461, 1, none⟩) (Kd.S_far (p := ⟨gb461, 0, none⟩) (Kd.S_types HO454.out BK461.out (by decide)) (fun _ hk => hk.2) (.int .i64 t451)) (fun _ hk => hk.2) (.slice Ao11 t452.length co11)) (fun _ hk => hk.2) (.slice Ao12 t455.length co12)) (fun _ h_ => h_.1)))); (case side2 => exact (Kd.S_reads' HO454.out).2.1); (case side3 => refine (Kd.R_reads' (e := 3) (base := w.heap.size) (ok := fun k_ => some k_ ≠ (.slice Ao13 t458.length co13 : Value).ownBlock) (n := t455.length) (c := co12) ?_).2.2; exact (by (with_reducible repeat (first | apply Kd.R_alloc | apply Kd.R_drewN | apply Kd.R_drew)); exact (Kd.R_mono (Kd.R_far (p := ⟨gb461, 2, none⟩) (Kd.R_far (p := ⟨gb461, 1, none⟩) (Kd.R_far (p := ⟨gb461, 0, none⟩) (Kd.R_types HO457.out BK461.out (by decide)) (fun _ hk => hk.2) (.int .i64 t451)) (fun _ hk => hk.2) (.slice Ao11 t452.length co11)) (fun _ hk => hk.2) (.slice Ao12 t455.length co12)) (fun _ h_ => h_.1)))); (case side4 => exact (Kd.R_reads' HO457.out).2.1); (case side5 => refine (Kd.R_reads' (e := 3) (base := w.heap.size) (ok := fun k_ => some k_ ≠ (.slice Ao12 t455.length co12 : Value).ownBlock) (n := t458.length) (c := co13) ?_).2.2; exact (by (with_reducible repeat (first | apply Kd.R_alloc | apply Kd.R_drewN | apply Kd.R_drew)); exact (Kd.R_mono (Kd.R_far (p := ⟨gb461, 2, none⟩) (Kd.R_far (p := ⟨gb461, 1, none⟩) (Kd.R_far (p := ⟨gb461, 0, none⟩) (Kd.R_types HO460.out BK461.out (by decide)) (fun _ hk => hk.2) (.int .i64 t451)) (fun _ hk => hk.2) (.slice Ao11 t452.length co11)) (fun _ hk => hk.2) (.slice Ao12 t455.length co12)) (fun _ h_ => h_.1)))); (case side6 => exact (Kd.R_reads' HO460.out).2.1); rintro e w14 ⟨v463, rfl, ho0, hb⟩; refine ⟨_, rfl, ?_⟩; replace HO454 := ak (Kd.S_elder' (by (with_reducible repeat (first | apply Kd.S_alloc | apply Kd.S_drewN | apply Kd.S_drew)); exact (Kd.S_mono (Kd.S_far (p := ⟨gb461, 2, none⟩) (Kd.S_far (p := ⟨gb461, 1, none⟩) (Kd.S_far (p := ⟨gb461, 0, none⟩) (Kd.S_types HO454.out BK461.out (by decide)) (fun _ hk => hk.2) (.int .i64 t451)) (fun _ hk => hk.2) (.slice Ao11 t452.length co11)) (fun _ hk => hk.2) (.slice Ao12 t455.length co12)) (fun _ h_ => h_.1))) (Kd.R_base ho0) hb); have HO464 := ak (Kd.R_lower (Kd.R_new' (Kd.R_new' ho0 (Kd.R_lt (by (with_reducible repeat (first | apply Kd.R_alloc | apply Kd.R_drewN | apply Kd.R_drew)); exact (Kd.R_mono (Kd.R_far (p := ⟨gb461, 2, none⟩) (Kd.R_far (p := ⟨gb461, 1, none⟩) (Kd.R_far (p := ⟨gb461, 0, none⟩) (Kd.R_types HO457.out BK461.out (by decide)) (fun _ hk => hk.2) (.int .i64 t451)) (fun _ hk => hk.2) (.slice Ao11 t452.length co11)) (fun _ hk => hk.2) (.slice Ao12 t455.length co12)) (fun _ h_ => h_.1))))) (Kd.R_lt (by (with_reducible repeat (first | apply Kd.R_alloc | apply Kd.R_drewN | apply Kd.R_drew)); exact (Kd.R_mono (Kd.R_far (p := ⟨gb461, 2, none⟩) (Kd.R_far (p := ⟨gb461, 1, none⟩) (Kd.R_far (p := ⟨gb461, 0, none⟩) (Kd.R_types HO460.out BK461.out (by decide)) (fun _ hk => hk.2) (.int .i64 t451)) (fun _ hk => hk.2) (.slice Ao11 t452.length co11)) (fun _ hk => hk.2) (.slice Ao12 t455.length co12)) (fun _ h_ => h_.1))))) (below_size (belowg1 HB GE461))); replace HO457 := ak (Kd.R_elder' (by (with_reducible repeat (first | apply Kd.R_alloc | apply Kd.R_drewN | apply Kd.R_drew)); exact (Kd.R_mono (Kd.R_far (p := ⟨gb461, 2, none⟩) (Kd.R_far (p := ⟨gb461, 1, none⟩) (Kd.R_far (p := ⟨gb461, 0, none⟩) (Kd.R_types HO457.out BK461.out (by decide)) (fun _ hk => hk.2) (.int .i64 t451)) (fun _ hk => hk.2) (.slice Ao11 t452.length co11)) (fun _ hk => hk.2) (.slice Ao12 t455.length co12)) (fun _ h_ => h_.1))) (Kd.R_base ho0) hb); replace HO460 := ak (Kd.R_elder' (by (with_reducible repeat (first | apply Kd.R_alloc | apply Kd.R_drewN | apply Kd.R_drew)); exact (Kd.R_mono (Kd.R_far (p := ⟨gb461, 2, none⟩) (Kd.R_far (p := ⟨gb461, 1, none⟩) (Kd.R_far (p := ⟨gb461, 0, none⟩) (Kd.R_types HO460.out BK461.out (by decide)) (fun _ hk => hk.2) (.int .i64 t451)) (fun _ hk => hk.2) (.slice Ao11 t452.length co11)) (fun _ hk => hk.2) (.slice Ao12 t455.length co12)) (fun _ h_ => h_.1))) (Kd.R_base ho0) hb); replace BK461 := ak (blk_below (g := gb461) (o := .cells #[.int .i64 t451, .slice Ao11 t452.length co11, .slice Ao12 t455.length co12] 38 (0, 0)) (by (with_reducible repeat (first | refine blk_drewN ?_ _ | refine blk_drew ?_ | refine blk_alloc ?_ _)); refine blk_put (cs := #[.int .i64 t451, .slice Ao11 t452.length co11, .slice none 0 0]) ?_ 2 _ rfl; (with_reducible repeat (first | refine blk_drewN ?_ _ | refine blk_drew ?_ | refine blk_alloc ?_ _)); refine blk_put (cs := #[.int .i64 t451, .slice none 0 0, .slice none 0 0]) ?_ 1 _ rfl; (with_reducible repeat (first | refine blk_drewN ?_ _ | refine blk_drew ?_ | refine blk_alloc ?_ _)); refine blk_put (cs := #[.int .i64 0, .slice none 0 0, .slice none 0 0]) ?_ 0 _ rfl; (with_reducible repeat (first | refine blk_drewN ?_ _ | refine blk_drew ?_ | refine blk_alloc ?_ _)); exact BK461.out) hb); replace HB := ak (below_step (belowg1 HB GE461) hb); (try clear hb); (try clear ho0); obtain ⟨hcz15_0, hcz15_1, hcz15_2, hfz15_0, hfz15_1, hfz15_2⟩ := box3 BK461) | ((with_reducible refine gate_callee (f := 69) rfl ?_); refine goesLa (some 54) rfl Try.func69 #[.agg #[.int .i64 t451, .slice Ao11 t452.length co11, .slice Ao12 t455.length co12], .slice Ao13 t458.length co13] rfl ?_; (with_reducible refine (spec_TogetherSay.calls k t451 _ _ t452 _ _ t455 _ _ t458 t466 t469 _ ?side1 ?side2 ?side3 ?side4 ?side5 ?side6 A6.out).mono ?_); (case side1 => exact cd (Kd.S_reads' HO454.out).2.2); (case side2 => exact (Kd.S_reads' HO454.out).2.1); (case side3 => exact cd (Kd.R_reads' HO457.out).2.2); (case side4 => exact (Kd.R_reads' HO457.out).2.1); (case side5 => exact cd (Kd.R_reads' HO460.out).2.2); (case side6 => exact (Kd.R_reads' HO460.out).2.1); rintro e w16 ⟨v467, rfl, ho0, hb⟩; refine ⟨_, rfl, ?_⟩; replace HO454 := ak (Kd.S_elder' (sd HO454) (Kd.R_base ho0) hb); have HO468 := ak (Kd.R_lower (Kd.R_new' (Kd.R_new' (Kd.R_new' ho0 (Kd.R_lt (rdl HO457))) (Kd.R_lt (rdl HO460))) (Kd.R_lt (rdl HO464))) (below_size (belowg1 HB GE461))); replace HO457 := ak (Kd.R_elder' (rdl HO457) (Kd.R_base ho0) hb); replace HO460 := ak (Kd.R_elder' (rdl HO460) (Kd.R_base ho0) hb); replace HO464 := ak (Kd.R_elder' (rdl HO464) (Kd.R_base ho0) hb); replace BK461 := ak (blk_below (blkd BK461) hb); replace HB := ak (below_step (belowg1 HB GE461) hb); (try clear hb); (try clear ho0)))
  (try simp only [Act.put, List.setIfInBounds_toArray, List.set_cons_zero, List.set_cons_succ])
  go_cut [65] (fun v65 wc => ∃ (kq : Nat) (x65_6 : Bool), v65 = .bool x65_6 ∧ Aside0 (laws_FnGroups.j0 kq l1 t458 t462 t465 x65_6 = some r) ∧ Aside0 (kq ≤ k) ∧ Aside0 (Kd.R (Kd.int .i64) 3 wc w.heap.size (fun k_ => some k_ ≠ (v463 : Value).ownBlock ∧ some k_ ≠ ((.slice Ao12 t455.length co12) : Value).ownBlock) (.slice Ao13 t458.length co13) t458) ∧ Aside0 (Kd.R (Kd.int .i64) 3 wc w.heap.size (fun k_ => some k_ ≠ ((.slice Ao13 t458.length co13) : Value).ownBlock ∧ some k_ ≠ ((.slice Ao12 t455.length co12) : Value).ownBlock) v463 t462) ∧ Aside0 (Kd.S (Kd.slice 3 (Kd.int .i64)) 22 wc w.heap.size (fun k_ => some k_ ≠ ((.slice Ao13 t458.length co13) : Value).ownBlock ∧ some k_ ≠ (v463 : Value).ownBlock ∧ some k_ ≠ ((.slice Ao12 t455.length co12) : Value).ownBlock) (.slice Ao11 t452.length co11) t452) ∧ Aside0 (Kd.R (Kd.int .i64) 3 wc w.heap.size (fun k_ => some k_ ≠ ((.slice Ao13 t458.length co13) : Value).ownBlock ∧ some k_ ≠ (v463 : Value).ownBlock) (.slice Ao12 t455.length co12) t455) ∧ Aside0 (wc.heap[gb461]? = some (.cells #[.int .i64 t451, (.slice Ao11 t452.length co11), (.slice Ao12 t455.length co12)] 38 (0, 0))) ∧ Aside0 (Below w.heap.size w wc))
  case first => as_aux_lemma =>
   have H := HC7.out; clear HC7
   by_cases c17 : (t465 != t469) = true
   ·rw [if_pos c17] at H
    have c17b0 : (t465 != t469) = true := c17
    (try (have c17b1 : decide (t465 = t469) = false := by simpa using c17))
    (try (have c17b2 : (t465 == t469) = false := by simpa using c17))
    (try (have c17b3 : ¬ (t465 = t469) := by simpa using c17))
    clear c17
    (first | rw [c17b0] | (simp only [i64_w, i32_w]; rw [c17b0]) | skip)
    have H' := Aside0.mk H
    clear H; go_wp2
    go_meet
    case rel => exact ⟨_, (true), er, H', ⟨by first | omega | exact Nat.le_refl _⟩, ⟨by (with_reducible repeat (first | apply Kd.R_alloc | apply Kd.R_drewN | apply Kd.R_drew)); exact Kd.R_mono HO460.out (fun _ hk => ⟨hk.1.2, hk.1.1⟩)⟩, ⟨by (with_reducible repeat (first | apply Kd.R_alloc | apply Kd.R_drewN | apply Kd.R_drew)); exact Kd.R_mono HO464.out (fun _ hk => ⟨hk.1.2, hk.1.1.2⟩)⟩, ⟨by (with_reducible repeat (first | apply Kd.S_alloc | apply Kd.S_drewN | apply Kd.S_drew)); exact Kd.S_mono HO454.out (fun _ hk => ⟨hk.1.1.2, ⟨hk.1.2, hk.1.1.1⟩⟩)⟩, ⟨by (with_reducible repeat (first | apply Kd.R_alloc | apply Kd.R_drewN | apply Kd.R_drew)); exact Kd.R_mono HO457.out (fun _ hk => ⟨hk.1.1, hk.1.2⟩)⟩, ⟨blkd BK461⟩, ⟨belowg1 HB GE461⟩⟩
   ·rw [if_neg c17] at H
    have c17b0 : (t465 != t469) = false := by simpa using c17
    (try (have c17b1 : decide (t465 = t469) = true := by simpa using c17))
    (try (have c17b2 : (t465 == t469) = true := by simpa using c17))
    clear c17
    (first | rw [c17b0] | (simp only [i64_w, i32_w]; rw [c17b0]) | skip)
    replace H := bS H; obtain ⟨t470, A18, H⟩ := H
    replace H : (laws_FnGroups.j0 k l1 t458 t462 t465 (!t470)) = some r := H
    have H' := Aside0.mk H
    clear H
    obtain ⟨Ao19, co19, eo19⟩ := Kd.R_slice HO464.out
    subst eo19
    obtain ⟨Ao20, co20, eo20⟩ := Kd.R_slice HO468.out
    subst eo20
    go_wp2_with (first | (go_at_call 48; (with_reducible refine (laws_sameInts.calls k _ _ t462 _ _ t466 t470 _ ?side1 ?side2 ?side3 ?side4 A18.out).mono ?_); (case side1 => exact cd (Kd.R_reads' HO464.out).2.2); (case side2 => exact (Kd.R_reads' HO464.out).2.1); (case side3 => exact cd (Kd.R_reads' HO468.out).2.2); (case side4 => exact (Kd.R_reads' HO468.out).2.1); rintro e w' ⟨rfl, ⟨nd, rfl⟩⟩))
    go_meet
    case rel => exact ⟨_, (!t470), er, H', ⟨by first | omega | exact Nat.le_refl _⟩, ⟨by (with_reducible repeat (first | apply Kd.R_alloc | apply Kd.R_drewN | apply Kd.R_drew)); exact Kd.R_mono HO460.out (fun _ hk => ⟨hk.1.2, hk.1.1⟩)⟩, ⟨by (with_reducible repeat (first | apply Kd.R_alloc | apply Kd.R_drewN | apply Kd.R_drew)); exact Kd.R_mono HO464.out (fun _ hk => ⟨hk.1.2, hk.1.1.2⟩)⟩, ⟨by (with_reducible repeat (first | apply Kd.S_alloc | apply Kd.S_drewN | apply Kd.S_drew)); exact Kd.S_mono HO454.out (fun _ hk => ⟨hk.1.1.2, ⟨hk.1.2, hk.1.1.1⟩⟩)⟩, ⟨by (with_reducible repeat (first | apply Kd.R_alloc | apply Kd.R_drewN | apply Kd.R_drew)); exact Kd.R_mono HO457.out (fun _ hk => ⟨hk.1.1, hk.1.2⟩)⟩, ⟨blkd BK461⟩, ⟨belowg1 HB GE461⟩⟩
  case rest => as_aux_lemma =>
   clear HC7; (try clear c1); (try clear c3b0); (try clear hcz10_0); (try clear hcz10_1); (try clear hcz10_2); (try clear hcz15_0); (try clear hcz15_1); (try clear hcz15_2); (try clear hfz10_0); (try clear hfz10_1); (try clear hfz10_2); (try clear hfz15_0); (try clear hfz15_1); (try clear hfz15_2)
   obtain ⟨kq, x65_6, rfl, HA, HJ6, HO_6, HO_7, HO_462001, HO_462002, BK461, HB⟩ := hcut
   cases kq with
   | zero => exact absurd HA.out (by simp [laws_FnGroups.j0])
   | succ kj6 =>
    have H := HA.out; clear HA
    simp only [laws_FnGroups.j0] at H
    by_cases c21 : x65_6 = true
    ·subst c21
     have H1 : (some false) = some r := by rw [if_pos rfl] at H; exact H
     clear H
     have H := H1
     clear H1
     exact absurd (H.trans (congrArg some hr_)) (by simp)
    ·replace c21 := Bool.eq_false_iff.mpr c21
     subst c21
     have H1 : (if t465 = true then ((impl_SumOf.f kj6 t462).bind fun bt471 => ((impl_SumOf.f kj6 t458).bind fun bt473 => (if bt471.2 = true then (if bt473.2 = true then (if bt471.1 = bt473.1 then (laws_FnGroups.j1 kj6 l1) else (some false)) else (some false)) else (some false)))) else (laws_FnGroups.j1 kj6 l1)) = some r := by rw [if_neg (show ¬ (false = true) by decide)] at H; exact H
     clear H
     have H := H1
     clear H1; have HC22 := Aside0.mk H; clear H
     go_upto_if 66 with (fail)
     go_cut [] (fun wc => ∃ (kq : Nat), Aside0 (laws_FnGroups.j1 kq l1 = some r) ∧ Aside0 (kq ≤ kj6) ∧ Aside0 (Kd.S (Kd.slice 3 (Kd.int .i64)) 22 wc w.heap.size (fun k_ => some k_ ≠ ((.slice Ao12 t455.length co12) : Value).ownBlock) (.slice Ao11 t452.length co11) t452) ∧ Aside0 (Kd.R (Kd.int .i64) 3 wc w.heap.size (fun _ => True) (.slice Ao12 t455.length co12) t455) ∧ Aside0 (wc.heap[gb461]? = some (.cells #[.int .i64 t451, (.slice Ao11 t452.length co11), (.slice Ao12 t455.length co12)] 38 (0, 0))) ∧ Aside0 (Below w.heap.size w wc))
     case first => as_aux_lemma =>
      have H := HC22.out; clear HC22
      by_cases c23 : t465 = true
      ·subst c23
       have H1 : ((impl_SumOf.f kj6 t462).bind fun bt471 => ((impl_SumOf.f kj6 t458).bind fun bt473 => (if bt471.2 = true then (if bt473.2 = true then (if bt471.1 = bt473.1 then (laws_FnGroups.j1 kj6 l1) else (some false)) else (some false)) else (some false)))) = some r := by rw [if_pos rfl] at H; exact H
       clear H
       have H := H1
       clear H1; replace H := bS H; obtain ⟨⟨t471, t472⟩, A24, H⟩ := H
       replace H : ((impl_SumOf.f kj6 t458).bind fun bt473 => (if t472 = true then (if bt473.2 = true then (if t471 = bt473.1 then (laws_FnGroups.j1 kj6 l1) else (some false)) else (some false)) else (some false))) = some r := H
       replace H := bS H; obtain ⟨⟨t473, t474⟩, A25, H⟩ := H
       replace H : (if t472 = true then (if t474 = true then (if t471 = t473 then (laws_FnGroups.j1 kj6 l1) else (some false)) else (some false)) else (some false)) = some r := H
       by_cases c26 : t472 = true
       ·subst c26
        have H1 : (if t474 = true then (if t471 = t473 then (laws_FnGroups.j1 kj6 l1) else (some false)) else (some false)) = some r := by rw [if_pos rfl] at H; exact H
        clear H
        have H := H1
        clear H1
        by_cases c27 : t474 = true
        ·subst c27
         have H1 : (if t471 = t473 then (laws_FnGroups.j1 kj6 l1) else (some false)) = some r := by rw [if_pos rfl] at H; exact H
         clear H
         have H := H1
         clear H1
         by_cases c28 : t471 = t473
         ·rw [if_pos c28] at H
          have c28b0 : (t471 == t473) = true := beq_iff_eq.mpr c28
          have c28b1 : (t471 != t473) = false := bne_eq_false_iff_eq.mpr c28
          clear c28
          (first | rw [c28b0] | (simp only [i64_w, i32_w]; rw [c28b0]) | skip)
          have H' := Aside0.mk H
          clear H
          obtain ⟨Ao29, co29, eo29⟩ := Kd.R_slice HO_7.out
          subst eo29
          go_wp2_with (first | ((with_reducible refine gate_callee (f := 61) rfl ?_); refine goesLa (some 69) rfl Try.func61 #[.slice Ao29 t462.length co29] rfl ?_; (with_reducible refine (impl_SumOf.calls kj6 _ _ t462 t471 true _ ?side1 ?side2 A24.out).mono ?_); (case side1 => exact cd (Kd.R_reads' HO_7.out).2.2); (case side2 => exact (Kd.R_reads' HO_7.out).2.1); rintro e w' ⟨rfl, ⟨nd, rfl⟩⟩; refine ⟨_, rfl, ?_⟩) | ((with_reducible refine gate_callee (f := 61) rfl ?_); refine goesLa (some 74) rfl Try.func61 #[.slice Ao13 t458.length co13] rfl ?_; (with_reducible refine (impl_SumOf.calls kj6 _ _ t458 t473 true _ ?side1 ?side2 A25.out).mono ?_); (case side1 => exact cd (Kd.R_reads' HO_6.out).2.2); (case side2 => exact (Kd.R_reads' HO_6.out).2.1); rintro e w' ⟨rfl, ⟨nd, rfl⟩⟩; refine ⟨_, rfl, ?_⟩))
          go_meet
          case rel => exact ⟨_, H', ⟨by have := HJ6.out; first | omega | exact Nat.le_refl _⟩, ⟨by (with_reducible repeat (first | apply Kd.S_alloc | apply Kd.S_drewN | apply Kd.S_drew)); exact Kd.S_mono HO_462001.out (fun _ hk => hk.2.2)⟩, ⟨by (with_reducible repeat (first | apply Kd.R_alloc | apply Kd.R_drewN | apply Kd.R_drew)); exact Kd.R_mono HO_462002.out (fun _ hk => trivial)⟩, ⟨blkd BK461⟩, ⟨belowg1 HB GE461⟩⟩
         ·rw [if_neg c28] at H
          have c28b0 : (t471 == t473) = false := beq_eq_false_iff_ne.mpr c28
          have c28b1 : (t471 != t473) = true := bne_iff_ne.mpr c28
          (first | rw [c28b0] | (simp only [i64_w, i32_w]; rw [c28b0]) | skip)
          exact absurd (H.trans (congrArg some hr_)) (by simp)
        ·replace c27 := Bool.eq_false_iff.mpr c27
         subst c27
         have H1 : (some false) = some r := by rw [if_neg (show ¬ (false = true) by decide)] at H; exact H
         clear H
         have H := H1
         clear H1
         exact absurd (H.trans (congrArg some hr_)) (by simp)
       ·replace c26 := Bool.eq_false_iff.mpr c26
        subst c26
        have H1 : (some false) = some r := by rw [if_neg (show ¬ (false = true) by decide)] at H; exact H
        clear H
        have H := H1
        clear H1
        exact absurd (H.trans (congrArg some hr_)) (by simp)
      ·replace c23 := Bool.eq_false_iff.mpr c23
       subst c23
       have H1 : (laws_FnGroups.j1 kj6 l1) = some r := by rw [if_neg (show ¬ (false = true) by decide)] at H; exact H
       clear H
       have H := H1
       clear H1
       have H' := Aside0.mk H
       clear H; go_wp2
       go_meet
       case rel => exact ⟨_, H', ⟨by have := HJ6.out; first | omega | exact Nat.le_refl _⟩, ⟨by (with_reducible repeat (first | apply Kd.S_alloc | apply Kd.S_drewN | apply Kd.S_drew)); exact Kd.S_mono HO_462001.out (fun _ hk => hk.2.2)⟩, ⟨by (with_reducible repeat (first | apply Kd.R_alloc | apply Kd.R_drewN | apply Kd.R_drew)); exact Kd.R_mono HO_462002.out (fun _ hk => trivial)⟩, ⟨blkd BK461⟩, ⟨belowg1 HB GE461⟩⟩
     case rest => as_aux_lemma =>
      clear HC22; (try clear c21)
      obtain ⟨kq, HA, HJ21, HO_462001, HO_462002, BK461, HB⟩ := hcut
      cases kq with
      | zero => exact absurd HA.out (by simp [laws_FnGroups.j1])
      | succ kj21 =>
       have H := HA.out; clear HA
       simp only [laws_FnGroups.j1] at H
       replace H := bS H; obtain ⟨⟨t475, t476, t479, t482, t483⟩, A30, H⟩ := H
       replace H : ((impl_WayBetween.f kj21 t475 t476 t479 t482 t483).bind fun bt485 => ((spec_WayBetween.f kj21 t475 t476 t479 t482 t483).bind fun bt489 => ((impl_GroupsOf.f kj21 t475 t476 t479).bind fun bt493 => ((spec_GroupsOf.f kj21 t475 t476 t479).bind fun bt497 => (if (bt485.2 != bt489.2) = true then (laws_FnGroups.j2 kj21 l1 t482 t483 bt485.1 bt485.2 bt493.1 bt493.2 true t475 t476 t479) else ((laws_sameInts.f kj21 bt485.1 bt489.1).bind fun t501 => (if t501 = true then (if (bt493.2 != bt497.2) = true then (laws_FnGroups.j2 kj21 l1 t482 t483 bt485.1 bt485.2 bt493.1 bt493.2 true t475 t476 t479) else ((laws_sameRows.f kj21 bt493.1 bt497.1).bind fun t502 => (laws_FnGroups.j2 kj21 l1 t482 t483 bt485.1 bt485.2 bt493.1 bt493.2 (!t502) t475 t476 t479))) else (laws_FnGroups.j2 kj21 l1 t482 t483 bt485.1 bt485.2 bt493.1 bt493.2 true t475 t476 t479)))))))) = some r := H
       replace H := bS H; obtain ⟨⟨t485, t488⟩, A31, H⟩ := H
       replace H : ((spec_WayBetween.f kj21 t475 t476 t479 t482 t483).bind fun bt489 => ((impl_GroupsOf.f kj21 t475 t476 t479).bind fun bt493 => ((spec_GroupsOf.f kj21 t475 t476 t479).bind fun bt497 => (if (t488 != bt489.2) = true then (laws_FnGroups.j2 kj21 l1 t482 t483 t485 t488 bt493.1 bt493.2 true t475 t476 t479) else ((laws_sameInts.f kj21 t485 bt489.1).bind fun t501 => (if t501 = true then (if (bt493.2 != bt497.2) = true then (laws_FnGroups.j2 kj21 l1 t482 t483 t485 t488 bt493.1 bt493.2 true t475 t476 t479) else ((laws_sameRows.f kj21 bt493.1 bt497.1).bind fun t502 => (laws_FnGroups.j2 kj21 l1 t482 t483 t485 t488 bt493.1 bt493.2 (!t502) t475 t476 t479))) else (laws_FnGroups.j2 kj21 l1 t482 t483 t485 t488 bt493.1 bt493.2 true t475 t476 t479))))))) = some r := H
       replace H := bS H; obtain ⟨⟨t489, t492⟩, A32, H⟩ := H
       replace H : ((impl_GroupsOf.f kj21 t475 t476 t479).bind fun bt493 => ((spec_GroupsOf.f kj21 t475 t476 t479).bind fun bt497 => (if (t488 != t492) = true then (laws_FnGroups.j2 kj21 l1 t482 t483 t485 t488 bt493.1 bt493.2 true t475 t476 t479) else ((laws_sameInts.f kj21 t485 t489).bind fun t501 => (if t501 = true then (if (bt493.2 != bt497.2) = true then (laws_FnGroups.j2 kj21 l1 t482 t483 t485 t488 bt493.1 bt493.2 true t475 t476 t479) else ((laws_sameRows.f kj21 bt493.1 bt497.1).bind fun t502 => (laws_FnGroups.j2 kj21 l1 t482 t483 t485 t488 bt493.1 bt493.2 (!t502) t475 t476 t479))) else (laws_FnGroups.j2 kj21 l1 t482 t483 t485 t488 bt493.1 bt493.2 true t475 t476 t479)))))) = some r := H
       replace H := bS H; obtain ⟨⟨t493, t496⟩, A33, H⟩ := H
       replace H : ((spec_GroupsOf.f kj21 t475 t476 t479).bind fun bt497 => (if (t488 != t492) = true then (laws_FnGroups.j2 kj21 l1 t482 t483 t485 t488 t493 t496 true t475 t476 t479) else ((laws_sameInts.f kj21 t485 t489).bind fun t501 => (if t501 = true then (if (t496 != bt497.2) = true then (laws_FnGroups.j2 kj21 l1 t482 t483 t485 t488 t493 t496 true t475 t476 t479) else ((laws_sameRows.f kj21 t493 bt497.1).bind fun t502 => (laws_FnGroups.j2 kj21 l1 t482 t483 t485 t488 t493 t496 (!t502) t475 t476 t479))) else (laws_FnGroups.j2 kj21 l1 t482 t483 t485 t488 t493 t496 true t475 t476 t479))))) = some r := H
       replace H := bS H; obtain ⟨⟨t497, t500⟩, A34, H⟩ := H
       replace H : (if (t488 != t492) = true then (laws_FnGroups.j2 kj21 l1 t482 t483 t485 t488 t493 t496 true t475 t476 t479) else ((laws_sameInts.f kj21 t485 t489).bind fun t501 => (if t501 = true then (if (t496 != t500) = true then (laws_FnGroups.j2 kj21 l1 t482 t483 t485 t488 t493 t496 true t475 t476 t479) else ((laws_sameRows.f kj21 t493 t497).bind fun t502 => (laws_FnGroups.j2 kj21 l1 t482 t483 t485 t488 t493 t496 (!t502) t475 t476 t479))) else (laws_FnGroups.j2 kj21 l1 t482 t483 t485 t488 t493 t496 true t475 t476 t479)))) = some r := H
       have HC35 := Aside0.mk H; clear H
       go_upto_region 18 with (first | ((with_reducible refine gate_callee (f := 70) rfl ?_); refine goesLa (some 90) rfl Try.func70 #[.slice A1 l1.length c1] rfl ?_; (with_reducible refine (spec_DrawWayBetween.calls kj21 _ _ l1 t475 t476 t479 t482 t483 _ ?side1 ?side2 A30.out).mono ?_); (case side1 => exact cd (Kd.C_below HR1.out HB.out)); (case side2 => exact HC1.out); rintro e w36 ⟨v477, v480, rfl, ho0, ho1, hb⟩; refine ⟨_, rfl, ?_⟩; obtain ⟨N37, eN37⟩ := below_num hb; have HO478 := ak (Kd.S_lower (Kd.S_new' (Kd.S_new' (S_geN eN37 ho0) (Kd.S_lt (sd HO_462001))) (Kd.R_lt (rdl HO_462002))) (below_size (belowg1 HB GE461))); replace HO_462001 := ak (Kd.S_mono (Kd.S_told (Kd.S_told (Kd.S_old (S_ltN eN37 (sd HO_462001)) hb) (Kd.S_base ho0)) (Kd.R_base ho1)) (fun _ h_ => h_.1)); have HO481 := ak (Kd.R_lower (Kd.R_new' ho1 (Kd.R_lt (rdl HO_462002))) (below_size (belowg1 HB GE461))); replace HO_462002 := ak (Kd.R_elder' (rdl HO_462002) (Kd.R_base ho1) hb); replace BK461 := ak (blk_below (blkd BK461) hb); replace HB := ak (below_step (belowg1 HB GE461) hb); (try clear hb); (try clear ho0); (try clear ho1)) | ((with_reducible refine gate_dst (N := 15) rfl ?_); (try (refine gate_guard (by rfl) ?_; dsimp only)); refine boxev 15 #[.int .i64 0, .slice none 0 0, .slice none 0 0] 38 ?_; intro gb484 hg w38 hbox hb; replace HO_462001 := ak (Kd.S_below (sd HO_462001) hb); replace HO_462002 := ak (Kd.R_below (rdl HO_462002) hb); replace HO478 := ak (Kd.S_below (sd HO478) hb); replace HO481 := ak (Kd.R_below (rdl HO481) hb); have BK484 := ak (hbox); have GW484 := ak (hgl hg (belowg1 HB GE461)); have GE484 := ak (hgl hg (belowg1 HB GE461)); replace HB := ak (below_step (belowg1 HB GE461) hb); have NB461_484 := ak ((by rw [hg]; exact Nat.ne_of_lt (blk_lt (blkd BK461)) : gb461 ≠ gb484)); have NB484_461 := ak ((by rw [hg]; exact Nat.ne_of_gt (blk_lt (blkd BK461)) : gb484 ≠ gb461)); replace BK461 := ak (blk_below (blkd BK461) hb); clear hb hbox hg; have hnb39 := NB484_461.out; have hnc39 := NB461_484.out; obtain ⟨hcz40_0, hcz40_1, hcz40_2, hfz40_0, hfz40_1, hfz40_2⟩ := box3 BK484; obtain ⟨Ao41, co41, eo41⟩ := Kd.S_slice HO478.out; subst eo41; obtain ⟨Ao42, co42, eo42⟩ := Kd.R_slice HO481.out; subst eo42) | ((with_reducible refine gate_callee (f := 43) rfl ?_); refine goesLa (some 98) rfl Try.func43 #[.agg #[.int .i64 t475, .slice Ao41 t476.length co41, .slice Ao42 t479.length co42], .int .i64 t482, .int .i64 t483] rfl ?_; (with_reducible refine (impl_WayBetween.calls kj21 t475 _ _ t476 _ _ t479 t482 t483 t485 t488 _ ?side1 ?side2 ?side3 ?side4 A31.out).mono ?_); (case side1 => refine (Kd.S_reads' (e := 22) (base := w.heap.size) (ok := fun k_ => (((some k_ ≠ (.slice Ao42 t479.length co42 : Value).ownBlock ∧ N37 ≤ k_) ∧ some k_ ≠ (.slice Ao11 t452.length co11 : Value).ownBlock) ∧ some k_ ≠ (.slice Ao12 t455.length co12 : Value).ownBlock)) (n := t476.length) (c := co41) ?_).2.2; exact (by (with_reducible repeat (first | apply Kd.S_alloc | apply Kd.S_drewN | apply Kd.S_drew)); exact (Kd.S_mono (Kd.S_far (p := ⟨gb484, 2, none⟩) (Kd.S_far (p := ⟨gb484, 1, none⟩) (Kd.S_far (p := ⟨gb484, 0, none⟩) (Kd.S_types HO478.out BK484.out (by decide)) (fun _ hk => hk.2) (.int .i64 t475)) (fun _ hk => hk.2) (.slice Ao41 t476.length co41)) (fun _ hk => hk.2) (.slice Ao42 t479.length co42)) (fun _ h_ => h_.1)))); (case side2 => exact (Kd.S_reads' HO478.out).2.1); (case side3 => refine (Kd.R_reads' (e := 3) (base := w.heap.size) (ok := fun k_ => (True ∧ some k_ ≠ (.slice Ao12 t455.length co12 : Value).ownBlock)) (n := t479.length) (c := co42) ?_).2.2; exact (by (with_reducible repeat (first | apply Kd.R_alloc | apply Kd.R_drewN | apply Kd.R_drew)); exact (Kd.R_mono (Kd.R_far (p := ⟨gb484, 2, none⟩) (Kd.R_far (p := ⟨gb484, 1, none⟩) (Kd.R_far (p := ⟨gb484, 0, none⟩) (Kd.R_types HO481.out BK484.out (by decide)) (fun _ hk => hk.2) (.int .i64 t475)) (fun _ hk => hk.2) (.slice Ao41 t476.length co41)) (fun _ hk => hk.2) (.slice Ao42 t479.length co42)) (fun _ h_ => h_.1)))); (case side4 => exact (Kd.R_reads' HO481.out).2.1); rintro e w43 ⟨v486, rfl, ho0, hb⟩; refine ⟨_, rfl, ?_⟩; replace HO_462001 := ak (Kd.S_elder' (by (with_reducible repeat (first | apply Kd.S_alloc | apply Kd.S_drewN | apply Kd.S_drew)); exact (Kd.S_mono (Kd.S_far (p := ⟨gb484, 2, none⟩) (Kd.S_far (p := ⟨gb484, 1, none⟩) (Kd.S_far (p := ⟨gb484, 0, none⟩) (Kd.S_types HO_462001.out BK484.out (by decide)) (fun _ hk => hk.2) (.int .i64 t475)) (fun _ hk => hk.2) (.slice Ao41 t476.length co41)) (fun _ hk => hk.2) (.slice Ao42 t479.length co42)) (fun _ h_ => h_.1))) (Kd.R_base ho0) hb); replace HO478 := ak (Kd.S_elder' (by (with_reducible repeat (first | apply Kd.S_alloc | apply Kd.S_drewN | apply Kd.S_drew)); exact (Kd.S_mono (Kd.S_far (p := ⟨gb484, 2, none⟩) (Kd.S_far (p := ⟨gb484, 1, none⟩) (Kd.S_far (p := ⟨gb484, 0, none⟩) (Kd.S_types HO478.out BK484.out (by decide)) (fun _ hk => hk.2) (.int .i64 t475)) (fun _ hk => hk.2) (.slice Ao41 t476.length co41)) (fun _ hk => hk.2) (.slice Ao42 t479.length co42)) (fun _ h_ => h_.1))) (Kd.R_base ho0) hb); have HO487 := ak (Kd.R_lower (Kd.R_new' (Kd.R_new' ho0 (Kd.R_lt (by (with_reducible repeat (first | apply Kd.R_alloc | apply Kd.R_drewN | apply Kd.R_drew)); exact (Kd.R_mono (Kd.R_far (p := ⟨gb484, 2, none⟩) (Kd.R_far (p := ⟨gb484, 1, none⟩) (Kd.R_far (p := ⟨gb484, 0, none⟩) (Kd.R_types HO_462002.out BK484.out (by decide)) (fun _ hk => hk.2) (.int .i64 t475)) (fun _ hk => hk.2) (.slice Ao41 t476.length co41)) (fun _ hk => hk.2) (.slice Ao42 t479.length co42)) (fun _ h_ => h_.1))))) (Kd.R_lt (by (with_reducible repeat (first | apply Kd.R_alloc | apply Kd.R_drewN | apply Kd.R_drew)); exact (Kd.R_mono (Kd.R_far (p := ⟨gb484, 2, none⟩) (Kd.R_far (p := ⟨gb484, 1, none⟩) (Kd.R_far (p := ⟨gb484, 0, none⟩) (Kd.R_types HO481.out BK484.out (by decide)) (fun _ hk => hk.2) (.int .i64 t475)) (fun _ hk => hk.2) (.slice Ao41 t476.length co41)) (fun _ hk => hk.2) (.slice Ao42 t479.length co42)) (fun _ h_ => h_.1))))) (below_size (belowg2 HB GE461 GE484))); replace HO_462002 := ak (Kd.R_elder' (by (with_reducible repeat (first | apply Kd.R_alloc | apply Kd.R_drewN | apply Kd.R_drew)); exact (Kd.R_mono (Kd.R_far (p := ⟨gb484, 2, none⟩) (Kd.R_far (p := ⟨gb484, 1, none⟩) (Kd.R_far (p := ⟨gb484, 0, none⟩) (Kd.R_types HO_462002.out BK484.out (by decide)) (fun _ hk => hk.2) (.int .i64 t475)) (fun _ hk => hk.2) (.slice Ao41 t476.length co41)) (fun _ hk => hk.2) (.slice Ao42 t479.length co42)) (fun _ h_ => h_.1))) (Kd.R_base ho0) hb); replace HO481 := ak (Kd.R_elder' (by (with_reducible repeat (first | apply Kd.R_alloc | apply Kd.R_drewN | apply Kd.R_drew)); exact (Kd.R_mono (Kd.R_far (p := ⟨gb484, 2, none⟩) (Kd.R_far (p := ⟨gb484, 1, none⟩) (Kd.R_far (p := ⟨gb484, 0, none⟩) (Kd.R_types HO481.out BK484.out (by decide)) (fun _ hk => hk.2) (.int .i64 t475)) (fun _ hk => hk.2) (.slice Ao41 t476.length co41)) (fun _ hk => hk.2) (.slice Ao42 t479.length co42)) (fun _ h_ => h_.1))) (Kd.R_base ho0) hb); replace BK461 := ak (blk_below (g := gb461) (o := .cells #[.int .i64 t451, .slice Ao11 t452.length co11, .slice Ao12 t455.length co12] 38 (0, 0)) (by (with_reducible repeat (first | refine blk_drewN ?_ _ | refine blk_drew ?_ | refine blk_alloc ?_ _)); refine blk_far ?_ NB461_484.out _; (with_reducible repeat (first | refine blk_drewN ?_ _ | refine blk_drew ?_ | refine blk_alloc ?_ _)); refine blk_far ?_ NB461_484.out _; (with_reducible repeat (first | refine blk_drewN ?_ _ | refine blk_drew ?_ | refine blk_alloc ?_ _)); refine blk_far ?_ NB461_484.out _; (with_reducible repeat (first | refine blk_drewN ?_ _ | refine blk_drew ?_ | refine blk_alloc ?_ _)); exact BK461.out) hb); replace BK484 := ak (blk_below (g := gb484) (o := .cells #[.int .i64 t475, .slice Ao41 t476.length co41, .slice Ao42 t479.length co42] 38 (0, 0)) (by (with_reducible repeat (first | refine blk_drewN ?_ _ | refine blk_drew ?_ | refine blk_alloc ?_ _)); refine blk_put (cs := #[.int .i64 t475, .slice Ao41 t476.length co41, .slice none 0 0]) ?_ 2 _ rfl; (with_reducible repeat (first | refine blk_drewN ?_ _ | refine blk_drew ?_ | refine blk_alloc ?_ _)); refine blk_put (cs := #[.int .i64 t475, .slice none 0 0, .slice none 0 0]) ?_ 1 _ rfl; (with_reducible repeat (first | refine blk_drewN ?_ _ | refine blk_drew ?_ | refine blk_alloc ?_ _)); refine blk_put (cs := #[.int .i64 0, .slice none 0 0, .slice none 0 0]) ?_ 0 _ rfl; (with_reducible repeat (first | refine blk_drewN ?_ _ | refine blk_drew ?_ | refine blk_alloc ?_ _)); exact BK484.out) hb); replace HB := ak (below_step (belowg2 HB GE461 GE484) hb); (try clear hb); (try clear ho0); obtain ⟨hcz44_0, hcz44_1, hcz44_2, hfz44_0, hfz44_1, hfz44_2⟩ := box3 BK484) | ((with_reducible refine gate_callee (f := 42) rfl ?_); refine goesLa (some 105) rfl Try.func42 #[.agg #[.int .i64 t475, .slice Ao41 t476.length co41, .slice Ao42 t479.length co42], .int .i64 t482, .int .i64 t483] rfl ?_; (with_reducible refine (spec_WayBetween.calls kj21 t475 _ _ t476 _ _ t479 t482 t483 t489 t492 _ ?side1 ?side2 ?side3 ?side4 A32.out).mono ?_); (case side1 => exact cd (Kd.S_reads' HO478.out).2.2); (case side2 => exact (Kd.S_reads' HO478.out).2.1); (case side3 => exact cd (Kd.R_reads' HO481.out).2.2); (case side4 => exact (Kd.R_reads' HO481.out).2.1); rintro e w45 ⟨v490, rfl, ho0, hb⟩; refine ⟨_, rfl, ?_⟩; replace HO_462001 := ak (Kd.S_elder' (sd HO_462001) (Kd.R_base ho0) hb); replace HO478 := ak (Kd.S_elder' (sd HO478) (Kd.R_base ho0) hb); have HO491 := ak (Kd.R_lower (Kd.R_new' (Kd.R_new' (Kd.R_new' ho0 (Kd.R_lt (rdl HO_462002))) (Kd.R_lt (rdl HO481))) (Kd.R_lt (rdl HO487))) (below_size (belowg2 HB GE461 GE484))); replace HO_462002 := ak (Kd.R_elder' (rdl HO_462002) (Kd.R_base ho0) hb); replace HO481 := ak (Kd.R_elder' (rdl HO481) (Kd.R_base ho0) hb); replace HO487 := ak (Kd.R_elder' (rdl HO487) (Kd.R_base ho0) hb); replace BK461 := ak (blk_below (blkd BK461) hb); replace BK484 := ak (blk_below (blkd BK484) hb); replace HB := ak (below_step (belowg2 HB GE461 GE484) hb); (try clear hb); (try clear ho0); obtain ⟨hcz46_0, hcz46_1, hcz46_2, hfz46_0, hfz46_1, hfz46_2⟩ := box3 BK484) | ((with_reducible refine gate_callee (f := 38) rfl ?_); refine goesLa (some 110) rfl Try.func38 #[.agg #[.int .i64 t475, .slice Ao41 t476.length co41, .slice Ao42 t479.length co42]] rfl ?_; (with_reducible refine (impl_GroupsOf.calls kj21 t475 _ _ t476 _ _ t479 t493 t496 _ ?side1 ?side2 ?side3 ?side4 A33.out).mono ?_); (case side1 => exact cd (Kd.S_reads' HO478.out).2.2); (case side2 => exact (Kd.S_reads' HO478.out).2.1); (case side3 => exact cd (Kd.R_reads' HO481.out).2.2); (case side4 => exact (Kd.R_reads' HO481.out).2.1); rintro e w47 ⟨v494, rfl, ho0, hb⟩; refine ⟨_, rfl, ?_⟩; obtain ⟨N48, eN48⟩ := below_num hb; have HO495 := ak (Kd.S_lower (Kd.S_new' (Kd.S_new' (Kd.S_new' (Kd.S_new' (Kd.S_new' (Kd.S_new' (S_geN eN48 ho0) (Kd.S_lt (sd HO_462001))) (Kd.R_lt (rdl HO_462002))) (Kd.S_lt (sd HO478))) (Kd.R_lt (rdl HO481))) (Kd.R_lt (rdl HO487))) (Kd.R_lt (rdl HO491))) (below_size (belowg2 HB GE461 GE484))); replace HO_462001 := ak (Kd.S_elder' (S_ltN eN48 (sd HO_462001)) (Kd.S_base ho0) hb); replace HO_462002 := ak (Kd.R_below (rdl HO_462002) hb); replace HO478 := ak (Kd.S_elder' (S_ltN eN48 (sd HO478)) (Kd.S_base ho0) hb); replace HO481 := ak (Kd.R_below (rdl HO481) hb); replace HO487 := ak (Kd.R_below (rdl HO487) hb); replace HO491 := ak (Kd.R_below (rdl HO491) hb); replace BK461 := ak (blk_below (blkd BK461) hb); replace BK484 := ak (blk_below (blkd BK484) hb); replace HB := ak (below_step (belowg2 HB GE461 GE484) hb); (try clear hb); (try clear ho0); obtain ⟨hcz49_0, hcz49_1, hcz49_2, hfz49_0, hfz49_1, hfz49_2⟩ := box3 BK484) | ((with_reducible refine gate_callee (f := 37) rfl ?_); refine goesLa (some 115) rfl Try.func37 #[.agg #[.int .i64 t475, .slice Ao41 t476.length co41, .slice Ao42 t479.length co42]] rfl ?_; (with_reducible refine (spec_GroupsOf.calls kj21 t475 _ _ t476 _ _ t479 t497 t500 _ ?side1 ?side2 ?side3 ?side4 A34.out).mono ?_); (case side1 => exact cd (Kd.S_reads' HO478.out).2.2); (case side2 => exact (Kd.S_reads' HO478.out).2.1); (case side3 => exact cd (Kd.R_reads' HO481.out).2.2); (case side4 => exact (Kd.R_reads' HO481.out).2.1); rintro e w50 ⟨v498, rfl, ho0, hb⟩; refine ⟨_, rfl, ?_⟩; obtain ⟨N51, eN51⟩ := below_num hb; have HO499 := ak (Kd.S_lower (Kd.S_new' (Kd.S_new' (Kd.S_new' (Kd.S_new' (Kd.S_new' (Kd.S_new' (Kd.S_new' (S_geN eN51 ho0) (Kd.S_lt (sd HO_462001))) (Kd.R_lt (rdl HO_462002))) (Kd.S_lt (sd HO478))) (Kd.R_lt (rdl HO481))) (Kd.R_lt (rdl HO487))) (Kd.R_lt (rdl HO491))) (Kd.S_lt (sd HO495))) (below_size (belowg2 HB GE461 GE484))); replace HO_462001 := ak (Kd.S_elder' (S_ltN eN51 (sd HO_462001)) (Kd.S_base ho0) hb); replace HO_462002 := ak (Kd.R_below (rdl HO_462002) hb); replace HO478 := ak (Kd.S_elder' (S_ltN eN51 (sd HO478)) (Kd.S_base ho0) hb); replace HO481 := ak (Kd.R_below (rdl HO481) hb); replace HO487 := ak (Kd.R_below (rdl HO487) hb); replace HO491 := ak (Kd.R_below (rdl HO491) hb); replace HO495 := ak (Kd.S_elder' (S_ltN eN51 (sd HO495)) (Kd.S_base ho0) hb); replace BK461 := ak (blk_below (blkd BK461) hb); replace BK484 := ak (blk_below (blkd BK484) hb); replace HB := ak (below_step (belowg2 HB GE461 GE484) hb); (try clear hb); (try clear ho0)))
       (try simp only [Act.put, List.setIfInBounds_toArray, List.set_cons_zero, List.set_cons_succ])
       go_cut [137] (fun v137 wc => ∃ (kq : Nat) (x137_34 : Bool), v137 = .bool x137_34 ∧ Aside0 (laws_FnGroups.j2 kq l1 t482 t483 t485 t488 t493 t496 x137_34 t475 t476 t479 = some r) ∧ Aside0 (kq ≤ kj21) ∧ Aside0 (Kd.R (Kd.int .i64) 3 wc w.heap.size (fun k_ => some k_ ≠ ((.slice Ao12 t455.length co12) : Value).ownBlock ∧ some k_ ≠ ((.slice Ao42 t479.length co42) : Value).ownBlock) v486 t485) ∧ Aside0 (Kd.S (Kd.slice 3 (Kd.int .i64)) 22 wc w.heap.size (fun k_ => some k_ ≠ (v486 : Value).ownBlock ∧ some k_ ≠ ((.slice Ao11 t452.length co11) : Value).ownBlock ∧ some k_ ≠ ((.slice Ao12 t455.length co12) : Value).ownBlock ∧ some k_ ≠ ((.slice Ao41 t476.length co41) : Value).ownBlock ∧ some k_ ≠ ((.slice Ao42 t479.length co42) : Value).ownBlock ∧ N48 ≤ k_ ∧ k_ < N51) v494 t493) ∧ Aside0 (Kd.S (Kd.slice 3 (Kd.int .i64)) 22 wc w.heap.size (fun k_ => some k_ ≠ (v486 : Value).ownBlock ∧ some k_ ≠ (v494 : Value).ownBlock ∧ some k_ ≠ ((.slice Ao12 t455.length co12) : Value).ownBlock ∧ some k_ ≠ ((.slice Ao41 t476.length co41) : Value).ownBlock ∧ some k_ ≠ ((.slice Ao42 t479.length co42) : Value).ownBlock ∧ k_ < N37 ∧ k_ < N48 ∧ k_ < N51) (.slice Ao11 t452.length co11) t452) ∧ Aside0 (Kd.R (Kd.int .i64) 3 wc w.heap.size (fun k_ => some k_ ≠ (v486 : Value).ownBlock ∧ some k_ ≠ ((.slice Ao42 t479.length co42) : Value).ownBlock) (.slice Ao12 t455.length co12) t455) ∧ Aside0 (Kd.S (Kd.slice 3 (Kd.int .i64)) 22 wc w.heap.size (fun k_ => some k_ ≠ (v486 : Value).ownBlock ∧ some k_ ≠ (v494 : Value).ownBlock ∧ some k_ ≠ ((.slice Ao11 t452.length co11) : Value).ownBlock ∧ some k_ ≠ ((.slice Ao12 t455.length co12) : Value).ownBlock ∧ some k_ ≠ ((.slice Ao42 t479.length co42) : Value).ownBlock ∧ N37 ≤ k_ ∧ k_ < N48 ∧ k_ < N51) (.slice Ao41 t476.length co41) t476) ∧ Aside0 (Kd.R (Kd.int .i64) 3 wc w.heap.size (fun k_ => some k_ ≠ (v486 : Value).ownBlock ∧ some k_ ≠ ((.slice Ao12 t455.length co12) : Value).ownBlock) (.slice Ao42 t479.length co42) t479) ∧ Aside0 (wc.heap[gb461]? = some (.cells #[.int .i64 t451, (.slice Ao11 t452.length co11), (.slice Ao12 t455.length co12)] 38 (0, 0))) ∧ Aside0 (wc.heap[gb484]? = some (.cells #[.int .i64 t475, (.slice Ao41 t476.length co41), (.slice Ao42 t479.length co42)] 38 (0, 0))) ∧ Aside0 (Below w.heap.size w wc))
       case first => as_aux_lemma =>
        have H := HC35.out; clear HC35
        by_cases c52 : (t488 != t492) = true
        ·rw [if_pos c52] at H
         have c52b0 : (t488 != t492) = true := c52
         (try (have c52b1 : decide (t488 = t492) = false := by simpa using c52))
         (try (have c52b2 : (t488 == t492) = false := by simpa using c52))
         (try (have c52b3 : ¬ (t488 = t492) := by simpa using c52))
         clear c52
         (first | rw [c52b0] | (simp only [i64_w, i32_w]; rw [c52b0]) | skip)
         have H' := Aside0.mk H
         clear H; go_wp2
         go_meet
         case rel => exact ⟨_, (true), er, H', ⟨by have := HJ6.out; have := HJ21.out; first | omega | exact Nat.le_refl _⟩, ⟨by (with_reducible repeat (first | apply Kd.R_alloc | apply Kd.R_drewN | apply Kd.R_drew)); exact Kd.R_mono HO487.out (fun _ hk => ⟨hk.1.1.2, hk.1.2⟩)⟩, ⟨by (with_reducible repeat (first | apply Kd.S_alloc | apply Kd.S_drewN | apply Kd.S_drew)); exact Kd.S_mono HO495.out (fun _ hk => ⟨hk.1.1.1.2, ⟨hk.1.1.1.1.1.1.1.2, ⟨hk.1.1.1.1.1.1.2, ⟨hk.1.1.1.1.1.2, ⟨hk.1.1.1.1.2, ⟨hk.1.1.1.1.1.1.1.1.2, hk.1.2⟩⟩⟩⟩⟩⟩)⟩, ⟨by (with_reducible repeat (first | apply Kd.S_alloc | apply Kd.S_drewN | apply Kd.S_drew)); exact Kd.S_mono HO_462001.out (fun _ hk => ⟨hk.1.1.1.1.1.2, ⟨hk.1.1.2, ⟨hk.1.1.1.1.1.1.1.1.1, ⟨hk.1.1.1.1.1.1.1.2, ⟨hk.1.1.1.1.1.1.2, ⟨hk.1.1.1.1.1.1.1.1.2, ⟨hk.1.1.1.2, hk.1.2⟩⟩⟩⟩⟩⟩⟩)⟩, ⟨by (with_reducible repeat (first | apply Kd.R_alloc | apply Kd.R_drewN | apply Kd.R_drew)); exact Kd.R_mono HO_462002.out (fun _ hk => ⟨hk.1.2, hk.1.1.2⟩)⟩, ⟨by (with_reducible repeat (first | apply Kd.S_alloc | apply Kd.S_drewN | apply Kd.S_drew)); exact Kd.S_mono HO478.out (fun _ hk => ⟨hk.1.1.1.1.1.2, ⟨hk.1.1.2, ⟨hk.1.1.1.1.1.1.1.2, ⟨hk.1.1.1.1.1.1.2, ⟨hk.1.1.1.1.1.1.1.1.1, ⟨hk.1.1.1.1.1.1.1.1.2, ⟨hk.1.1.1.2, hk.1.2⟩⟩⟩⟩⟩⟩⟩)⟩, ⟨by (with_reducible repeat (first | apply Kd.R_alloc | apply Kd.R_drewN | apply Kd.R_drew)); exact Kd.R_mono HO481.out (fun _ hk => ⟨hk.1.2, hk.1.1.2⟩)⟩, ⟨blkd BK461⟩, ⟨blkd BK484⟩, ⟨belowg2 HB GE461 GE484⟩⟩
        ·rw [if_neg c52] at H
         have c52b0 : (t488 != t492) = false := by simpa using c52
         (try (have c52b1 : decide (t488 = t492) = true := by simpa using c52))
         (try (have c52b2 : (t488 == t492) = true := by simpa using c52))
         clear c52
         (first | rw [c52b0] | (simp only [i64_w, i32_w]; rw [c52b0]) | skip)
         replace H := bS H; obtain ⟨t501, A53, H⟩ := H
         replace H : (if t501 = true then (if (t496 != t500) = true then (laws_FnGroups.j2 kj21 l1 t482 t483 t485 t488 t493 t496 true t475 t476 t479) else ((laws_sameRows.f kj21 t493 t497).bind fun t502 => (laws_FnGroups.j2 kj21 l1 t482 t483 t485 t488 t493 t496 (!t502) t475 t476 t479))) else (laws_FnGroups.j2 kj21 l1 t482 t483 t485 t488 t493 t496 true t475 t476 t479)) = some r := H
         by_cases c54 : t501 = true
         ·subst c54
          have H1 : (if (t496 != t500) = true then (laws_FnGroups.j2 kj21 l1 t482 t483 t485 t488 t493 t496 true t475 t476 t479) else ((laws_sameRows.f kj21 t493 t497).bind fun t502 => (laws_FnGroups.j2 kj21 l1 t482 t483 t485 t488 t493 t496 (!t502) t475 t476 t479))) = some r := by rw [if_pos rfl] at H; exact H
          clear H
          have H := H1
          clear H1
          by_cases c55 : (t496 != t500) = true
          ·rw [if_pos c55] at H
           have c55b0 : (t496 != t500) = true := c55
           (try (have c55b1 : decide (t496 = t500) = false := by simpa using c55))
           (try (have c55b2 : (t496 == t500) = false := by simpa using c55))
           (try (have c55b3 : ¬ (t496 = t500) := by simpa using c55))
           clear c55
           have H' := Aside0.mk H
           clear H
           obtain ⟨Ao56, co56, eo56⟩ := Kd.R_slice HO487.out
           subst eo56
           obtain ⟨Ao57, co57, eo57⟩ := Kd.R_slice HO491.out
           subst eo57
           go_wp2_with (first | (go_at_call 48; (with_reducible refine (laws_sameInts.calls kj21 _ _ t485 _ _ t489 true _ ?side1 ?side2 ?side3 ?side4 A53.out).mono ?_); (case side1 => exact cd (Kd.R_reads' HO487.out).2.2); (case side2 => exact (Kd.R_reads' HO487.out).2.1); (case side3 => exact cd (Kd.R_reads' HO491.out).2.2); (case side4 => exact (Kd.R_reads' HO491.out).2.1); rintro e w' ⟨rfl, ⟨nd, rfl⟩⟩))
           go_meet
           case rel => exact ⟨_, (true), er, H', ⟨by have := HJ6.out; have := HJ21.out; first | omega | exact Nat.le_refl _⟩, ⟨by (with_reducible repeat (first | apply Kd.R_alloc | apply Kd.R_drewN | apply Kd.R_drew)); exact Kd.R_mono HO487.out (fun _ hk => ⟨hk.1.1.2, hk.1.2⟩)⟩, ⟨by (with_reducible repeat (first | apply Kd.S_alloc | apply Kd.S_drewN | apply Kd.S_drew)); exact Kd.S_mono HO495.out (fun _ hk => ⟨hk.1.1.1.2, ⟨hk.1.1.1.1.1.1.1.2, ⟨hk.1.1.1.1.1.1.2, ⟨hk.1.1.1.1.1.2, ⟨hk.1.1.1.1.2, ⟨hk.1.1.1.1.1.1.1.1.2, hk.1.2⟩⟩⟩⟩⟩⟩)⟩, ⟨by (with_reducible repeat (first | apply Kd.S_alloc | apply Kd.S_drewN | apply Kd.S_drew)); exact Kd.S_mono HO_462001.out (fun _ hk => ⟨hk.1.1.1.1.1.2, ⟨hk.1.1.2, ⟨hk.1.1.1.1.1.1.1.1.1, ⟨hk.1.1.1.1.1.1.1.2, ⟨hk.1.1.1.1.1.1.2, ⟨hk.1.1.1.1.1.1.1.1.2, ⟨hk.1.1.1.2, hk.1.2⟩⟩⟩⟩⟩⟩⟩)⟩, ⟨by (with_reducible repeat (first | apply Kd.R_alloc | apply Kd.R_drewN | apply Kd.R_drew)); exact Kd.R_mono HO_462002.out (fun _ hk => ⟨hk.1.2, hk.1.1.2⟩)⟩, ⟨by (with_reducible repeat (first | apply Kd.S_alloc | apply Kd.S_drewN | apply Kd.S_drew)); exact Kd.S_mono HO478.out (fun _ hk => ⟨hk.1.1.1.1.1.2, ⟨hk.1.1.2, ⟨hk.1.1.1.1.1.1.1.2, ⟨hk.1.1.1.1.1.1.2, ⟨hk.1.1.1.1.1.1.1.1.1, ⟨hk.1.1.1.1.1.1.1.1.2, ⟨hk.1.1.1.2, hk.1.2⟩⟩⟩⟩⟩⟩⟩)⟩, ⟨by (with_reducible repeat (first | apply Kd.R_alloc | apply Kd.R_drewN | apply Kd.R_drew)); exact Kd.R_mono HO481.out (fun _ hk => ⟨hk.1.2, hk.1.1.2⟩)⟩, ⟨blkd BK461⟩, ⟨blkd BK484⟩, ⟨belowg2 HB GE461 GE484⟩⟩
          ·rw [if_neg c55] at H
           have c55b0 : (t496 != t500) = false := by simpa using c55
           (try (have c55b1 : decide (t496 = t500) = true := by simpa using c55))
           (try (have c55b2 : (t496 == t500) = true := by simpa using c55))
           clear c55; replace H := bS H; obtain ⟨t502, A58, H⟩ := H
           replace H : (laws_FnGroups.j2 kj21 l1 t482 t483 t485 t488 t493 t496 (!t502) t475 t476 t479) = some r := H
           have H' := Aside0.mk H
           clear H
           obtain ⟨Ao59, co59, eo59⟩ := Kd.R_slice HO487.out
           subst eo59
           obtain ⟨Ao60, co60, eo60⟩ := Kd.R_slice HO491.out
           subst eo60
           go_wp2_with (first | (go_at_call 48; (with_reducible refine (laws_sameInts.calls kj21 _ _ t485 _ _ t489 true _ ?side1 ?side2 ?side3 ?side4 A53.out).mono ?_); (case side1 => exact cd (Kd.R_reads' HO487.out).2.2); (case side2 => exact (Kd.R_reads' HO487.out).2.1); (case side3 => exact cd (Kd.R_reads' HO491.out).2.2); (case side4 => exact (Kd.R_reads' HO491.out).2.1); rintro e w' ⟨rfl, ⟨nd, rfl⟩⟩; obtain ⟨Ao61, co61, eo61⟩ := Kd.S_slice HO495.out; subst eo61; obtain ⟨Ao62, co62, eo62⟩ := Kd.S_slice HO499.out; subst eo62) | (go_at_call 47; (with_reducible refine (laws_sameRows.calls kj21 _ _ t493 _ _ t497 t502 _ ?side1 ?side2 ?side3 ?side4 A58.out).mono ?_); (case side1 => exact cd (Kd.S_reads' HO495.out).2.2); (case side2 => exact (Kd.S_reads' HO495.out).2.1); (case side3 => exact cd (Kd.S_reads' HO499.out).2.2); (case side4 => exact (Kd.S_reads' HO499.out).2.1); rintro e w' ⟨rfl, ⟨nd, rfl⟩⟩))
           go_meet
           case rel => exact ⟨_, (!t502), er, H', ⟨by have := HJ6.out; have := HJ21.out; first | omega | exact Nat.le_refl _⟩, ⟨by (with_reducible repeat (first | apply Kd.R_alloc | apply Kd.R_drewN | apply Kd.R_drew)); exact Kd.R_mono HO487.out (fun _ hk => ⟨hk.1.1.2, hk.1.2⟩)⟩, ⟨by (with_reducible repeat (first | apply Kd.S_alloc | apply Kd.S_drewN | apply Kd.S_drew)); exact Kd.S_mono HO495.out (fun _ hk => ⟨hk.1.1.1.2, ⟨hk.1.1.1.1.1.1.1.2, ⟨hk.1.1.1.1.1.1.2, ⟨hk.1.1.1.1.1.2, ⟨hk.1.1.1.1.2, ⟨hk.1.1.1.1.1.1.1.1.2, hk.1.2⟩⟩⟩⟩⟩⟩)⟩, ⟨by (with_reducible repeat (first | apply Kd.S_alloc | apply Kd.S_drewN | apply Kd.S_drew)); exact Kd.S_mono HO_462001.out (fun _ hk => ⟨hk.1.1.1.1.1.2, ⟨hk.1.1.2, ⟨hk.1.1.1.1.1.1.1.1.1, ⟨hk.1.1.1.1.1.1.1.2, ⟨hk.1.1.1.1.1.1.2, ⟨hk.1.1.1.1.1.1.1.1.2, ⟨hk.1.1.1.2, hk.1.2⟩⟩⟩⟩⟩⟩⟩)⟩, ⟨by (with_reducible repeat (first | apply Kd.R_alloc | apply Kd.R_drewN | apply Kd.R_drew)); exact Kd.R_mono HO_462002.out (fun _ hk => ⟨hk.1.2, hk.1.1.2⟩)⟩, ⟨by (with_reducible repeat (first | apply Kd.S_alloc | apply Kd.S_drewN | apply Kd.S_drew)); exact Kd.S_mono HO478.out (fun _ hk => ⟨hk.1.1.1.1.1.2, ⟨hk.1.1.2, ⟨hk.1.1.1.1.1.1.1.2, ⟨hk.1.1.1.1.1.1.2, ⟨hk.1.1.1.1.1.1.1.1.1, ⟨hk.1.1.1.1.1.1.1.1.2, ⟨hk.1.1.1.2, hk.1.2⟩⟩⟩⟩⟩⟩⟩)⟩, ⟨by (with_reducible repeat (first | apply Kd.R_alloc | apply Kd.R_drewN | apply Kd.R_drew)); exact Kd.R_mono HO481.out (fun _ hk => ⟨hk.1.2, hk.1.1.2⟩)⟩, ⟨blkd BK461⟩, ⟨blkd BK484⟩, ⟨belowg2 HB GE461 GE484⟩⟩
         ·replace c54 := Bool.eq_false_iff.mpr c54
          subst c54
          have H1 : (laws_FnGroups.j2 kj21 l1 t482 t483 t485 t488 t493 t496 true t475 t476 t479) = some r := by rw [if_neg (show ¬ (false = true) by decide)] at H; exact H
          clear H
          have H := H1
          clear H1
          have H' := Aside0.mk H
          clear H
          obtain ⟨Ao63, co63, eo63⟩ := Kd.R_slice HO487.out
          subst eo63
          obtain ⟨Ao64, co64, eo64⟩ := Kd.R_slice HO491.out
          subst eo64
          go_wp2_with (first | (go_at_call 48; (with_reducible refine (laws_sameInts.calls kj21 _ _ t485 _ _ t489 false _ ?side1 ?side2 ?side3 ?side4 A53.out).mono ?_); (case side1 => exact cd (Kd.R_reads' HO487.out).2.2); (case side2 => exact (Kd.R_reads' HO487.out).2.1); (case side3 => exact cd (Kd.R_reads' HO491.out).2.2); (case side4 => exact (Kd.R_reads' HO491.out).2.1); rintro e w' ⟨rfl, ⟨nd, rfl⟩⟩))
          go_meet
          case rel => exact ⟨_, (true), er, H', ⟨by have := HJ6.out; have := HJ21.out; first | omega | exact Nat.le_refl _⟩, ⟨by (with_reducible repeat (first | apply Kd.R_alloc | apply Kd.R_drewN | apply Kd.R_drew)); exact Kd.R_mono HO487.out (fun _ hk => ⟨hk.1.1.2, hk.1.2⟩)⟩, ⟨by (with_reducible repeat (first | apply Kd.S_alloc | apply Kd.S_drewN | apply Kd.S_drew)); exact Kd.S_mono HO495.out (fun _ hk => ⟨hk.1.1.1.2, ⟨hk.1.1.1.1.1.1.1.2, ⟨hk.1.1.1.1.1.1.2, ⟨hk.1.1.1.1.1.2, ⟨hk.1.1.1.1.2, ⟨hk.1.1.1.1.1.1.1.1.2, hk.1.2⟩⟩⟩⟩⟩⟩)⟩, ⟨by (with_reducible repeat (first | apply Kd.S_alloc | apply Kd.S_drewN | apply Kd.S_drew)); exact Kd.S_mono HO_462001.out (fun _ hk => ⟨hk.1.1.1.1.1.2, ⟨hk.1.1.2, ⟨hk.1.1.1.1.1.1.1.1.1, ⟨hk.1.1.1.1.1.1.1.2, ⟨hk.1.1.1.1.1.1.2, ⟨hk.1.1.1.1.1.1.1.1.2, ⟨hk.1.1.1.2, hk.1.2⟩⟩⟩⟩⟩⟩⟩)⟩, ⟨by (with_reducible repeat (first | apply Kd.R_alloc | apply Kd.R_drewN | apply Kd.R_drew)); exact Kd.R_mono HO_462002.out (fun _ hk => ⟨hk.1.2, hk.1.1.2⟩)⟩, ⟨by (with_reducible repeat (first | apply Kd.S_alloc | apply Kd.S_drewN | apply Kd.S_drew)); exact Kd.S_mono HO478.out (fun _ hk => ⟨hk.1.1.1.1.1.2, ⟨hk.1.1.2, ⟨hk.1.1.1.1.1.1.1.2, ⟨hk.1.1.1.1.1.1.2, ⟨hk.1.1.1.1.1.1.1.1.1, ⟨hk.1.1.1.1.1.1.1.1.2, ⟨hk.1.1.1.2, hk.1.2⟩⟩⟩⟩⟩⟩⟩)⟩, ⟨by (with_reducible repeat (first | apply Kd.R_alloc | apply Kd.R_drewN | apply Kd.R_drew)); exact Kd.R_mono HO481.out (fun _ hk => ⟨hk.1.2, hk.1.1.2⟩)⟩, ⟨blkd BK461⟩, ⟨blkd BK484⟩, ⟨belowg2 HB GE461 GE484⟩⟩
       case rest => as_aux_lemma =>
        clear HC35; (try clear c1); (try clear hcz40_0); (try clear hcz40_1); (try clear hcz40_2); (try clear hcz44_0); (try clear hcz44_1); (try clear hcz44_2); (try clear hcz46_0); (try clear hcz46_1); (try clear hcz46_2); (try clear hcz49_0); (try clear hcz49_1); (try clear hcz49_2); (try clear hfz40_0); (try clear hfz40_1); (try clear hfz40_2); (try clear hfz44_0); (try clear hfz44_1); (try clear hfz44_2); (try clear hfz46_0); (try clear hfz46_1); (try clear hfz46_2); (try clear hfz49_0); (try clear hfz49_1); (try clear hfz49_2)
        obtain ⟨kq, x137_34, rfl, HA, HJ34, HO_18, HO_22, HO_462001, HO_462002, HO_485001, HO_485002, BK461, BK484, HB⟩ := hcut
        cases kq with
        | zero => exact absurd HA.out (by simp [laws_FnGroups.j2])
        | succ kj34 =>
         have H := HA.out; clear HA
         simp only [laws_FnGroups.j2] at H
         by_cases c65 : x137_34 = true
         ·subst c65
          have H1 : (some false) = some r := by rw [if_pos rfl] at H; exact H
          clear H
          have H := H1
          clear H1
          exact absurd (H.trans (congrArg some hr_)) (by simp)
         ·replace c65 := Bool.eq_false_iff.mpr c65
          subst c65
          have H1 : (if t496 = true then (laws_FnGroups.l0 kj34 l1 t482 t483 t485 t488 t493 0 (t493.length : Int) 0 t475 t476 t479) else ((spec_DrawSumOf.f kj34 l1).bind fun t513 => ((impl_SumOf.f kj34 t513).bind fun bt516 => ((spec_SumOf.f kj34 t513).bind fun bt518 => (if (bt516.2 == bt518.2) = true then (some (bt516.1 == bt518.1)) else (some false)))))) = some r := by rw [if_neg (show ¬ (false = true) by decide)] at H; exact H
          clear H
          have H := H1
          clear H1
          by_cases c66 : t496 = true
          ·subst c66
           have H1 : (laws_FnGroups.l0 kj34 l1 t482 t483 t485 t488 t493 0 (t493.length : Int) 0 t475 t476 t479) = some r := by rw [if_pos rfl] at H; exact H
           clear H
           have H := H1
           clear H1
           have H' := Aside0.mk H
           clear H
           obtain ⟨Ao67, co67, eo67⟩ := Kd.S_slice HO_22.out
           subst eo67; go_wp2
           go_loopg [26, 141] kj34 (fun kq v26 v141 w' => ∃ (x26_4 : Int) (x141_4 : Int), v26 = .int .i64 x26_4 ∧ v141 = .int .i64 x141_4 ∧ Aside0 (laws_FnGroups.l0 kq l1 t482 t483 t485 t488 t493 x26_4 (t493.length : Int) x141_4 t475 t476 t479 = some r) ∧ Aside0 (kq ≤ kj34) ∧ Aside0 (Kd.R (Kd.int .i64) 3 w' w.heap.size (fun k_ => some k_ ≠ ((.slice Ao12 t455.length co12) : Value).ownBlock ∧ some k_ ≠ ((.slice Ao42 t479.length co42) : Value).ownBlock) v486 t485) ∧ Aside0 (Kd.S (Kd.slice 3 (Kd.int .i64)) 22 w' w.heap.size (fun k_ => some k_ ≠ (v486 : Value).ownBlock ∧ some k_ ≠ ((.slice Ao11 t452.length co11) : Value).ownBlock ∧ some k_ ≠ ((.slice Ao12 t455.length co12) : Value).ownBlock ∧ some k_ ≠ ((.slice Ao41 t476.length co41) : Value).ownBlock ∧ some k_ ≠ ((.slice Ao42 t479.length co42) : Value).ownBlock ∧ N48 ≤ k_ ∧ k_ < N51) (.slice Ao67 t493.length co67) t493) ∧ Aside0 (Kd.S (Kd.slice 3 (Kd.int .i64)) 22 w' w.heap.size (fun k_ => some k_ ≠ (v486 : Value).ownBlock ∧ some k_ ≠ ((.slice Ao67 t493.length co67) : Value).ownBlock ∧ some k_ ≠ ((.slice Ao12 t455.length co12) : Value).ownBlock ∧ some k_ ≠ ((.slice Ao41 t476.length co41) : Value).ownBlock ∧ some k_ ≠ ((.slice Ao42 t479.length co42) : Value).ownBlock ∧ k_ < N37 ∧ k_ < N48 ∧ k_ < N51) (.slice Ao11 t452.length co11) t452) ∧ Aside0 (Kd.R (Kd.int .i64) 3 w' w.heap.size (fun k_ => some k_ ≠ (v486 : Value).ownBlock ∧ some k_ ≠ ((.slice Ao42 t479.length co42) : Value).ownBlock) (.slice Ao12 t455.length co12) t455) ∧ Aside0 (Kd.S (Kd.slice 3 (Kd.int .i64)) 22 w' w.heap.size (fun k_ => some k_ ≠ (v486 : Value).ownBlock ∧ some k_ ≠ ((.slice Ao67 t493.length co67) : Value).ownBlock ∧ some k_ ≠ ((.slice Ao11 t452.length co11) : Value).ownBlock ∧ some k_ ≠ ((.slice Ao12 t455.length co12) : Value).ownBlock ∧ some k_ ≠ ((.slice Ao42 t479.length co42) : Value).ownBlock ∧ N37 ≤ k_ ∧ k_ < N48 ∧ k_ < N51) (.slice Ao41 t476.length co41) t476) ∧ Aside0 (Kd.R (Kd.int .i64) 3 w' w.heap.size (fun k_ => some k_ ≠ (v486 : Value).ownBlock ∧ some k_ ≠ ((.slice Ao12 t455.length co12) : Value).ownBlock) (.slice Ao42 t479.length co42) t479) ∧ Aside0 (w'.heap[gb461]? = some (.cells #[.int .i64 t451, (.slice Ao11 t452.length co11), (.slice Ao12 t455.length co12)] 38 (0, 0))) ∧ Aside0 (w'.heap[gb484]? = some (.cells #[.int .i64 t475, (.slice Ao41 t476.length co41), (.slice Ao42 t479.length co42)] 38 (0, 0))) ∧ Aside0 (Below w.heap.size w w'))
           case atStart => exact ⟨(0), (0), er, er, H', ⟨Nat.le_refl _⟩, ⟨rdl HO_18⟩, ⟨sd HO_22⟩, ⟨sd HO_462001⟩, ⟨rdl HO_462002⟩, ⟨sd HO_485001⟩, ⟨rdl HO_485002⟩, ⟨blkd BK461⟩, ⟨blkd BK484⟩, ⟨belowg2 HB GE461 GE484⟩⟩
           case round => as_aux_lemma =>
            clear H'
            (try clear c65); (try clear c66)
            obtain ⟨x26_4, x141_4, rfl, rfl, HA, HK4, HO_18, HO_22, HO_462001, HO_462002, HO_485001, HO_485002, BK461, BK484, HB⟩ := hrel
            cases gk with
            | zero => exact absurd HA.out (by simp [laws_FnGroups.l0])
            | succ k4 =>
             have H := HA.out; clear HA
             simp only [laws_FnGroups.l0] at H
             by_cases c68 : x141_4 < (t493.length : Int)
             ·rw [if_pos c68] at H
              have c68b0 : decide (x141_4 < (t493.length : Int)) = true := decide_eq_true c68
              clear c68; replace H := ifS H; obtain ⟨c69, H⟩ := H; have c69b0 := decide_eq_true c69; clear c69; replace H := ifS H; obtain ⟨c70, H⟩ := H; have c70b0 := decide_eq_true c70; clear c70; replace H := bS H; obtain ⟨t504, A71, H⟩ := H
              replace H : (if t504 = true then ((laws_has.f k4 (rd_L1 t493 x141_4) t483).bind fun t505 => (if (t505 != t488) = true then (if t483 ≥ 0 then (if t483 < t475 then (some false) else (laws_FnGroups.l0 k4 l1 t482 t483 t485 t488 t493 (wrap64 (x26_4 + ((rd_L1 t493 x141_4).length : Int))) (t493.length : Int) (wrap64 (x141_4 + 1)) t475 t476 t479)) else (laws_FnGroups.l0 k4 l1 t482 t483 t485 t488 t493 (wrap64 (x26_4 + ((rd_L1 t493 x141_4).length : Int))) (t493.length : Int) (wrap64 (x141_4 + 1)) t475 t476 t479)) else (laws_FnGroups.l0 k4 l1 t482 t483 t485 t488 t493 (wrap64 (x26_4 + ((rd_L1 t493 x141_4).length : Int))) (t493.length : Int) (wrap64 (x141_4 + 1)) t475 t476 t479))) else (laws_FnGroups.l0 k4 l1 t482 t483 t485 t488 t493 (wrap64 (x26_4 + ((rd_L1 t493 x141_4).length : Int))) (t493.length : Int) (wrap64 (x141_4 + 1)) t475 t476 t479)) = some r := H
              by_cases c72 : t504 = true
              ·subst c72
               have H1 : ((laws_has.f k4 (rd_L1 t493 x141_4) t483).bind fun t505 => (if (t505 != t488) = true then (if t483 ≥ 0 then (if t483 < t475 then (some false) else (laws_FnGroups.l0 k4 l1 t482 t483 t485 t488 t493 (wrap64 (x26_4 + ((rd_L1 t493 x141_4).length : Int))) (t493.length : Int) (wrap64 (x141_4 + 1)) t475 t476 t479)) else (laws_FnGroups.l0 k4 l1 t482 t483 t485 t488 t493 (wrap64 (x26_4 + ((rd_L1 t493 x141_4).length : Int))) (t493.length : Int) (wrap64 (x141_4 + 1)) t475 t476 t479)) else (laws_FnGroups.l0 k4 l1 t482 t483 t485 t488 t493 (wrap64 (x26_4 + ((rd_L1 t493 x141_4).length : Int))) (t493.length : Int) (wrap64 (x141_4 + 1)) t475 t476 t479))) = some r := by rw [if_pos rfl] at H; exact H
               clear H
               have H := H1
               clear H1; replace H := bS H; obtain ⟨t505, A73, H⟩ := H
               replace H : (if (t505 != t488) = true then (if t483 ≥ 0 then (if t483 < t475 then (some false) else (laws_FnGroups.l0 k4 l1 t482 t483 t485 t488 t493 (wrap64 (x26_4 + ((rd_L1 t493 x141_4).length : Int))) (t493.length : Int) (wrap64 (x141_4 + 1)) t475 t476 t479)) else (laws_FnGroups.l0 k4 l1 t482 t483 t485 t488 t493 (wrap64 (x26_4 + ((rd_L1 t493 x141_4).length : Int))) (t493.length : Int) (wrap64 (x141_4 + 1)) t475 t476 t479)) else (laws_FnGroups.l0 k4 l1 t482 t483 t485 t488 t493 (wrap64 (x26_4 + ((rd_L1 t493 x141_4).length : Int))) (t493.length : Int) (wrap64 (x141_4 + 1)) t475 t476 t479)) = some r := H
               by_cases c74 : (t505 != t488) = true
               ·rw [if_pos c74] at H
                have c74b0 : (t505 != t488) = true := c74
                (try (have c74b1 : decide (t505 = t488) = false := by simpa using c74))
                (try (have c74b2 : (t505 == t488) = false := by simpa using c74))
                (try (have c74b3 : ¬ (t505 = t488) := by simpa using c74))
                clear c74
                by_cases c75 : t483 ≥ 0
                ·rw [if_pos c75] at H
                 have c75b0 : decide (0 ≤ t483) = true := decide_eq_true c75
                 clear c75
                 by_cases c76 : t483 < t475
                 ·rw [if_pos c76] at H
                  have c76b0 : decide (t483 < t475) = true := decide_eq_true c76
                  clear c76
                  exact absurd (H.trans (congrArg some hr_)) (by simp)
                 ·rw [if_neg c76] at H
                  have c76b0 : decide (t483 < t475) = false := decide_eq_false c76
                  clear c76
                  have H' := Aside0.mk H
                  clear H
                  have p503 : 0 ≤ (x141_4 : Int) := da
                  have q503 : x141_4 < (t493.length : Int) := da
                  obtain ⟨ad503, A503_0, c503_0, e503, hx503_0, hl503_0, hi503_0⟩ := at_L1 (Kd.S_reads' HO_22.out).2.2 x141_4 p503 q503
                  cases e503
                  obtain ⟨ce503, hce503, hMe503, hcc503⟩ := Kd.S_get HO_22.out [] x141_4 p503 (by first | exact q503 | exact da | (have e_ := (Kd.S_reads' HO_22.out).1; omega))
                  obtain ⟨ve503_0, rfl, ge503_0⟩ := hMe503
                  have hv503_0 := hcc503 0 _ rfl
                  rw [Nat.add_zero, show ((Kd.slice 3 (Kd.int .i64))).sz = 1 from rfl, Nat.mul_one] at hv503_0
                  replace hv503_0 := Option.some.inj (hv503_0.symm.trans hx503_0)
                  rw [hv503_0] at ge503_0
                  have HL503_0 := Aside0.mk (show Kd.R (Kd.int .i64) 3 _ _ _ _ (rd_L1 t493 x141_4) from ge503_0)
                  clear hv503_0 ge503_0; clear hcc503 hce503; have HR503_0 := Aside0.mk hi503_0; have HC503_0 := Aside0.mk hl503_0; clear hi503_0 hl503_0; replace p503 := eq_true p503; replace q503 := eq_true q503
                  go_wp2_with (first | ((with_reducible refine gate_callee (f := 51) rfl ?_); refine goesLa (some 151) rfl Try.func51 #[.slice A503_0 (rd_L1 t493 x141_4).length c503_0, .int .i64 t482] rfl ?_; (with_reducible refine (laws_has.calls k4 _ _ (rd_L1 t493 x141_4) t482 true _ ?side1 ?side2 A71.out).mono ?_); (case side1 => exact cd (by repeat (first | (with_reducible exact HR503_0.out) | (with_reducible refine Kd.C_alloc ?_ _) | (with_reducible refine Kd.C_drewN ?_ _) | (with_reducible refine Kd.C_drew ?_) | exact HR503_0.out))); (case side2 => exact HC503_0.out); rintro e w' ⟨rfl, ⟨nd, rfl⟩⟩; refine ⟨_, rfl, ?_⟩) | (go_at_call 51; (with_reducible refine (laws_has.calls k4 _ _ (rd_L1 t493 x141_4) t483 t505 _ ?side1 ?side2 A73.out).mono ?_); (case side1 => exact cd (by repeat (first | (with_reducible exact HR503_0.out) | (with_reducible refine Kd.C_alloc ?_ _) | (with_reducible refine Kd.C_drewN ?_ _) | (with_reducible refine Kd.C_drew ?_) | exact HR503_0.out))); (case side2 => exact HC503_0.out); rintro e w' ⟨rfl, ⟨nd, rfl⟩⟩; have hnb77 := NB484_461.out; have hnc77 := NB461_484.out; obtain ⟨hcz78_0, hcz78_1, hcz78_2, hfz78_0, hfz78_1, hfz78_2⟩ := box3 BK484))
                  go_roundg k4
                  case measure => have := HJ6.out; have := HJ21.out; have := HJ34.out; have := HK4.out; omega
                  case rel => exact ⟨(wrap64 (x26_4 + ((rd_L1 t493 x141_4).length : Int))), (wrap64 (x141_4 + 1)), er, er, H', ⟨by have := HJ6.out; have := HJ21.out; have := HJ34.out; have := HK4.out; omega⟩, ⟨rdl HO_18⟩, ⟨sd HO_22⟩, ⟨sd HO_462001⟩, ⟨rdl HO_462002⟩, ⟨sd HO_485001⟩, ⟨rdl HO_485002⟩, ⟨blkd BK461⟩, ⟨blkd BK484⟩, ⟨belowg2 HB GE461 GE484⟩⟩
                ·rw [if_neg c75] at H
                 have c75b0 : decide (0 ≤ t483) = false := decide_eq_false c75
                 clear c75
                 have H' := Aside0.mk H
                 clear H
                 have p503 : 0 ≤ (x141_4 : Int) := da
                 have q503 : x141_4 < (t493.length : Int) := da
                 obtain ⟨ad503, A503_0, c503_0, e503, hx503_0, hl503_0, hi503_0⟩ := at_L1 (Kd.S_reads' HO_22.out).2.2 x141_4 p503 q503
                 cases e503
                 obtain ⟨ce503, hce503, hMe503, hcc503⟩ := Kd.S_get HO_22.out [] x141_4 p503 (by first | exact q503 | exact da | (have e_ := (Kd.S_reads' HO_22.out).1; omega))
                 obtain ⟨ve503_0, rfl, ge503_0⟩ := hMe503
                 have hv503_0 := hcc503 0 _ rfl
                 rw [Nat.add_zero, show ((Kd.slice 3 (Kd.int .i64))).sz = 1 from rfl, Nat.mul_one] at hv503_0
                 replace hv503_0 := Option.some.inj (hv503_0.symm.trans hx503_0)
                 rw [hv503_0] at ge503_0
                 have HL503_0 := Aside0.mk (show Kd.R (Kd.int .i64) 3 _ _ _ _ (rd_L1 t493 x141_4) from ge503_0)
                 clear hv503_0 ge503_0; clear hcc503 hce503; have HR503_0 := Aside0.mk hi503_0; have HC503_0 := Aside0.mk hl503_0; clear hi503_0 hl503_0; replace p503 := eq_true p503; replace q503 := eq_true q503
                 go_wp2_with (first | ((with_reducible refine gate_callee (f := 51) rfl ?_); refine goesLa (some 151) rfl Try.func51 #[.slice A503_0 (rd_L1 t493 x141_4).length c503_0, .int .i64 t482] rfl ?_; (with_reducible refine (laws_has.calls k4 _ _ (rd_L1 t493 x141_4) t482 true _ ?side1 ?side2 A71.out).mono ?_); (case side1 => exact cd (by repeat (first | (with_reducible exact HR503_0.out) | (with_reducible refine Kd.C_alloc ?_ _) | (with_reducible refine Kd.C_drewN ?_ _) | (with_reducible refine Kd.C_drew ?_) | exact HR503_0.out))); (case side2 => exact HC503_0.out); rintro e w' ⟨rfl, ⟨nd, rfl⟩⟩; refine ⟨_, rfl, ?_⟩) | (go_at_call 51; (with_reducible refine (laws_has.calls k4 _ _ (rd_L1 t493 x141_4) t483 t505 _ ?side1 ?side2 A73.out).mono ?_); (case side1 => exact cd (by repeat (first | (with_reducible exact HR503_0.out) | (with_reducible refine Kd.C_alloc ?_ _) | (with_reducible refine Kd.C_drewN ?_ _) | (with_reducible refine Kd.C_drew ?_) | exact HR503_0.out))); (case side2 => exact HC503_0.out); rintro e w' ⟨rfl, ⟨nd, rfl⟩⟩))
                 go_roundg k4
                 case measure => have := HJ6.out; have := HJ21.out; have := HJ34.out; have := HK4.out; omega
                 case rel => exact ⟨(wrap64 (x26_4 + ((rd_L1 t493 x141_4).length : Int))), (wrap64 (x141_4 + 1)), er, er, H', ⟨by have := HJ6.out; have := HJ21.out; have := HJ34.out; have := HK4.out; omega⟩, ⟨rdl HO_18⟩, ⟨sd HO_22⟩, ⟨sd HO_462001⟩, ⟨rdl HO_462002⟩, ⟨sd HO_485001⟩, ⟨rdl HO_485002⟩, ⟨blkd BK461⟩, ⟨blkd BK484⟩, ⟨belowg2 HB GE461 GE484⟩⟩
               ·rw [if_neg c74] at H
                have c74b0 : (t505 != t488) = false := by simpa using c74
                (try (have c74b1 : decide (t505 = t488) = true := by simpa using c74))
                (try (have c74b2 : (t505 == t488) = true := by simpa using c74))
                clear c74
                have H' := Aside0.mk H
                clear H
                have p503 : 0 ≤ (x141_4 : Int) := da
                have q503 : x141_4 < (t493.length : Int) := da
                obtain ⟨ad503, A503_0, c503_0, e503, hx503_0, hl503_0, hi503_0⟩ := at_L1 (Kd.S_reads' HO_22.out).2.2 x141_4 p503 q503
                cases e503
                obtain ⟨ce503, hce503, hMe503, hcc503⟩ := Kd.S_get HO_22.out [] x141_4 p503 (by first | exact q503 | exact da | (have e_ := (Kd.S_reads' HO_22.out).1; omega))
                obtain ⟨ve503_0, rfl, ge503_0⟩ := hMe503
                have hv503_0 := hcc503 0 _ rfl
                rw [Nat.add_zero, show ((Kd.slice 3 (Kd.int .i64))).sz = 1 from rfl, Nat.mul_one] at hv503_0
                replace hv503_0 := Option.some.inj (hv503_0.symm.trans hx503_0)
                rw [hv503_0] at ge503_0
                have HL503_0 := Aside0.mk (show Kd.R (Kd.int .i64) 3 _ _ _ _ (rd_L1 t493 x141_4) from ge503_0)
                clear hv503_0 ge503_0; clear hcc503 hce503; have HR503_0 := Aside0.mk hi503_0; have HC503_0 := Aside0.mk hl503_0; clear hi503_0 hl503_0; replace p503 := eq_true p503; replace q503 := eq_true q503
                go_wp2_with (first | ((with_reducible refine gate_callee (f := 51) rfl ?_); refine goesLa (some 151) rfl Try.func51 #[.slice A503_0 (rd_L1 t493 x141_4).length c503_0, .int .i64 t482] rfl ?_; (with_reducible refine (laws_has.calls k4 _ _ (rd_L1 t493 x141_4) t482 true _ ?side1 ?side2 A71.out).mono ?_); (case side1 => exact cd (by repeat (first | (with_reducible exact HR503_0.out) | (with_reducible refine Kd.C_alloc ?_ _) | (with_reducible refine Kd.C_drewN ?_ _) | (with_reducible refine Kd.C_drew ?_) | exact HR503_0.out))); (case side2 => exact HC503_0.out); rintro e w' ⟨rfl, ⟨nd, rfl⟩⟩; refine ⟨_, rfl, ?_⟩) | (go_at_call 51; (with_reducible refine (laws_has.calls k4 _ _ (rd_L1 t493 x141_4) t483 t505 _ ?side1 ?side2 A73.out).mono ?_); (case side1 => exact cd (by repeat (first | (with_reducible exact HR503_0.out) | (with_reducible refine Kd.C_alloc ?_ _) | (with_reducible refine Kd.C_drewN ?_ _) | (with_reducible refine Kd.C_drew ?_) | exact HR503_0.out))); (case side2 => exact HC503_0.out); rintro e w' ⟨rfl, ⟨nd, rfl⟩⟩))
                go_roundg k4
                case measure => have := HJ6.out; have := HJ21.out; have := HJ34.out; have := HK4.out; omega
                case rel => exact ⟨(wrap64 (x26_4 + ((rd_L1 t493 x141_4).length : Int))), (wrap64 (x141_4 + 1)), er, er, H', ⟨by have := HJ6.out; have := HJ21.out; have := HJ34.out; have := HK4.out; omega⟩, ⟨rdl HO_18⟩, ⟨sd HO_22⟩, ⟨sd HO_462001⟩, ⟨rdl HO_462002⟩, ⟨sd HO_485001⟩, ⟨rdl HO_485002⟩, ⟨blkd BK461⟩, ⟨blkd BK484⟩, ⟨belowg2 HB GE461 GE484⟩⟩
              ·replace c72 := Bool.eq_false_iff.mpr c72
               subst c72
               have H1 : (laws_FnGroups.l0 k4 l1 t482 t483 t485 t488 t493 (wrap64 (x26_4 + ((rd_L1 t493 x141_4).length : Int))) (t493.length : Int) (wrap64 (x141_4 + 1)) t475 t476 t479) = some r := by rw [if_neg (show ¬ (false = true) by decide)] at H; exact H
               clear H
               have H := H1
               clear H1
               have H' := Aside0.mk H
               clear H
               have p503 : 0 ≤ (x141_4 : Int) := da
               have q503 : x141_4 < (t493.length : Int) := da
               obtain ⟨ad503, A503_0, c503_0, e503, hx503_0, hl503_0, hi503_0⟩ := at_L1 (Kd.S_reads' HO_22.out).2.2 x141_4 p503 q503
               cases e503
               obtain ⟨ce503, hce503, hMe503, hcc503⟩ := Kd.S_get HO_22.out [] x141_4 p503 (by first | exact q503 | exact da | (have e_ := (Kd.S_reads' HO_22.out).1; omega))
               obtain ⟨ve503_0, rfl, ge503_0⟩ := hMe503
               have hv503_0 := hcc503 0 _ rfl
               rw [Nat.add_zero, show ((Kd.slice 3 (Kd.int .i64))).sz = 1 from rfl, Nat.mul_one] at hv503_0
               replace hv503_0 := Option.some.inj (hv503_0.symm.trans hx503_0)
               rw [hv503_0] at ge503_0
               have HL503_0 := Aside0.mk (show Kd.R (Kd.int .i64) 3 _ _ _ _ (rd_L1 t493 x141_4) from ge503_0)
               clear hv503_0 ge503_0; clear hcc503 hce503; have HR503_0 := Aside0.mk hi503_0; have HC503_0 := Aside0.mk hl503_0; clear hi503_0 hl503_0; replace p503 := eq_true p503; replace q503 := eq_true q503
               go_wp2_with (first | ((with_reducible refine gate_callee (f := 51) rfl ?_); refine goesLa (some 151) rfl Try.func51 #[.slice A503_0 (rd_L1 t493 x141_4).length c503_0, .int .i64 t482] rfl ?_; (with_reducible refine (laws_has.calls k4 _ _ (rd_L1 t493 x141_4) t482 false _ ?side1 ?side2 A71.out).mono ?_); (case side1 => exact cd (by repeat (first | (with_reducible exact HR503_0.out) | (with_reducible refine Kd.C_alloc ?_ _) | (with_reducible refine Kd.C_drewN ?_ _) | (with_reducible refine Kd.C_drew ?_) | exact HR503_0.out))); (case side2 => exact HC503_0.out); rintro e w' ⟨rfl, ⟨nd, rfl⟩⟩; refine ⟨_, rfl, ?_⟩))
               go_roundg k4
               case measure => have := HJ6.out; have := HJ21.out; have := HJ34.out; have := HK4.out; omega
               case rel => exact ⟨(wrap64 (x26_4 + ((rd_L1 t493 x141_4).length : Int))), (wrap64 (x141_4 + 1)), er, er, H', ⟨by have := HJ6.out; have := HJ21.out; have := HJ34.out; have := HK4.out; omega⟩, ⟨rdl HO_18⟩, ⟨sd HO_22⟩, ⟨sd HO_462001⟩, ⟨rdl HO_462002⟩, ⟨sd HO_485001⟩, ⟨rdl HO_485002⟩, ⟨blkd BK461⟩, ⟨blkd BK484⟩, ⟨belowg2 HB GE461 GE484⟩⟩
             ·rw [if_neg c68] at H
              have c68b0 : decide (x141_4 < (t493.length : Int)) = false := decide_eq_false c68
              clear c68; have HC79 := Aside0.mk H; clear H
              go_upto_region 29 with (fail)
              go_cut [183] (fun v183 wc => ∃ (kq : Nat) (x183_78 : Bool), v183 = .bool x183_78 ∧ Aside0 (laws_FnGroups.j4 kq l1 x183_78 = some r) ∧ Aside0 (kq ≤ k4) ∧ Aside0 (Kd.S (Kd.slice 3 (Kd.int .i64)) 22 wc w.heap.size (fun k_ => some k_ ≠ ((.slice Ao12 t455.length co12) : Value).ownBlock ∧ some k_ ≠ ((.slice Ao41 t476.length co41) : Value).ownBlock ∧ some k_ ≠ ((.slice Ao42 t479.length co42) : Value).ownBlock ∧ k_ < N37 ∧ k_ < N48 ∧ k_ < N51) (.slice Ao11 t452.length co11) t452) ∧ Aside0 (Kd.R (Kd.int .i64) 3 wc w.heap.size (fun k_ => some k_ ≠ ((.slice Ao42 t479.length co42) : Value).ownBlock) (.slice Ao12 t455.length co12) t455) ∧ Aside0 (Kd.S (Kd.slice 3 (Kd.int .i64)) 22 wc w.heap.size (fun k_ => some k_ ≠ ((.slice Ao11 t452.length co11) : Value).ownBlock ∧ some k_ ≠ ((.slice Ao12 t455.length co12) : Value).ownBlock ∧ some k_ ≠ ((.slice Ao42 t479.length co42) : Value).ownBlock ∧ N37 ≤ k_ ∧ k_ < N48 ∧ k_ < N51) (.slice Ao41 t476.length co41) t476) ∧ Aside0 (Kd.R (Kd.int .i64) 3 wc w.heap.size (fun k_ => some k_ ≠ ((.slice Ao12 t455.length co12) : Value).ownBlock) (.slice Ao42 t479.length co42) t479) ∧ Aside0 (wc.heap[gb461]? = some (.cells #[.int .i64 t451, (.slice Ao11 t452.length co11), (.slice Ao12 t455.length co12)] 38 (0, 0))) ∧ Aside0 (wc.heap[gb484]? = some (.cells #[.int .i64 t475, (.slice Ao41 t476.length co41), (.slice Ao42 t479.length co42)] 38 (0, 0))) ∧ Aside0 (Below w.heap.size w wc))
              case first => as_aux_lemma =>
               have H := HC79.out; clear HC79
               by_cases c80 : x26_4 = t475
               ·rw [if_pos c80] at H
                have c80b0 : (x26_4 == t475) = true := beq_iff_eq.mpr c80
                have c80b1 : (x26_4 != t475) = false := bne_eq_false_iff_eq.mpr c80
                clear c80
                (first | rw [c80b0] | (simp only [i64_w, i32_w]; rw [c80b0]) | skip)
                by_cases c81 : t488 = true
                ·subst c81
                 have H1 : (laws_FnGroups.j4 k4 l1 (decide ((t485.length : Int) ≥ t475))) = some r := by rw [if_pos rfl] at H; exact H
                 clear H
                 have H := H1
                 clear H1
                 have H' := Aside0.mk H
                 clear H; have hnb82 := NB484_461.out; have hnc82 := NB461_484.out; obtain ⟨hcz83_0, hcz83_1, hcz83_2, hfz83_0, hfz83_1, hfz83_2⟩ := box3 BK484
                 obtain ⟨Ao84, co84, eo84⟩ := Kd.R_slice HO_18.out
                 subst eo84; go_wp2
                 go_meet
                 case rel => exact ⟨_, (decide ((t485.length : Int) ≥ t475)), er, H', ⟨by have := HJ6.out; have := HJ21.out; have := HJ34.out; have := HK4.out; first | omega | exact Nat.le_refl _⟩, ⟨by (with_reducible repeat (first | apply Kd.S_alloc | apply Kd.S_drewN | apply Kd.S_drew)); exact Kd.S_mono HO_462001.out (fun _ hk => ⟨hk.2.2.1, ⟨hk.2.2.2.1, ⟨hk.2.2.2.2.1, ⟨hk.2.2.2.2.2.1, ⟨hk.2.2.2.2.2.2.1, hk.2.2.2.2.2.2.2⟩⟩⟩⟩⟩)⟩, ⟨by (with_reducible repeat (first | apply Kd.R_alloc | apply Kd.R_drewN | apply Kd.R_drew)); exact Kd.R_mono HO_462002.out (fun _ hk => hk.2)⟩, ⟨by (with_reducible repeat (first | apply Kd.S_alloc | apply Kd.S_drewN | apply Kd.S_drew)); exact Kd.S_mono HO_485001.out (fun _ hk => ⟨hk.2.2.1, ⟨hk.2.2.2.1, ⟨hk.2.2.2.2.1, ⟨hk.2.2.2.2.2.1, ⟨hk.2.2.2.2.2.2.1, hk.2.2.2.2.2.2.2⟩⟩⟩⟩⟩)⟩, ⟨by (with_reducible repeat (first | apply Kd.R_alloc | apply Kd.R_drewN | apply Kd.R_drew)); exact Kd.R_mono HO_485002.out (fun _ hk => hk.2)⟩, ⟨blkd BK461⟩, ⟨blkd BK484⟩, ⟨belowg2 HB GE461 GE484⟩⟩
                ·replace c81 := Bool.eq_false_iff.mpr c81
                 subst c81
                 have H1 : (laws_FnGroups.j4 k4 l1 false) = some r := by rw [if_neg (show ¬ (false = true) by decide)] at H; exact H
                 clear H
                 have H := H1
                 clear H1
                 have H' := Aside0.mk H
                 clear H; have hnb85 := NB484_461.out; have hnc85 := NB461_484.out; obtain ⟨hcz86_0, hcz86_1, hcz86_2, hfz86_0, hfz86_1, hfz86_2⟩ := box3 BK484; go_wp2
                 go_meet
                 case rel => exact ⟨_, (false), er, H', ⟨by have := HJ6.out; have := HJ21.out; have := HJ34.out; have := HK4.out; first | omega | exact Nat.le_refl _⟩, ⟨by (with_reducible repeat (first | apply Kd.S_alloc | apply Kd.S_drewN | apply Kd.S_drew)); exact Kd.S_mono HO_462001.out (fun _ hk => ⟨hk.2.2.1, ⟨hk.2.2.2.1, ⟨hk.2.2.2.2.1, ⟨hk.2.2.2.2.2.1, ⟨hk.2.2.2.2.2.2.1, hk.2.2.2.2.2.2.2⟩⟩⟩⟩⟩)⟩, ⟨by (with_reducible repeat (first | apply Kd.R_alloc | apply Kd.R_drewN | apply Kd.R_drew)); exact Kd.R_mono HO_462002.out (fun _ hk => hk.2)⟩, ⟨by (with_reducible repeat (first | apply Kd.S_alloc | apply Kd.S_drewN | apply Kd.S_drew)); exact Kd.S_mono HO_485001.out (fun _ hk => ⟨hk.2.2.1, ⟨hk.2.2.2.1, ⟨hk.2.2.2.2.1, ⟨hk.2.2.2.2.2.1, ⟨hk.2.2.2.2.2.2.1, hk.2.2.2.2.2.2.2⟩⟩⟩⟩⟩)⟩, ⟨by (with_reducible repeat (first | apply Kd.R_alloc | apply Kd.R_drewN | apply Kd.R_drew)); exact Kd.R_mono HO_485002.out (fun _ hk => hk.2)⟩, ⟨blkd BK461⟩, ⟨blkd BK484⟩, ⟨belowg2 HB GE461 GE484⟩⟩
               ·rw [if_neg c80] at H
                have c80b0 : (x26_4 == t475) = false := beq_eq_false_iff_ne.mpr c80
                have c80b1 : (x26_4 != t475) = true := bne_iff_ne.mpr c80
                (first | rw [c80b0] | (simp only [i64_w, i32_w]; rw [c80b0]) | skip)
                have H' := Aside0.mk H
                clear H; have hnb87 := NB484_461.out; have hnc87 := NB461_484.out; obtain ⟨hcz88_0, hcz88_1, hcz88_2, hfz88_0, hfz88_1, hfz88_2⟩ := box3 BK484; go_wp2
                go_meet
                case rel => exact ⟨_, (true), er, H', ⟨by have := HJ6.out; have := HJ21.out; have := HJ34.out; have := HK4.out; first | omega | exact Nat.le_refl _⟩, ⟨by (with_reducible repeat (first | apply Kd.S_alloc | apply Kd.S_drewN | apply Kd.S_drew)); exact Kd.S_mono HO_462001.out (fun _ hk => ⟨hk.2.2.1, ⟨hk.2.2.2.1, ⟨hk.2.2.2.2.1, ⟨hk.2.2.2.2.2.1, ⟨hk.2.2.2.2.2.2.1, hk.2.2.2.2.2.2.2⟩⟩⟩⟩⟩)⟩, ⟨by (with_reducible repeat (first | apply Kd.R_alloc | apply Kd.R_drewN | apply Kd.R_drew)); exact Kd.R_mono HO_462002.out (fun _ hk => hk.2)⟩, ⟨by (with_reducible repeat (first | apply Kd.S_alloc | apply Kd.S_drewN | apply Kd.S_drew)); exact Kd.S_mono HO_485001.out (fun _ hk => ⟨hk.2.2.1, ⟨hk.2.2.2.1, ⟨hk.2.2.2.2.1, ⟨hk.2.2.2.2.2.1, ⟨hk.2.2.2.2.2.2.1, hk.2.2.2.2.2.2.2⟩⟩⟩⟩⟩)⟩, ⟨by (with_reducible repeat (first | apply Kd.R_alloc | apply Kd.R_drewN | apply Kd.R_drew)); exact Kd.R_mono HO_485002.out (fun _ hk => hk.2)⟩, ⟨blkd BK461⟩, ⟨blkd BK484⟩, ⟨belowg2 HB GE461 GE484⟩⟩
              case rest => as_aux_lemma =>
               clear HC79; (try clear c68b0)
               obtain ⟨kq, x183_78, rfl, HA, HJ78, HO_462001, HO_462002, HO_485001, HO_485002, BK461, BK484, HB⟩ := hcut
               cases kq with
               | zero => exact absurd HA.out (by simp [laws_FnGroups.j4])
               | succ kj78 =>
                have H := HA.out; clear HA
                simp only [laws_FnGroups.j4] at H
                by_cases c89 : x183_78 = true
                ·subst c89
                 have H1 : (some false) = some r := by rw [if_pos rfl] at H; exact H
                 clear H
                 have H := H1
                 clear H1
                 exact absurd (H.trans (congrArg some hr_)) (by simp)
                ·replace c89 := Bool.eq_false_iff.mpr c89
                 subst c89
                 have H1 : ((spec_DrawSumOf.f kj78 l1).bind fun t506 => ((impl_SumOf.f kj78 t506).bind fun bt509 => ((spec_SumOf.f kj78 t506).bind fun bt511 => (if (bt509.2 == bt511.2) = true then (some (bt509.1 == bt511.1)) else (some false))))) = some r := by rw [if_neg (show ¬ (false = true) by decide)] at H; exact H
                 clear H
                 have H := H1
                 clear H1; replace H := bS H; obtain ⟨t506, A90, H⟩ := H
                 replace H : ((impl_SumOf.f kj78 t506).bind fun bt509 => ((spec_SumOf.f kj78 t506).bind fun bt511 => (if (bt509.2 == bt511.2) = true then (some (bt509.1 == bt511.1)) else (some false)))) = some r := H
                 replace H := bS H; obtain ⟨⟨t509, t510⟩, A91, H⟩ := H
                 replace H : ((spec_SumOf.f kj78 t506).bind fun bt511 => (if (t510 == bt511.2) = true then (some (t509 == bt511.1)) else (some false))) = some r := H
                 replace H := bS H; obtain ⟨⟨t511, t512⟩, A92, H⟩ := H
                 replace H : (if (t510 == t512) = true then (some (t509 == t511)) else (some false)) = some r := H
                 by_cases c93 : (t510 == t512) = true
                 ·rw [if_pos c93] at H
                  have c93b0 : (t510 == t512) = true := c93
                  (try (have c93b1 : decide (t510 = t512) = true := by simpa using c93))
                  (try (have c93b2 : (t510 == t512) = true := by simpa using c93))
                  clear c93
                  obtain rfl := Option.some.inj H
                  go_wp2_with (first | ((with_reducible refine gate_callee (f := 71) rfl ?_); refine goesLa (some 185) rfl Try.func71 #[.slice A1 l1.length c1] rfl ?_; (with_reducible refine (spec_DrawSumOf.calls kj78 _ _ l1 t506 _ ?side1 ?side2 A90.out).mono ?_); (case side1 => exact cd (Kd.C_below HR1.out HB.out)); (case side2 => exact HC1.out); rintro e w94 ⟨v507, rfl, ho0, hb⟩; refine ⟨_, rfl, ?_⟩; replace HO_462001 := ak (Kd.S_elder' (sd HO_462001) (Kd.R_base ho0) hb); replace HO_485001 := ak (Kd.S_elder' (sd HO_485001) (Kd.R_base ho0) hb); have HO508 := ak (Kd.R_lower (Kd.R_new' (Kd.R_new' ho0 (Kd.R_lt (rdl HO_462002))) (Kd.R_lt (rdl HO_485002))) (below_size (belowg2 HB GE461 GE484))); replace HO_462002 := ak (Kd.R_elder' (rdl HO_462002) (Kd.R_base ho0) hb); replace HO_485002 := ak (Kd.R_elder' (rdl HO_485002) (Kd.R_base ho0) hb); replace BK461 := ak (blk_below (blkd BK461) hb); replace BK484 := ak (blk_below (blkd BK484) hb); replace HB := ak (below_step (belowg2 HB GE461 GE484) hb); (try clear hb); (try clear ho0); obtain ⟨Ao95, co95, eo95⟩ := Kd.R_slice HO508.out; subst eo95) | ((with_reducible refine gate_callee (f := 61) rfl ?_); refine goesLa (some 188) rfl Try.func61 #[.slice Ao95 t506.length co95] rfl ?_; (with_reducible refine (impl_SumOf.calls kj78 _ _ t506 t509 t510 _ ?side1 ?side2 A91.out).mono ?_); (case side1 => exact cd (Kd.R_reads' HO508.out).2.2); (case side2 => exact (Kd.R_reads' HO508.out).2.1); rintro e w' ⟨rfl, ⟨nd, rfl⟩⟩; refine ⟨_, rfl, ?_⟩) | ((with_reducible refine gate_callee (f := 72) rfl ?_); refine goesLa (some 193) rfl Try.func72 #[.slice Ao95 t506.length co95] rfl ?_; (with_reducible refine (spec_SumOf.calls kj78 _ _ t506 t511 t512 _ ?side1 ?side2 A92.out).mono ?_); (case side1 => exact cd (Kd.R_reads' HO508.out).2.2); (case side2 => exact (Kd.R_reads' HO508.out).2.1); rintro e w' ⟨rfl, ⟨nd, rfl⟩⟩; refine ⟨_, rfl, ?_⟩))
                  go_ret
                  exact ⟨er2, belowg2 HB GE461 GE484⟩
                 ·rw [if_neg c93] at H
                  have c93b0 : (t510 == t512) = false := by simpa using c93
                  (try (have c93b1 : decide (t510 = t512) = false := by simpa using c93))
                  (try (have c93b2 : (t510 == t512) = false := by simpa using c93))
                  (try (have c93b3 : ¬ (t510 = t512) := by simpa using c93))
                  clear c93
                  exact absurd (H.trans (congrArg some hr_)) (by simp)
          ·replace c66 := Bool.eq_false_iff.mpr c66
           subst c66
           have H1 : ((spec_DrawSumOf.f kj34 l1).bind fun t513 => ((impl_SumOf.f kj34 t513).bind fun bt516 => ((spec_SumOf.f kj34 t513).bind fun bt518 => (if (bt516.2 == bt518.2) = true then (some (bt516.1 == bt518.1)) else (some false))))) = some r := by rw [if_neg (show ¬ (false = true) by decide)] at H; exact H
           clear H
           have H := H1
           clear H1; replace H := bS H; obtain ⟨t513, A96, H⟩ := H
           replace H : ((impl_SumOf.f kj34 t513).bind fun bt516 => ((spec_SumOf.f kj34 t513).bind fun bt518 => (if (bt516.2 == bt518.2) = true then (some (bt516.1 == bt518.1)) else (some false)))) = some r := H
           replace H := bS H; obtain ⟨⟨t516, t517⟩, A97, H⟩ := H
           replace H : ((spec_SumOf.f kj34 t513).bind fun bt518 => (if (t517 == bt518.2) = true then (some (t516 == bt518.1)) else (some false))) = some r := H
           replace H := bS H; obtain ⟨⟨t518, t519⟩, A98, H⟩ := H
           replace H : (if (t517 == t519) = true then (some (t516 == t518)) else (some false)) = some r := H
           by_cases c99 : (t517 == t519) = true
           ·rw [if_pos c99] at H
            have c99b0 : (t517 == t519) = true := c99
            (try (have c99b1 : decide (t517 = t519) = true := by simpa using c99))
            (try (have c99b2 : (t517 == t519) = true := by simpa using c99))
            clear c99
            obtain rfl := Option.some.inj H
            go_wp2_with (first | ((with_reducible refine gate_callee (f := 71) rfl ?_); refine goesLa (some 185) rfl Try.func71 #[.slice A1 l1.length c1] rfl ?_; (with_reducible refine (spec_DrawSumOf.calls kj34 _ _ l1 t513 _ ?side1 ?side2 A96.out).mono ?_); (case side1 => exact cd (Kd.C_below HR1.out HB.out)); (case side2 => exact HC1.out); rintro e w100 ⟨v514, rfl, ho0, hb⟩; refine ⟨_, rfl, ?_⟩; replace HO_22 := ak (Kd.S_elder' (sd HO_22) (Kd.R_base ho0) hb); replace HO_462001 := ak (Kd.S_elder' (sd HO_462001) (Kd.R_base ho0) hb); replace HO_485001 := ak (Kd.S_elder' (sd HO_485001) (Kd.R_base ho0) hb); have HO515 := ak (Kd.R_lower (Kd.R_new' (Kd.R_new' (Kd.R_new' ho0 (Kd.R_lt (rdl HO_18))) (Kd.R_lt (rdl HO_462002))) (Kd.R_lt (rdl HO_485002))) (below_size (belowg2 HB GE461 GE484))); replace HO_18 := ak (Kd.R_elder' (rdl HO_18) (Kd.R_base ho0) hb); replace HO_462002 := ak (Kd.R_elder' (rdl HO_462002) (Kd.R_base ho0) hb); replace HO_485002 := ak (Kd.R_elder' (rdl HO_485002) (Kd.R_base ho0) hb); replace BK461 := ak (blk_below (blkd BK461) hb); replace BK484 := ak (blk_below (blkd BK484) hb); replace HB := ak (below_step (belowg2 HB GE461 GE484) hb); (try clear hb); (try clear ho0); obtain ⟨Ao101, co101, eo101⟩ := Kd.R_slice HO515.out; subst eo101) | ((with_reducible refine gate_callee (f := 61) rfl ?_); refine goesLa (some 188) rfl Try.func61 #[.slice Ao101 t513.length co101] rfl ?_; (with_reducible refine (impl_SumOf.calls kj34 _ _ t513 t516 t517 _ ?side1 ?side2 A97.out).mono ?_); (case side1 => exact cd (Kd.R_reads' HO515.out).2.2); (case side2 => exact (Kd.R_reads' HO515.out).2.1); rintro e w' ⟨rfl, ⟨nd, rfl⟩⟩; refine ⟨_, rfl, ?_⟩) | ((with_reducible refine gate_callee (f := 72) rfl ?_); refine goesLa (some 193) rfl Try.func72 #[.slice Ao101 t513.length co101] rfl ?_; (with_reducible refine (spec_SumOf.calls kj34 _ _ t513 t518 t519 _ ?side1 ?side2 A98.out).mono ?_); (case side1 => exact cd (Kd.R_reads' HO515.out).2.2); (case side2 => exact (Kd.R_reads' HO515.out).2.1); rintro e w' ⟨rfl, ⟨nd, rfl⟩⟩; refine ⟨_, rfl, ?_⟩))
            go_ret
            exact ⟨er2, belowg2 HB GE461 GE484⟩
           ·rw [if_neg c99] at H
            have c99b0 : (t517 == t519) = false := by simpa using c99
            (try (have c99b1 : decide (t517 = t519) = false := by simpa using c99))
            (try (have c99b2 : (t517 == t519) = false := by simpa using c99))
            (try (have c99b3 : ¬ (t517 = t519) := by simpa using c99))
            clear c99
            exact absurd (H.trans (congrArg some hr_)) (by simp)

/-- THE ONE PURE STATEMENT of laws_FnGroups: yours. -/
def laws_FnGroups.Pure : Prop := ∀ (l0 : List Int) (l1 : List Int), l0.length ≤ maxLen → l0.length * 1 ≤ 140737488351232 → (∀ x ∈ l0, (Lit.int .u8 x).wf = true) → l1.length ≤ maxLen → l1.length * 1 ≤ 140737488351232 → (∀ x ∈ l1, (Lit.int .u8 x).wf = true) → ∃ k, laws_FnGroups.f k l0 l1 = some true
theorem laws_FnGroups.walk (P : laws_FnGroups.Pure) (a0 : Option Addr) (len0 cap0 : Nat) (z0 : List Int) (a1 : Option Addr) (len1 cap1 : Nat) (z1 : List Int) (w : World) (w0 : (a0 = none ∧ len0 = 0 ∧ cap0 = 0 ∧ z0 = []) ∨ ∃ x, a0 = some x ∧ len0 ≤ cap0 ∧ cap0 ≤ maxLen ∧ z0.length = cap0 ∧ (∀ i, i < z0.length → w.cell? (x.add i) = some (.int .u8 (z0.getD i 0))) ∧ ∀ n ∈ z0, (Lit.int .u8 n).wf = true) (y0 : len0 * 1 ≤ 140737488351232) (w1 : (a1 = none ∧ len1 = 0 ∧ cap1 = 0 ∧ z1 = []) ∨ ∃ x, a1 = some x ∧ len1 ≤ cap1 ∧ cap1 ≤ maxLen ∧ z1.length = cap1 ∧ (∀ i, i < z1.length → w.cell? (x.add i) = some (.int .u8 (z1.getD i 0))) ∧ ∀ n ∈ z1, (Lit.int .u8 n).wf = true) (y1 : len1 * 1 ≤ 140737488351232) :
  Calls Try.prog 13 #[.slice a0 len0 cap0, .slice a1 len1 cap1] w fun e w' => e = .returned (.bool true) ∧ Below w.heap.size w w' := by
 obtain ⟨l0, rfl, hr0, hm0, hw0, hc0⟩ := ReadsInt.ofRowC w0
 obtain ⟨l1, rfl, hr1, hm1, hw1, hc1⟩ := ReadsInt.ofRowC w1
 obtain ⟨k, h⟩ := P l0 l1 hm0 y0 hw0 hm1 y1 hw1
 refine (laws_FnGroups.calls k _ _ l0 _ _ l1 true w (Kd.C_of_reads (d := (0 : Int)) (h1 := fun _ => rfl) hr0) hc0 (Kd.C_of_reads (d := (0 : Int)) (h1 := fun _ => rfl) hr1) hc1 h rfl).mono ?_
 rintro e w' ⟨rfl, hd⟩
 exact ⟨rfl, hd⟩

end Go.Proofs.Ytpibdgknmjjolaa.QFnGroups
