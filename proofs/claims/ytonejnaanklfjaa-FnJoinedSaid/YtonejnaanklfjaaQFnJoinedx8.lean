-- printed by this session's own program (wip/tools/pp.py: the kit's print.py with changes); Lean checks it
import Derived.Test.YtonejnaanklfjaaQFnJoinedx0
import Derived.Test.YtonejnaanklfjaaQFnJoinedx1
import Derived.Test.YtonejnaanklfjaaQFnJoinedx2
import Derived.Test.YtonejnaanklfjaaQFnJoinedx4
import Derived.Test.YtonejnaanklfjaaQFnJoinedx5
import Derived.Test.YtonejnaanklfjaaQFnJoinedx6
import Derived.Test.YtonejnaanklfjaaQFnJoinedx7
namespace Go.Proofs.Ytonejnaanklfjaa.QFnJoined
open Go.RowKit Go.Proofs.YtonejnaanklfjaaW.PrintWords Go.Proofs.YtonejnaanklfjaaW.PrintLast Go.Proofs.YtonejnaanklfjaaW.PrintMore
attribute [local go_sem] max2_int min2_int max_two min_two max_three min_three max_four min_four strLss strGtr strLeq strGeq   -- for this text's walks alone
set_option linter.unusedVariables false
set_option linter.unusedSimpArgs false

attribute [local go_sem high] eqA80
/-! ### laws_FnJoined: function 9 -/
mutual
def laws_FnJoined.j0 : Nat → List Int → Bool → Bool → Int → Int → Int → Int → Int → Int → Option (Bool)
 | 0, _, _, _, _, _, _, _, _, _ => none
 | k + 1, x1, x8, x66, x291000, x291001, x292000, x292001, x296000, x296001 => if x66 = true then (some false) else (if x8 = true then ((impl_JoinWindows.f k x292000 x292001 x291000 x291001).bind fun bt300 => ((impl_JoinWindows.f k x296000 x296001 x291000 x291001).bind fun bt304 => ((impl_SeenIn.f k x296000 x296001).bind fun bt308 => ((impl_SeenIn.f k x291000 x291001).bind fun bt312 => ((impl_SeenIn.f k x292000 x292001).bind fun bt316 => ((impl_LowestOf.f x296000 x296001).bind fun bt320 => ((impl_GoodWindow.f x296000 x296001).bind fun t322 => (if t322 = true then (if bt300.2.2 = true then (if (!(bt300.1 == x296000) || (!(bt300.2.1 == x296001))) = true then (laws_FnJoined.j1 k x1 bt308.1 bt312.1 bt316.1 bt320.1 true) else (if bt304.2.2 = true then (if (!(bt304.1 == x296000) || (!(bt304.2.1 == x296001))) = true then (laws_FnJoined.j1 k x1 bt308.1 bt312.1 bt316.1 bt320.1 true) else (if bt308.2 = true then (if bt312.2 = true then (if bt316.2 = true then (laws_FnJoined.j1 k x1 bt308.1 bt312.1 bt316.1 bt320.1 (!bt320.2)) else (laws_FnJoined.j1 k x1 bt308.1 bt312.1 bt316.1 bt320.1 true)) else (laws_FnJoined.j1 k x1 bt308.1 bt312.1 bt316.1 bt320.1 true)) else (laws_FnJoined.j1 k x1 bt308.1 bt312.1 bt316.1 bt320.1 true))) else (laws_FnJoined.j1 k x1 bt308.1 bt312.1 bt316.1 bt320.1 true))) else (laws_FnJoined.j1 k x1 bt308.1 bt312.1 bt316.1 bt320.1 true)) else (laws_FnJoined.j1 k x1 bt308.1 bt312.1 bt316.1 bt320.1 true))))))))) else (laws_FnJoined.j4 k x1))
def laws_FnJoined.j4 : Nat → List Int → Option (Bool)
 | 0, _ => none
 | k + 1, x1 => (spec_DrawSeenIn.f k x1).bind fun bt337 => ((impl_SeenIn.f k bt337.1 bt337.2).bind fun bt340 => ((spec_SeenIn.f k bt337.1 bt337.2).bind fun bt344 => ((impl_LowestOf.f bt337.1 bt337.2).bind fun bt348 => ((spec_LowestOf.f k bt337.1 bt337.2).bind fun bt350 => (if (bt340.2 == bt344.2) = true then ((laws_sameInts.f k bt340.1 bt344.1).bind fun t352 => (if t352 = true then (if (bt348.2 == bt350.2) = true then (some (bt348.1 == bt350.1)) else (some false)) else (some false))) else (some false))))))
def laws_FnJoined.j1 : Nat → List Int → List Int → List Int → List Int → Int → Bool → Option (Bool)
 | 0, _, _, _, _, _, _ => none
 | k + 1, x1, x15, x17, x19, x21, x136 => if x136 = true then (some false) else (laws_FnJoined.l0 k x1 x15 x17 x19 x21 (x15.length : Int) 0)
def laws_FnJoined.l0 : Nat → List Int → List Int → List Int → List Int → Int → Int → Int → Option (Bool)
 | 0, _, _, _, _, _, _, _ => none
 | k + 1, x1, x15, x17, x19, x21, x138, x139 => if x139 < x138 then (if 0 ≤ x139 then (if x139 < (x15.length : Int) then ((laws_has.f k x17 (rd x15 x139)).bind fun t324 => (if t324 = true then (if (rd x15 x139) < x21 then (some false) else (laws_FnJoined.l0 k x1 x15 x17 x19 x21 x138 (wrap64 (x139 + 1)))) else ((laws_has.f k x19 (rd x15 x139)).bind fun t325 => (if t325 = true then (if (rd x15 x139) < x21 then (some false) else (laws_FnJoined.l0 k x1 x15 x17 x19 x21 x138 (wrap64 (x139 + 1)))) else (some false))))) else (none)) else (none)) else ((some (([] : List Int) : List Int)).bind fun y326 => (if y326.length + x17.length < 17592186044416 then ((some (y326 ++ x17 : List Int)).bind fun y329 => (if y329.length + x19.length < 17592186044416 then ((some (y329 ++ x19 : List Int)).bind fun y332 => (laws_FnJoined.l1 k x1 x15 x21 y332 (y332.length : Int) 0)) else (none))) else (none)))
def laws_FnJoined.l1 : Nat → List Int → List Int → Int → List Int → Int → Int → Option (Bool)
 | 0, _, _, _, _, _, _ => none
 | k + 1, x1, x15, x21, x163, x164, x165 => if x165 < x164 then (if 0 ≤ x165 then (if x165 < (x163.length : Int) then (if (rd x163 x165) ≥ x21 then ((laws_has.f k x15 (rd x163 x165)).bind fun t336 => (if t336 = true then (laws_FnJoined.l1 k x1 x15 x21 x163 x164 (wrap64 (x165 + 1))) else (some false))) else (laws_FnJoined.l1 k x1 x15 x21 x163 x164 (wrap64 (x165 + 1)))) else (none)) else (none)) else (laws_FnJoined.j4 k x1)
end
def laws_FnJoined.f (k : Nat) (l0 : List Int) (l1 : List Int) : Option (Bool) := if (wrap64 ((l0.length : Int) + (l1.length : Int))) > 1048576 then (some true) else ((spec_DrawJoinWindows.f k l0).bind fun bt286 => ((impl_JoinWindows.f k bt286.1 bt286.2.1 bt286.2.2.1 bt286.2.2.2).bind fun bt292 => ((spec_JoinWindows.f k bt286.1 bt286.2.1 bt286.2.2.1 bt286.2.2.2).bind fun bt296 => (if (bt292.2.2 != bt296.2.2) = true then (laws_FnJoined.j0 k l1 bt292.2.2 true bt286.1 bt286.2.1 bt286.2.2.1 bt286.2.2.2 bt292.1 bt292.2.1) else (laws_FnJoined.j0 k l1 bt292.2.2 (!(bt292.1 == bt296.1) || (!(bt292.2.1 == bt296.2.1))) bt286.1 bt286.2.1 bt286.2.2.1 bt286.2.2.2 bt292.1 bt292.2.1)))))
theorem laws_FnJoined.mono_l : ∀ k, (∀ y0 y1 y2 y3 y4 y5 y6 y7 y8, LeO (laws_FnJoined.j0 k y0 y1 y2 y3 y4 y5 y6 y7 y8) (laws_FnJoined.j0 (k + 1) y0 y1 y2 y3 y4 y5 y6 y7 y8)) ∧ (∀ y0, LeO (laws_FnJoined.j4 k y0) (laws_FnJoined.j4 (k + 1) y0)) ∧ (∀ y0 y1 y2 y3 y4 y5, LeO (laws_FnJoined.j1 k y0 y1 y2 y3 y4 y5) (laws_FnJoined.j1 (k + 1) y0 y1 y2 y3 y4 y5)) ∧ (∀ y0 y1 y2 y3 y4 y5 y6, LeO (laws_FnJoined.l0 k y0 y1 y2 y3 y4 y5 y6) (laws_FnJoined.l0 (k + 1) y0 y1 y2 y3 y4 y5 y6)) ∧ (∀ y0 y1 y2 y3 y4 y5, LeO (laws_FnJoined.l1 k y0 y1 y2 y3 y4 y5) (laws_FnJoined.l1 (k + 1) y0 y1 y2 y3 y4 y5))
 | 0 => ⟨fun _ _ _ _ _ _ _ _ _ r h => by simp [laws_FnJoined.j0] at h, fun _ r h => by simp [laws_FnJoined.j4] at h, fun _ _ _ _ _ _ r h => by simp [laws_FnJoined.j1] at h, fun _ _ _ _ _ _ _ r h => by simp [laws_FnJoined.l0] at h, fun _ _ _ _ _ _ r h => by simp [laws_FnJoined.l1] at h⟩
 | k + 1 => by
  obtain ⟨ih0, ih1, ih2, ih3, ih4⟩ := laws_FnJoined.mono_l k
  refine ⟨?_, ?_, ?_, ?_, ?_⟩
  ·intro y0 y1 y2 y3 y4 y5 y6 y7 y8
   unfold laws_FnJoined.j0
   repeat' first
   | (with_reducible exact ih0 _ _ _ _ _ _ _ _ _)
   | (with_reducible exact ih1 _)
   | (with_reducible exact ih2 _ _ _ _ _ _)
   | (with_reducible exact ih3 _ _ _ _ _ _ _)
   | (with_reducible exact ih4 _ _ _ _ _ _)
   | (with_reducible exact impl_JoinWindows.mono _ _ _ _ _)
   | (with_reducible exact impl_SeenIn.mono _ _ _)
   | (with_reducible exact laws_has.mono _ _ _)
   | (with_reducible exact laws_sameInts.mono _ _ _)
   | (with_reducible exact spec_DrawJoinWindows.mono _ _)
   | (with_reducible exact spec_DrawSeenIn.mono _ _)
   | (with_reducible exact spec_JoinWindows.mono _ _ _ _ _)
   | (with_reducible exact spec_LowestOf.mono _ _ _)
   | (with_reducible exact spec_SeenIn.mono _ _ _)
   | (with_reducible exact LeO.refl _)
   | (with_reducible exact LeO.none _)
   | (with_reducible refine LeO.ite ?_ ?_)
   | (with_reducible refine LeO.bind ?_ (fun _ => ?_))
   | exact ih0 _ _ _ _ _ _ _ _ _
   | exact ih1 _
   | exact ih2 _ _ _ _ _ _
   | exact ih3 _ _ _ _ _ _ _
   | exact ih4 _ _ _ _ _ _
   | exact impl_JoinWindows.mono _ _ _ _ _
   | exact impl_SeenIn.mono _ _ _
   | exact laws_has.mono _ _ _
   | exact laws_sameInts.mono _ _ _
   | exact spec_DrawJoinWindows.mono _ _
   | exact spec_DrawSeenIn.mono _ _
   | exact spec_JoinWindows.mono _ _ _ _ _
   | exact spec_LowestOf.mono _ _ _
   | exact spec_SeenIn.mono _ _ _
   | exact LeO.none _
   | refine LeO.ite ?_ ?_
   | refine LeO.bind ?_ (fun _ => ?_)
  ·intro y0
   unfold laws_FnJoined.j4
   repeat' first
   | (with_reducible exact ih0 _ _ _ _ _ _ _ _ _)
   | (with_reducible exact ih1 _)
   | (with_reducible exact ih2 _ _ _ _ _ _)
   | (with_reducible exact ih3 _ _ _ _ _ _ _)
   | (with_reducible exact ih4 _ _ _ _ _ _)
   | (with_reducible exact impl_JoinWindows.mono _ _ _ _ _)
   | (with_reducible exact impl_SeenIn.mono _ _ _)
   | (with_reducible exact laws_has.mono _ _ _)
   | (with_reducible exact laws_sameInts.mono _ _ _)
   | (with_reducible exact spec_DrawJoinWindows.mono _ _)
   | (with_reducible exact spec_DrawSeenIn.mono _ _)
   | (with_reducible exact spec_JoinWindows.mono _ _ _ _ _)
   | (with_reducible exact spec_LowestOf.mono _ _ _)
   | (with_reducible exact spec_SeenIn.mono _ _ _)
   | (with_reducible exact LeO.refl _)
   | (with_reducible exact LeO.none _)
   | (with_reducible refine LeO.ite ?_ ?_)
   | (with_reducible refine LeO.bind ?_ (fun _ => ?_))
   | exact ih0 _ _ _ _ _ _ _ _ _
   | exact ih1 _
   | exact ih2 _ _ _ _ _ _
   | exact ih3 _ _ _ _ _ _ _
   | exact ih4 _ _ _ _ _ _
   | exact impl_JoinWindows.mono _ _ _ _ _
   | exact impl_SeenIn.mono _ _ _
   | exact laws_has.mono _ _ _
   | exact laws_sameInts.mono _ _ _
   | exact spec_DrawJoinWindows.mono _ _
   | exact spec_DrawSeenIn.mono _ _
   | exact spec_JoinWindows.mono _ _ _ _ _
   | exact spec_LowestOf.mono _ _ _
   | exact spec_SeenIn.mono _ _ _
   | exact LeO.none _
   | refine LeO.ite ?_ ?_
   | refine LeO.bind ?_ (fun _ => ?_)
  ·intro y0 y1 y2 y3 y4 y5
   unfold laws_FnJoined.j1
   repeat' first
   | (with_reducible exact ih0 _ _ _ _ _ _ _ _ _)
   | (with_reducible exact ih1 _)
   | (with_reducible exact ih2 _ _ _ _ _ _)
   | (with_reducible exact ih3 _ _ _ _ _ _ _)
   | (with_reducible exact ih4 _ _ _ _ _ _)
   | (with_reducible exact impl_JoinWindows.mono _ _ _ _ _)
   | (with_reducible exact impl_SeenIn.mono _ _ _)
   | (with_reducible exact laws_has.mono _ _ _)
   | (with_reducible exact laws_sameInts.mono _ _ _)
   | (with_reducible exact spec_DrawJoinWindows.mono _ _)
   | (with_reducible exact spec_DrawSeenIn.mono _ _)
   | (with_reducible exact spec_JoinWindows.mono _ _ _ _ _)
   | (with_reducible exact spec_LowestOf.mono _ _ _)
   | (with_reducible exact spec_SeenIn.mono _ _ _)
   | (with_reducible exact LeO.refl _)
   | (with_reducible exact LeO.none _)
   | (with_reducible refine LeO.ite ?_ ?_)
   | (with_reducible refine LeO.bind ?_ (fun _ => ?_))
   | exact ih0 _ _ _ _ _ _ _ _ _
   | exact ih1 _
   | exact ih2 _ _ _ _ _ _
   | exact ih3 _ _ _ _ _ _ _
   | exact ih4 _ _ _ _ _ _
   | exact impl_JoinWindows.mono _ _ _ _ _
   | exact impl_SeenIn.mono _ _ _
   | exact laws_has.mono _ _ _
   | exact laws_sameInts.mono _ _ _
   | exact spec_DrawJoinWindows.mono _ _
   | exact spec_DrawSeenIn.mono _ _
   | exact spec_JoinWindows.mono _ _ _ _ _
   | exact spec_LowestOf.mono _ _ _
   | exact spec_SeenIn.mono _ _ _
   | exact LeO.none _
   | refine LeO.ite ?_ ?_
   | refine LeO.bind ?_ (fun _ => ?_)
  ·intro y0 y1 y2 y3 y4 y5 y6
   unfold laws_FnJoined.l0
   repeat' first
   | (with_reducible exact ih0 _ _ _ _ _ _ _ _ _)
   | (with_reducible exact ih1 _)
   | (with_reducible exact ih2 _ _ _ _ _ _)
   | (with_reducible exact ih3 _ _ _ _ _ _ _)
   | (with_reducible exact ih4 _ _ _ _ _ _)
   | (with_reducible exact impl_JoinWindows.mono _ _ _ _ _)
   | (with_reducible exact impl_SeenIn.mono _ _ _)
   | (with_reducible exact laws_has.mono _ _ _)
   | (with_reducible exact laws_sameInts.mono _ _ _)
   | (with_reducible exact spec_DrawJoinWindows.mono _ _)
   | (with_reducible exact spec_DrawSeenIn.mono _ _)
   | (with_reducible exact spec_JoinWindows.mono _ _ _ _ _)
   | (with_reducible exact spec_LowestOf.mono _ _ _)
   | (with_reducible exact spec_SeenIn.mono _ _ _)
   | (with_reducible exact LeO.refl _)
   | (with_reducible exact LeO.none _)
   | (with_reducible refine LeO.ite ?_ ?_)
   | (with_reducible refine LeO.bind ?_ (fun _ => ?_))
   | exact ih0 _ _ _ _ _ _ _ _ _
   | exact ih1 _
   | exact ih2 _ _ _ _ _ _
   | exact ih3 _ _ _ _ _ _ _
   | exact ih4 _ _ _ _ _ _
   | exact impl_JoinWindows.mono _ _ _ _ _
   | exact impl_SeenIn.mono _ _ _
   | exact laws_has.mono _ _ _
   | exact laws_sameInts.mono _ _ _
   | exact spec_DrawJoinWindows.mono _ _
   | exact spec_DrawSeenIn.mono _ _
   | exact spec_JoinWindows.mono _ _ _ _ _
   | exact spec_LowestOf.mono _ _ _
   | exact spec_SeenIn.mono _ _ _
   | exact LeO.none _
   | refine LeO.ite ?_ ?_
   | refine LeO.bind ?_ (fun _ => ?_)
  ·intro y0 y1 y2 y3 y4 y5
   unfold laws_FnJoined.l1
   repeat' first
   | (with_reducible exact ih0 _ _ _ _ _ _ _ _ _)
   | (with_reducible exact ih1 _)
   | (with_reducible exact ih2 _ _ _ _ _ _)
   | (with_reducible exact ih3 _ _ _ _ _ _ _)
   | (with_reducible exact ih4 _ _ _ _ _ _)
   | (with_reducible exact impl_JoinWindows.mono _ _ _ _ _)
   | (with_reducible exact impl_SeenIn.mono _ _ _)
   | (with_reducible exact laws_has.mono _ _ _)
   | (with_reducible exact laws_sameInts.mono _ _ _)
   | (with_reducible exact spec_DrawJoinWindows.mono _ _)
   | (with_reducible exact spec_DrawSeenIn.mono _ _)
   | (with_reducible exact spec_JoinWindows.mono _ _ _ _ _)
   | (with_reducible exact spec_LowestOf.mono _ _ _)
   | (with_reducible exact spec_SeenIn.mono _ _ _)
   | (with_reducible exact LeO.refl _)
   | (with_reducible exact LeO.none _)
   | (with_reducible refine LeO.ite ?_ ?_)
   | (with_reducible refine LeO.bind ?_ (fun _ => ?_))
   | exact ih0 _ _ _ _ _ _ _ _ _
   | exact ih1 _
   | exact ih2 _ _ _ _ _ _
   | exact ih3 _ _ _ _ _ _ _
   | exact ih4 _ _ _ _ _ _
   | exact impl_JoinWindows.mono _ _ _ _ _
   | exact impl_SeenIn.mono _ _ _
   | exact laws_has.mono _ _ _
   | exact laws_sameInts.mono _ _ _
   | exact spec_DrawJoinWindows.mono _ _
   | exact spec_DrawSeenIn.mono _ _
   | exact spec_JoinWindows.mono _ _ _ _ _
   | exact spec_LowestOf.mono _ _ _
   | exact spec_SeenIn.mono _ _ _
   | exact LeO.none _
   | refine LeO.ite ?_ ?_
   | refine LeO.bind ?_ (fun _ => ?_)
theorem laws_FnJoined.mono : ∀ a0 a1 k, LeO (laws_FnJoined.f k a0 a1) (laws_FnJoined.f (k + 1) a0 a1) := by
 intro a0 a1 k
 obtain ⟨ih0, ih1, ih2, ih3, ih4⟩ := laws_FnJoined.mono_l k
 unfold laws_FnJoined.f
 repeat' first
   | (with_reducible exact ih0 _ _ _ _ _ _ _ _ _)
   | (with_reducible exact ih1 _)
   | (with_reducible exact ih2 _ _ _ _ _ _)
   | (with_reducible exact ih3 _ _ _ _ _ _ _)
   | (with_reducible exact ih4 _ _ _ _ _ _)
   | (with_reducible exact impl_JoinWindows.mono _ _ _ _ _)
   | (with_reducible exact impl_SeenIn.mono _ _ _)
   | (with_reducible exact laws_has.mono _ _ _)
   | (with_reducible exact laws_sameInts.mono _ _ _)
   | (with_reducible exact spec_DrawJoinWindows.mono _ _)
   | (with_reducible exact spec_DrawSeenIn.mono _ _)
   | (with_reducible exact spec_JoinWindows.mono _ _ _ _ _)
   | (with_reducible exact spec_LowestOf.mono _ _ _)
   | (with_reducible exact spec_SeenIn.mono _ _ _)
   | (with_reducible exact LeO.refl _)
   | (with_reducible exact LeO.none _)
   | (with_reducible refine LeO.ite ?_ ?_)
   | (with_reducible refine LeO.bind ?_ (fun _ => ?_))
   | exact ih0 _ _ _ _ _ _ _ _ _
   | exact ih1 _
   | exact ih2 _ _ _ _ _ _
   | exact ih3 _ _ _ _ _ _ _
   | exact ih4 _ _ _ _ _ _
   | exact impl_JoinWindows.mono _ _ _ _ _
   | exact impl_SeenIn.mono _ _ _
   | exact laws_has.mono _ _ _
   | exact laws_sameInts.mono _ _ _
   | exact spec_DrawJoinWindows.mono _ _
   | exact spec_DrawSeenIn.mono _ _
   | exact spec_JoinWindows.mono _ _ _ _ _
   | exact spec_LowestOf.mono _ _ _
   | exact spec_SeenIn.mono _ _ _
   | exact LeO.none _
   | refine LeO.ite ?_ ?_
   | refine LeO.bind ?_ (fun _ => ?_)
set_option maxHeartbeats 8000000 in
set_option maxRecDepth 100000 in
theorem laws_FnJoined.calls (k : Nat) (A0 : Option Addr) (c0 : Nat) (l0 : List Int) (A1 : Option Addr) (c1 : Nat) (l1 : List Int) (r : Bool) (w : World) (hr0 : Kd.C (Kd.int .u8) w A0 l0.length l0) (hc0 : l0.length ≤ c0) (hr1 : Kd.C (Kd.int .u8) w A1 l1.length l1) (hc1 : l1.length ≤ c1) (h : laws_FnJoined.f k l0 l1 = some r) (hr_ : r = true) :
  Calls Try.prog 9 #[.slice A0 l0.length c0, .slice A1 l1.length c1] w fun e w' => e = .returned (.bool r) ∧ Below w.heap.size w w' := by
 have hu80 := Try.underlying80
 have HR0 := Aside0.mk hr0
 have HC0 := Aside0.mk hc0
 clear hr0 hc0
 have HR1 := Aside0.mk hr1
 have HC1 := Aside0.mk hc1
 clear hr1 hc1
 have HB := Aside0.mk (Below.refl w.heap.size w)
 have H : (if (wrap64 ((l0.length : Int) + (l1.length : Int))) > 1048576 then (some true) else ((spec_DrawJoinWindows.f k l0).bind fun bt286 => ((impl_JoinWindows.f k bt286.1 bt286.2.1 bt286.2.2.1 bt286.2.2.2).bind fun bt292 => ((spec_JoinWindows.f k bt286.1 bt286.2.1 bt286.2.2.1 bt286.2.2.2).bind fun bt296 => (if (bt292.2.2 != bt296.2.2) = true then (laws_FnJoined.j0 k l1 bt292.2.2 true bt286.1 bt286.2.1 bt286.2.2.1 bt286.2.2.2 bt292.1 bt292.2.1) else (laws_FnJoined.j0 k l1 bt292.2.2 (!(bt292.1 == bt296.1) || (!(bt292.2.1 == bt296.2.1))) bt286.1 bt286.2.1 bt286.2.2.1 bt286.2.2.2 bt292.1 bt292.2.1)))))) = some r := h
 clear h
 by_cases c3 : (wrap64 ((l0.length : Int) + (l1.length : Int))) > 1048576
 ·rw [if_pos c3] at H
  have c3b0 : decide (1048576 < (wrap64 ((l0.length : Int) + (l1.length : Int)))) = true := decide_eq_true c3
  clear c3
  obtain rfl := Option.some.inj H
  go_enter Try.func9, Try.ntmps9
  go_wp2
  go_ret
  exact ⟨by first | rfl | (simp [errW_none, errW_some] <;> rfl) | (simp [*, errW_none, errW_some] <;> rfl), by repeat (first | (with_reducible first | exact HB.out | apply below_alloc | apply pw_below_drewN | apply below_drew1) | exact HB.out)⟩
 ·rw [if_neg c3] at H
  have c3b0 : decide (1048576 < (wrap64 ((l0.length : Int) + (l1.length : Int)))) = false := decide_eq_false c3
  clear c3
  replace H := Option.bind_eq_some_iff.mp H
  obtain ⟨⟨t286, t287, t288, t289⟩, A40, H⟩ := H
  replace H : ((impl_JoinWindows.f k t286 t287 t288 t289).bind fun bt292 => ((spec_JoinWindows.f k t286 t287 t288 t289).bind fun bt296 => (if (bt292.2.2 != bt296.2.2) = true then (laws_FnJoined.j0 k l1 bt292.2.2 true t286 t287 t288 t289 bt292.1 bt292.2.1) else (laws_FnJoined.j0 k l1 bt292.2.2 (!(bt292.1 == bt296.1) || (!(bt292.2.1 == bt296.2.1))) t286 t287 t288 t289 bt292.1 bt292.2.1)))) = some r := H
  have A4 := Aside0.mk A40
  clear A40
  replace H := Option.bind_eq_some_iff.mp H
  obtain ⟨⟨t292, t293, t294⟩, A50, H⟩ := H
  replace H : ((spec_JoinWindows.f k t286 t287 t288 t289).bind fun bt296 => (if (t294 != bt296.2.2) = true then (laws_FnJoined.j0 k l1 t294 true t286 t287 t288 t289 t292 t293) else (laws_FnJoined.j0 k l1 t294 (!(t292 == bt296.1) || (!(t293 == bt296.2.1))) t286 t287 t288 t289 t292 t293))) = some r := H
  have A5 := Aside0.mk A50
  clear A50
  replace H := Option.bind_eq_some_iff.mp H
  obtain ⟨⟨t296, t297, t298⟩, A60, H⟩ := H
  replace H : (if (t294 != t298) = true then (laws_FnJoined.j0 k l1 t294 true t286 t287 t288 t289 t292 t293) else (laws_FnJoined.j0 k l1 t294 (!(t292 == t296) || (!(t293 == t297))) t286 t287 t288 t289 t292 t293)) = some r := H
  have A6 := Aside0.mk A60
  clear A60
  have HC7 := Aside0.mk H
  clear H
  go_enter Try.func9, Try.ntmps9
  go_upto_region 6 with (first | ((with_reducible refine gate_callee (f := 56) rfl ?_); refine goesLa (some 44) rfl Try.func56 #[.slice A0 l0.length c0] rfl ?_; (with_reducible refine (spec_DrawJoinWindows.calls k _ _ l0 t286 t287 t288 t289 _ ?side1 ?side2 A4.out).mono ?_); (case side1 => repeat (first | exact HR0.out | (with_reducible refine Kd.C_alloc ?_ _) | (with_reducible refine Kd.C_drewN ?_ _) | (with_reducible refine Kd.C_drew ?_))); (case side2 => exact HC0.out); rintro e w8 ⟨rfl, hb⟩; refine ⟨_, rfl, ?_⟩; have n0_ := Aside0.mk (below_step (belowd HB) hb); clear HB; have HB := n0_; clear n0_; (try clear hb); (try clear hb2); (try clear hk); (try clear hi)) | ((with_reducible refine gate_dst (N := 5) rfl ?_); refine box_event ?hg (N := 5) ?hd (cs := #[.int .i64 0, .int .i64 0]) (t := 80) ?hr ?_; (case hd => rfl); (case hg => rfl); (case hr => first | (go_simp; done) | (go_simp; rfl)); intro gb290 hg w9 hbox hb; have n0_ := Aside0.mk (below_step (belowd HB) hb); have n1_ := Aside0.mk (hbox); have n2_ := Aside0.mk ((by rw [hg]; exact (below_size (belowd HB)) : w.heap.size ≤ gb290)); have n3_ := Aside0.mk ((by rw [hg]; exact (below_size (belowd HB)) : w.heap.size ≤ gb290)); clear HB; have HB := n0_; have BK290 := n1_; have GW290 := n2_; have GE290 := n3_; clear n0_ n1_ n2_ n3_; clear hb hbox hg) | ((with_reducible refine gate_dst (N := 6) rfl ?_); refine box_event ?hg (N := 6) ?hd (cs := #[.int .i64 0, .int .i64 0]) (t := 80) ?hr ?_; (case hd => rfl); (case hg => rfl); (case hr => first | (go_simp; done) | (go_simp; rfl)); intro gb291 hg w10 hbox hb; have n0_ := Aside0.mk (blk_below (blkd BK290) hb); have n1_ := Aside0.mk (below_step (by repeat (first | (with_reducible first | exact HB.out | apply below_alloc | apply pw_below_drewN | apply below_drew1 | refine below_set ?_ GE290.out) | exact HB.out)) hb); have n2_ := Aside0.mk (hbox); have n3_ := Aside0.mk ((by rw [hg]; exact (below_size (by repeat (first | (with_reducible first | exact HB.out | apply below_alloc | apply pw_below_drewN | apply below_drew1 | refine below_set ?_ GE290.out) | exact HB.out))) : w.heap.size ≤ gb291)); have n4_ := Aside0.mk ((by rw [hg]; exact (below_size (by repeat (first | (with_reducible first | exact HB.out | apply below_alloc | apply pw_below_drewN | apply below_drew1 | refine below_set ?_ GE290.out) | exact HB.out))) : w.heap.size ≤ gb291)); have n5_ := Aside0.mk ((by rw [hg]; exact Nat.ne_of_lt (blk_lt (blkd BK290)) : gb290 ≠ gb291)); have n6_ := Aside0.mk ((by rw [hg]; exact Nat.ne_of_gt (blk_lt (blkd BK290)) : gb291 ≠ gb290)); clear BK290; clear HB; have BK290 := n0_; have HB := n1_; have BK291 := n2_; have GW291 := n3_; have GE291 := n4_; have NB290_291 := n5_; have NB291_290 := n6_; clear n0_ n1_ n2_ n3_ n4_ n5_ n6_; clear hb hbox hg; have hnb11 := NB290_291.out; have hnc11 := NB291_290.out; have hcz12_0 : w10.cell? ⟨gb290, 0, none⟩ = some (.int .i64 0) := (blk_cell BK290.out 0).trans rfl; have hcz12_1 : w10.cell? ⟨gb290, 1, none⟩ = some (.int .i64 0) := (blk_cell BK290.out 1).trans rfl; have hfz12_0 := blk_frozen BK290.out 0; have hfz12_1 := blk_frozen BK290.out 1; have hcz13_0 : w10.cell? ⟨gb291, 0, none⟩ = some (.int .i64 0) := (blk_cell BK291.out 0).trans rfl; have hcz13_1 : w10.cell? ⟨gb291, 1, none⟩ = some (.int .i64 0) := (blk_cell BK291.out 1).trans rfl; have hfz13_0 := blk_frozen BK291.out 0; have hfz13_1 := blk_frozen BK291.out 1) | ((with_reducible refine gate_callee (f := 57) rfl ?_); refine goesLa (some 50) rfl Try.func57 #[.agg #[.int .i64 t286, .int .i64 t287], .agg #[.int .i64 t288, .int .i64 t289]] rfl ?_; (with_reducible refine (impl_JoinWindows.calls k t286 t287 t288 t289 t292 t293 t294 _ A5.out).mono ?_); rintro e w14 ⟨rfl, hb⟩; refine ⟨_, rfl, ?_⟩; have n0_ := Aside0.mk (blk_below (g := gb290) (o := .cells #[.int .i64 t286, .int .i64 t287] 80 (0, 0)) (by (with_reducible repeat (first | refine blk_drewN ?_ _ | refine blk_drew ?_ | refine blk_alloc ?_ _)); refine blk_far ?_ NB290_291.out _; (with_reducible repeat (first | refine blk_drewN ?_ _ | refine blk_drew ?_ | refine blk_alloc ?_ _)); refine blk_far ?_ NB290_291.out _; (with_reducible repeat (first | refine blk_drewN ?_ _ | refine blk_drew ?_ | refine blk_alloc ?_ _)); refine blk_put (cs := #[.int .i64 t286, .int .i64 0]) ?_ 1 _ rfl; (with_reducible repeat (first | refine blk_drewN ?_ _ | refine blk_drew ?_ | refine blk_alloc ?_ _)); refine blk_put (cs := #[.int .i64 0, .int .i64 0]) ?_ 0 _ rfl; (with_reducible repeat (first | refine blk_drewN ?_ _ | refine blk_drew ?_ | refine blk_alloc ?_ _)); exact BK290.out) hb); have n1_ := Aside0.mk (blk_below (g := gb291) (o := .cells #[.int .i64 t288, .int .i64 t289] 80 (0, 0)) (by (with_reducible repeat (first | refine blk_drewN ?_ _ | refine blk_drew ?_ | refine blk_alloc ?_ _)); refine blk_put (cs := #[.int .i64 t288, .int .i64 0]) ?_ 1 _ rfl; (with_reducible repeat (first | refine blk_drewN ?_ _ | refine blk_drew ?_ | refine blk_alloc ?_ _)); refine blk_put (cs := #[.int .i64 0, .int .i64 0]) ?_ 0 _ rfl; (with_reducible repeat (first | refine blk_drewN ?_ _ | refine blk_drew ?_ | refine blk_alloc ?_ _)); refine blk_far ?_ NB291_290.out _; (with_reducible repeat (first | refine blk_drewN ?_ _ | refine blk_drew ?_ | refine blk_alloc ?_ _)); refine blk_far ?_ NB291_290.out _; (with_reducible repeat (first | refine blk_drewN ?_ _ | refine blk_drew ?_ | refine blk_alloc ?_ _)); exact BK291.out) hb); have n2_ := Aside0.mk (below_step (by repeat (first | (with_reducible first | exact HB.out | apply below_alloc | apply pw_below_drewN | apply below_drew1 | refine below_set ?_ GE290.out | refine below_set ?_ GE291.out) | exact HB.out)) hb); clear BK290; clear BK291; clear HB; have BK290 := n0_; have BK291 := n1_; have HB := n2_; clear n0_ n1_ n2_; (try clear hb); (try clear hb2); (try clear hk); (try clear hi)) | ((with_reducible refine gate_dst (N := 7) rfl ?_); refine box_event ?hg (N := 7) ?hd (cs := #[.int .i64 0, .int .i64 0]) (t := 80) ?hr ?_; (case hd => rfl); (case hg => rfl); (case hr => first | (go_simp; done) | (go_simp; rfl)); intro gb295 hg w15 hbox hb; have n0_ := Aside0.mk (blk_below (blkd BK290) hb); have n1_ := Aside0.mk (blk_below (blkd BK291) hb); have n2_ := Aside0.mk (below_step (by repeat (first | (with_reducible first | exact HB.out | apply below_alloc | apply pw_below_drewN | apply below_drew1 | refine below_set ?_ GE290.out | refine below_set ?_ GE291.out) | exact HB.out)) hb); have n3_ := Aside0.mk (hbox); have n4_ := Aside0.mk ((by rw [hg]; exact (below_size (by repeat (first | (with_reducible first | exact HB.out | apply below_alloc | apply pw_below_drewN | apply below_drew1 | refine below_set ?_ GE290.out | refine below_set ?_ GE291.out) | exact HB.out))) : w.heap.size ≤ gb295)); have n5_ := Aside0.mk ((by rw [hg]; exact (below_size (by repeat (first | (with_reducible first | exact HB.out | apply below_alloc | apply pw_below_drewN | apply below_drew1 | refine below_set ?_ GE290.out | refine below_set ?_ GE291.out) | exact HB.out))) : w.heap.size ≤ gb295)); have n6_ := Aside0.mk ((by rw [hg]; exact Nat.ne_of_lt (blk_lt (blkd BK290)) : gb290 ≠ gb295)); have n7_ := Aside0.mk ((by rw [hg]; exact Nat.ne_of_gt (blk_lt (blkd BK290)) : gb295 ≠ gb290)); have n8_ := Aside0.mk ((by rw [hg]; exact Nat.ne_of_lt (blk_lt (blkd BK291)) : gb291 ≠ gb295)); have n9_ := Aside0.mk ((by rw [hg]; exact Nat.ne_of_gt (blk_lt (blkd BK291)) : gb295 ≠ gb291)); clear BK290; clear BK291; clear HB; have BK290 := n0_; have BK291 := n1_; have HB := n2_; have BK295 := n3_; have GW295 := n4_; have GE295 := n5_; have NB290_295 := n6_; have NB295_290 := n7_; have NB291_295 := n8_; have NB295_291 := n9_; clear n0_ n1_ n2_ n3_ n4_ n5_ n6_ n7_ n8_ n9_; clear hb hbox hg; have hnb16 := NB295_290.out; have hnc16 := NB290_295.out; have hnb17 := NB295_291.out; have hnc17 := NB291_295.out; have hcz18_0 : w15.cell? ⟨gb295, 0, none⟩ = some (.int .i64 0) := (blk_cell BK295.out 0).trans rfl; have hcz18_1 : w15.cell? ⟨gb295, 1, none⟩ = some (.int .i64 0) := (blk_cell BK295.out 1).trans rfl; have hfz18_0 := blk_frozen BK295.out 0; have hfz18_1 := blk_frozen BK295.out 1; have hcz19_0 : w15.cell? ⟨gb290, 0, none⟩ = some (.int .i64 t286) := (blk_cell BK290.out 0).trans rfl; have hcz19_1 : w15.cell? ⟨gb290, 1, none⟩ = some (.int .i64 t287) := (blk_cell BK290.out 1).trans rfl; have hfz19_0 := blk_frozen BK290.out 0; have hfz19_1 := blk_frozen BK290.out 1; have hcz20_0 : w15.cell? ⟨gb291, 0, none⟩ = some (.int .i64 t288) := (blk_cell BK291.out 0).trans rfl; have hcz20_1 : w15.cell? ⟨gb291, 1, none⟩ = some (.int .i64 t289) := (blk_cell BK291.out 1).trans rfl; have hfz20_0 := blk_frozen BK291.out 0; have hfz20_1 := blk_frozen BK291.out 1) | ((with_reducible refine gate_callee (f := 58) rfl ?_); refine goesLa (some 56) rfl Try.func58 #[.agg #[.int .i64 t286, .int .i64 t287], .agg #[.int .i64 t288, .int .i64 t289]] rfl ?_; (with_reducible refine (spec_JoinWindows.calls k t286 t287 t288 t289 t296 t297 t298 _ A6.out).mono ?_); rintro e w21 ⟨rfl, hb⟩; refine ⟨_, rfl, ?_⟩; have n0_ := Aside0.mk (blk_below (g := gb290) (o := .cells #[.int .i64 t286, .int .i64 t287] 80 (0, 0)) (by (with_reducible repeat (first | refine blk_drewN ?_ _ | refine blk_drew ?_ | refine blk_alloc ?_ _)); refine blk_far ?_ NB290_295.out _; (with_reducible repeat (first | refine blk_drewN ?_ _ | refine blk_drew ?_ | refine blk_alloc ?_ _)); refine blk_far ?_ NB290_295.out _; (with_reducible repeat (first | refine blk_drewN ?_ _ | refine blk_drew ?_ | refine blk_alloc ?_ _)); exact BK290.out) hb); have n1_ := Aside0.mk (blk_below (g := gb291) (o := .cells #[.int .i64 t288, .int .i64 t289] 80 (0, 0)) (by (with_reducible repeat (first | refine blk_drewN ?_ _ | refine blk_drew ?_ | refine blk_alloc ?_ _)); refine blk_far ?_ NB291_295.out _; (with_reducible repeat (first | refine blk_drewN ?_ _ | refine blk_drew ?_ | refine blk_alloc ?_ _)); refine blk_far ?_ NB291_295.out _; (with_reducible repeat (first | refine blk_drewN ?_ _ | refine blk_drew ?_ | refine blk_alloc ?_ _)); exact BK291.out) hb); have n2_ := Aside0.mk (blk_below (g := gb295) (o := .cells #[.int .i64 t292, .int .i64 t293] 80 (0, 0)) (by (with_reducible repeat (first | refine blk_drewN ?_ _ | refine blk_drew ?_ | refine blk_alloc ?_ _)); refine blk_put (cs := #[.int .i64 t292, .int .i64 0]) ?_ 1 _ rfl; (with_reducible repeat (first | refine blk_drewN ?_ _ | refine blk_drew ?_ | refine blk_alloc ?_ _)); refine blk_put (cs := #[.int .i64 0, .int .i64 0]) ?_ 0 _ rfl; (with_reducible repeat (first | refine blk_drewN ?_ _ | refine blk_drew ?_ | refine blk_alloc ?_ _)); exact BK295.out) hb); have n3_ := Aside0.mk (below_step (by repeat (first | (with_reducible first | exact HB.out | apply below_alloc | apply pw_below_drewN | apply below_drew1 | refine below_set ?_ GE290.out | refine below_set ?_ GE291.out | refine below_set ?_ GE295.out) | exact HB.out)) hb); clear BK290; clear BK291; clear BK295; clear HB; have BK290 := n0_; have BK291 := n1_; have BK295 := n2_; have HB := n3_; clear n0_ n1_ n2_ n3_; (try clear hb); (try clear hb2); (try clear hk); (try clear hi)) | ((with_reducible refine gate_dst (N := 9) rfl ?_); refine box_event ?hg (N := 9) ?hd (cs := #[.int .i64 0, .int .i64 0]) (t := 80) ?hr ?_; (case hd => rfl); (case hg => rfl); (case hr => first | (go_simp; done) | (go_simp; rfl)); intro gb299 hg w22 hbox hb; have n0_ := Aside0.mk (blk_below (blkd BK290) hb); have n1_ := Aside0.mk (blk_below (blkd BK291) hb); have n2_ := Aside0.mk (blk_below (blkd BK295) hb); have n3_ := Aside0.mk (below_step (by repeat (first | (with_reducible first | exact HB.out | apply below_alloc | apply pw_below_drewN | apply below_drew1 | refine below_set ?_ GE290.out | refine below_set ?_ GE291.out | refine below_set ?_ GE295.out) | exact HB.out)) hb); have n4_ := Aside0.mk (hbox); have n5_ := Aside0.mk ((by rw [hg]; exact (below_size (by repeat (first | (with_reducible first | exact HB.out | apply below_alloc | apply pw_below_drewN | apply below_drew1 | refine below_set ?_ GE290.out | refine below_set ?_ GE291.out | refine below_set ?_ GE295.out) | exact HB.out))) : w.heap.size ≤ gb299)); have n6_ := Aside0.mk ((by rw [hg]; exact (below_size (by repeat (first | (with_reducible first | exact HB.out | apply below_alloc | apply pw_below_drewN | apply below_drew1 | refine below_set ?_ GE290.out | refine below_set ?_ GE291.out | refine below_set ?_ GE295.out) | exact HB.out))) : w.heap.size ≤ gb299)); have n7_ := Aside0.mk ((by rw [hg]; exact Nat.ne_of_lt (blk_lt (blkd BK290)) : gb290 ≠ gb299)); have n8_ := Aside0.mk ((by rw [hg]; exact Nat.ne_of_gt (blk_lt (blkd BK290)) : gb299 ≠ gb290)); have n9_ := Aside0.mk ((by rw [hg]; exact Nat.ne_of_lt (blk_lt (blkd BK291)) : gb291 ≠ gb299)); have n10_ := Aside0.mk ((by rw [hg]; exact Nat.ne_of_gt (blk_lt (blkd BK291)) : gb299 ≠ gb291)); have n11_ := Aside0.mk ((by rw [hg]; exact Nat.ne_of_lt (blk_lt (blkd BK295)) : gb295 ≠ gb299)); have n12_ := Aside0.mk ((by rw [hg]; exact Nat.ne_of_gt (blk_lt (blkd BK295)) : gb299 ≠ gb295)); clear BK290; clear BK291; clear BK295; clear HB; have BK290 := n0_; have BK291 := n1_; have BK295 := n2_; have HB := n3_; have BK299 := n4_; have GW299 := n5_; have GE299 := n6_; have NB290_299 := n7_; have NB299_290 := n8_; have NB291_299 := n9_; have NB299_291 := n10_; have NB295_299 := n11_; have NB299_295 := n12_; clear n0_ n1_ n2_ n3_ n4_ n5_ n6_ n7_ n8_ n9_ n10_ n11_ n12_; clear hb hbox hg; have hnb23 := NB299_290.out; have hnc23 := NB290_299.out; have hnb24 := NB299_291.out; have hnc24 := NB291_299.out; have hnb25 := NB299_295.out; have hnc25 := NB295_299.out; have hcz26_0 : w22.cell? ⟨gb299, 0, none⟩ = some (.int .i64 0) := (blk_cell BK299.out 0).trans rfl; have hcz26_1 : w22.cell? ⟨gb299, 1, none⟩ = some (.int .i64 0) := (blk_cell BK299.out 1).trans rfl; have hfz26_0 := blk_frozen BK299.out 0; have hfz26_1 := blk_frozen BK299.out 1))
  (try simp only [Act.put, List.setIfInBounds_toArray, List.set_cons_zero, List.set_cons_succ])
  go_cut [66] (fun v66 wc => ∃ (kq : Nat) (x66_6 : Bool), v66 = .bool x66_6 ∧ Aside0 (laws_FnJoined.j0 kq l1 t294 x66_6 t286 t287 t288 t289 t292 t293 = some r) ∧ Aside0 (kq ≤ k) ∧ Aside0 (wc.heap[gb290]? = some (.cells #[.int .i64 t286, .int .i64 t287] 80 (0, 0))) ∧ Aside0 (wc.heap[gb291]? = some (.cells #[.int .i64 t288, .int .i64 t289] 80 (0, 0))) ∧ Aside0 (wc.heap[gb295]? = some (.cells #[.int .i64 t292, .int .i64 t293] 80 (0, 0))) ∧ Aside0 (wc.heap[gb299]? = some (.cells #[.int .i64 t296, .int .i64 t297] 80 (0, 0))) ∧ Aside0 (Below w.heap.size w wc))
  case first => as_aux_lemma =>
   have H := HC7.out
   clear HC7
   by_cases c27 : (t294 != t298) = true
   ·rw [if_pos c27] at H
    have c27b0 : (t294 != t298) = true := c27
    (try (have c27b1 : decide (t294 = t298) = false := by simpa using c27))
    (try (have c27b2 : (t294 == t298) = false := by simpa using c27))
    (try (have c27b3 : ¬ (t294 = t298) := by simpa using c27))
    clear c27
    (first | rw [c27b0] | (simp only [i64_w, i32_w]; rw [c27b0]) | skip)
    have H' := Aside0.mk H
    clear H
    go_wp2
    go_meet
    case rel => exact ⟨_, (true), (by first | rfl | (simp; done) | (simp [*]; done)), H', ⟨by first | omega | exact Nat.le_refl _⟩, ⟨by (with_reducible repeat (first | refine blk_drewN ?_ _ | refine blk_drew ?_ | refine blk_alloc ?_ _)); refine blk_far ?_ NB290_299.out _; (with_reducible repeat (first | refine blk_drewN ?_ _ | refine blk_drew ?_ | refine blk_alloc ?_ _)); refine blk_far ?_ NB290_299.out _; (with_reducible repeat (first | refine blk_drewN ?_ _ | refine blk_drew ?_ | refine blk_alloc ?_ _)); exact BK290.out⟩, ⟨by (with_reducible repeat (first | refine blk_drewN ?_ _ | refine blk_drew ?_ | refine blk_alloc ?_ _)); refine blk_far ?_ NB291_299.out _; (with_reducible repeat (first | refine blk_drewN ?_ _ | refine blk_drew ?_ | refine blk_alloc ?_ _)); refine blk_far ?_ NB291_299.out _; (with_reducible repeat (first | refine blk_drewN ?_ _ | refine blk_drew ?_ | refine blk_alloc ?_ _)); exact BK291.out⟩, ⟨by (with_reducible repeat (first | refine blk_drewN ?_ _ | refine blk_drew ?_ | refine blk_alloc ?_ _)); refine blk_far ?_ NB295_299.out _; (with_reducible repeat (first | refine blk_drewN ?_ _ | refine blk_drew ?_ | refine blk_alloc ?_ _)); refine blk_far ?_ NB295_299.out _; (with_reducible repeat (first | refine blk_drewN ?_ _ | refine blk_drew ?_ | refine blk_alloc ?_ _)); exact BK295.out⟩, ⟨by (with_reducible repeat (first | refine blk_drewN ?_ _ | refine blk_drew ?_ | refine blk_alloc ?_ _)); refine blk_put (cs := #[.int .i64 t296, .int .i64 0]) ?_ 1 _ rfl; (with_reducible repeat (first | refine blk_drewN ?_ _ | refine blk_drew ?_ | refine blk_alloc ?_ _)); refine blk_put (cs := #[.int .i64 0, .int .i64 0]) ?_ 0 _ rfl; (with_reducible repeat (first | refine blk_drewN ?_ _ | refine blk_drew ?_ | refine blk_alloc ?_ _)); exact BK299.out⟩, ⟨by repeat (first | (with_reducible first | exact HB.out | apply below_alloc | apply pw_below_drewN | apply below_drew1 | refine below_set ?_ GE290.out | refine below_set ?_ GE291.out | refine below_set ?_ GE295.out | refine below_set ?_ GE299.out) | exact HB.out)⟩⟩
   ·rw [if_neg c27] at H
    have c27b0 : (t294 != t298) = false := by simpa using c27
    (try (have c27b1 : decide (t294 = t298) = true := by simpa using c27))
    (try (have c27b2 : (t294 == t298) = true := by simpa using c27))
    clear c27
    (first | rw [c27b0] | (simp only [i64_w, i32_w]; rw [c27b0]) | skip)
    have H' := Aside0.mk H
    clear H
    have hnb28 := NB295_290.out
    have hnc28 := NB290_295.out
    have hnb29 := NB295_291.out
    have hnc29 := NB291_295.out
    have hnb30 := NB295_299.out
    have hnc30 := NB299_295.out
    have hcz31_0 : w22.cell? ⟨gb295, 0, none⟩ = some (.int .i64 t292) := (blk_cell BK295.out 0).trans rfl
    have hcz31_1 : w22.cell? ⟨gb295, 1, none⟩ = some (.int .i64 t293) := (blk_cell BK295.out 1).trans rfl
    have hfz31_0 := blk_frozen BK295.out 0
    have hfz31_1 := blk_frozen BK295.out 1
    have hnb32 := NB299_290.out
    have hnc32 := NB290_299.out
    have hnb33 := NB299_291.out
    have hnc33 := NB291_299.out
    have hcz34_0 : w22.cell? ⟨gb299, 0, none⟩ = some (.int .i64 0) := (blk_cell BK299.out 0).trans rfl
    have hcz34_1 : w22.cell? ⟨gb299, 1, none⟩ = some (.int .i64 0) := (blk_cell BK299.out 1).trans rfl
    have hfz34_0 := blk_frozen BK299.out 0
    have hfz34_1 := blk_frozen BK299.out 1
    go_wp2
    go_meet
    case rel => exact ⟨_, ((!(t292 == t296) || (!(t293 == t297)))), (by first | rfl | (simp; done) | (simp [*]; done)), H', ⟨by first | omega | exact Nat.le_refl _⟩, ⟨by (with_reducible repeat (first | refine blk_drewN ?_ _ | refine blk_drew ?_ | refine blk_alloc ?_ _)); refine blk_far ?_ NB290_299.out _; (with_reducible repeat (first | refine blk_drewN ?_ _ | refine blk_drew ?_ | refine blk_alloc ?_ _)); refine blk_far ?_ NB290_299.out _; (with_reducible repeat (first | refine blk_drewN ?_ _ | refine blk_drew ?_ | refine blk_alloc ?_ _)); exact BK290.out⟩, ⟨by (with_reducible repeat (first | refine blk_drewN ?_ _ | refine blk_drew ?_ | refine blk_alloc ?_ _)); refine blk_far ?_ NB291_299.out _; (with_reducible repeat (first | refine blk_drewN ?_ _ | refine blk_drew ?_ | refine blk_alloc ?_ _)); refine blk_far ?_ NB291_299.out _; (with_reducible repeat (first | refine blk_drewN ?_ _ | refine blk_drew ?_ | refine blk_alloc ?_ _)); exact BK291.out⟩, ⟨by (with_reducible repeat (first | refine blk_drewN ?_ _ | refine blk_drew ?_ | refine blk_alloc ?_ _)); refine blk_far ?_ NB295_299.out _; (with_reducible repeat (first | refine blk_drewN ?_ _ | refine blk_drew ?_ | refine blk_alloc ?_ _)); refine blk_far ?_ NB295_299.out _; (with_reducible repeat (first | refine blk_drewN ?_ _ | refine blk_drew ?_ | refine blk_alloc ?_ _)); exact BK295.out⟩, ⟨by (with_reducible repeat (first | refine blk_drewN ?_ _ | refine blk_drew ?_ | refine blk_alloc ?_ _)); refine blk_put (cs := #[.int .i64 t296, .int .i64 0]) ?_ 1 _ rfl; (with_reducible repeat (first | refine blk_drewN ?_ _ | refine blk_drew ?_ | refine blk_alloc ?_ _)); refine blk_put (cs := #[.int .i64 0, .int .i64 0]) ?_ 0 _ rfl; (with_reducible repeat (first | refine blk_drewN ?_ _ | refine blk_drew ?_ | refine blk_alloc ?_ _)); exact BK299.out⟩, ⟨by repeat (first | (with_reducible first | exact HB.out | apply below_alloc | apply pw_below_drewN | apply below_drew1 | refine below_set ?_ GE290.out | refine below_set ?_ GE291.out | refine below_set ?_ GE295.out | refine below_set ?_ GE299.out) | exact HB.out)⟩⟩
  case rest => as_aux_lemma =>
   clear HC7
   try clear c1
   try clear c2
   try clear p2
   try clear c3
   try clear c3b0
   try clear c5
   try clear p6
   try clear c9
   try clear c11
   try clear c16
   try clear c17
   try clear c23
   try clear c24
   try clear c25
   try clear c27
   try clear c27b0
   try clear c27b1
   try clear c27b2
   try clear c28
   try clear c29
   try clear c30
   try clear c32
   try clear c33
   try clear hcz12_0
   try clear hcz12_1
   try clear hcz13_0
   try clear hcz13_1
   try clear hcz18_0
   try clear hcz18_1
   try clear hcz19_0
   try clear hcz19_1
   try clear hcz20_0
   try clear hcz20_1
   try clear hcz26_0
   try clear hcz26_1
   try clear hcz31_0
   try clear hcz31_1
   try clear hcz34_0
   try clear hcz34_1
   try clear hfz12_0
   try clear hfz12_1
   try clear hfz13_0
   try clear hfz13_1
   try clear hfz18_0
   try clear hfz18_1
   try clear hfz19_0
   try clear hfz19_1
   try clear hfz20_0
   try clear hfz20_1
   try clear hfz26_0
   try clear hfz26_1
   try clear hfz31_0
   try clear hfz31_1
   try clear hfz34_0
   try clear hfz34_1
   obtain ⟨kq, x66_6, rfl, HA, HJ6, BK290, BK291, BK295, BK299, HB⟩ := hcut
   cases kq with
   | zero => exact absurd HA.out (by simp [laws_FnJoined.j0])
   | succ kj6 =>
    have H := HA.out
    clear HA
    simp only [laws_FnJoined.j0] at H
    by_cases c35 : x66_6 = true
    ·subst c35
     have H1 : (some false) = some r := by rw [if_pos rfl] at H; exact H
     clear H
     have H := H1
     clear H1
     exact absurd (H.trans (congrArg some hr_)) (by simp)
    ·replace c35 := Bool.eq_false_iff.mpr c35
     subst c35
     have H1 : (if t294 = true then ((impl_JoinWindows.f kj6 t288 t289 t286 t287).bind fun bt300 => ((impl_JoinWindows.f kj6 t292 t293 t286 t287).bind fun bt304 => ((impl_SeenIn.f kj6 t292 t293).bind fun bt308 => ((impl_SeenIn.f kj6 t286 t287).bind fun bt312 => ((impl_SeenIn.f kj6 t288 t289).bind fun bt316 => ((impl_LowestOf.f t292 t293).bind fun bt320 => ((impl_GoodWindow.f t292 t293).bind fun t322 => (if t322 = true then (if bt300.2.2 = true then (if (!(bt300.1 == t292) || (!(bt300.2.1 == t293))) = true then (laws_FnJoined.j1 kj6 l1 bt308.1 bt312.1 bt316.1 bt320.1 true) else (if bt304.2.2 = true then (if (!(bt304.1 == t292) || (!(bt304.2.1 == t293))) = true then (laws_FnJoined.j1 kj6 l1 bt308.1 bt312.1 bt316.1 bt320.1 true) else (if bt308.2 = true then (if bt312.2 = true then (if bt316.2 = true then (laws_FnJoined.j1 kj6 l1 bt308.1 bt312.1 bt316.1 bt320.1 (!bt320.2)) else (laws_FnJoined.j1 kj6 l1 bt308.1 bt312.1 bt316.1 bt320.1 true)) else (laws_FnJoined.j1 kj6 l1 bt308.1 bt312.1 bt316.1 bt320.1 true)) else (laws_FnJoined.j1 kj6 l1 bt308.1 bt312.1 bt316.1 bt320.1 true))) else (laws_FnJoined.j1 kj6 l1 bt308.1 bt312.1 bt316.1 bt320.1 true))) else (laws_FnJoined.j1 kj6 l1 bt308.1 bt312.1 bt316.1 bt320.1 true)) else (laws_FnJoined.j1 kj6 l1 bt308.1 bt312.1 bt316.1 bt320.1 true))))))))) else (laws_FnJoined.j4 kj6 l1)) = some r := by rw [if_neg (show ¬ (false = true) by decide)] at H; exact H
     clear H
     have H := H1
     clear H1
     have HC36 := Aside0.mk H
     clear H
     go_upto_if 67 with (fail)
     go_cut [] (fun wc => ∃ (kq : Nat), Aside0 (laws_FnJoined.j4 kq l1 = some r) ∧ Aside0 (kq ≤ kj6) ∧ Aside0 (wc.heap[gb290]? = some (.cells #[.int .i64 t286, .int .i64 t287] 80 (0, 0))) ∧ Aside0 (wc.heap[gb291]? = some (.cells #[.int .i64 t288, .int .i64 t289] 80 (0, 0))) ∧ Aside0 (wc.heap[gb295]? = some (.cells #[.int .i64 t292, .int .i64 t293] 80 (0, 0))) ∧ Aside0 (wc.heap[gb299]? = some (.cells #[.int .i64 t296, .int .i64 t297] 80 (0, 0))) ∧ Aside0 (Below w.heap.size w wc))
     case first => as_aux_lemma =>
      have H := HC36.out
      clear HC36
      by_cases c37 : t294 = true
      ·subst c37
       have H1 : ((impl_JoinWindows.f kj6 t288 t289 t286 t287).bind fun bt300 => ((impl_JoinWindows.f kj6 t292 t293 t286 t287).bind fun bt304 => ((impl_SeenIn.f kj6 t292 t293).bind fun bt308 => ((impl_SeenIn.f kj6 t286 t287).bind fun bt312 => ((impl_SeenIn.f kj6 t288 t289).bind fun bt316 => ((impl_LowestOf.f t292 t293).bind fun bt320 => ((impl_GoodWindow.f t292 t293).bind fun t322 => (if t322 = true then (if bt300.2.2 = true then (if (!(bt300.1 == t292) || (!(bt300.2.1 == t293))) = true then (laws_FnJoined.j1 kj6 l1 bt308.1 bt312.1 bt316.1 bt320.1 true) else (if bt304.2.2 = true then (if (!(bt304.1 == t292) || (!(bt304.2.1 == t293))) = true then (laws_FnJoined.j1 kj6 l1 bt308.1 bt312.1 bt316.1 bt320.1 true) else (if bt308.2 = true then (if bt312.2 = true then (if bt316.2 = true then (laws_FnJoined.j1 kj6 l1 bt308.1 bt312.1 bt316.1 bt320.1 (!bt320.2)) else (laws_FnJoined.j1 kj6 l1 bt308.1 bt312.1 bt316.1 bt320.1 true)) else (laws_FnJoined.j1 kj6 l1 bt308.1 bt312.1 bt316.1 bt320.1 true)) else (laws_FnJoined.j1 kj6 l1 bt308.1 bt312.1 bt316.1 bt320.1 true))) else (laws_FnJoined.j1 kj6 l1 bt308.1 bt312.1 bt316.1 bt320.1 true))) else (laws_FnJoined.j1 kj6 l1 bt308.1 bt312.1 bt316.1 bt320.1 true)) else (laws_FnJoined.j1 kj6 l1 bt308.1 bt312.1 bt316.1 bt320.1 true))))))))) = some r := by rw [if_pos rfl] at H; exact H
       clear H
       have H := H1
       clear H1
       replace H := Option.bind_eq_some_iff.mp H
       obtain ⟨⟨t300, t301, t302⟩, A380, H⟩ := H
       replace H : ((impl_JoinWindows.f kj6 t292 t293 t286 t287).bind fun bt304 => ((impl_SeenIn.f kj6 t292 t293).bind fun bt308 => ((impl_SeenIn.f kj6 t286 t287).bind fun bt312 => ((impl_SeenIn.f kj6 t288 t289).bind fun bt316 => ((impl_LowestOf.f t292 t293).bind fun bt320 => ((impl_GoodWindow.f t292 t293).bind fun t322 => (if t322 = true then (if t302 = true then (if (!(t300 == t292) || (!(t301 == t293))) = true then (laws_FnJoined.j1 kj6 l1 bt308.1 bt312.1 bt316.1 bt320.1 true) else (if bt304.2.2 = true then (if (!(bt304.1 == t292) || (!(bt304.2.1 == t293))) = true then (laws_FnJoined.j1 kj6 l1 bt308.1 bt312.1 bt316.1 bt320.1 true) else (if bt308.2 = true then (if bt312.2 = true then (if bt316.2 = true then (laws_FnJoined.j1 kj6 l1 bt308.1 bt312.1 bt316.1 bt320.1 (!bt320.2)) else (laws_FnJoined.j1 kj6 l1 bt308.1 bt312.1 bt316.1 bt320.1 true)) else (laws_FnJoined.j1 kj6 l1 bt308.1 bt312.1 bt316.1 bt320.1 true)) else (laws_FnJoined.j1 kj6 l1 bt308.1 bt312.1 bt316.1 bt320.1 true))) else (laws_FnJoined.j1 kj6 l1 bt308.1 bt312.1 bt316.1 bt320.1 true))) else (laws_FnJoined.j1 kj6 l1 bt308.1 bt312.1 bt316.1 bt320.1 true)) else (laws_FnJoined.j1 kj6 l1 bt308.1 bt312.1 bt316.1 bt320.1 true)))))))) = some r := H
       have A38 := Aside0.mk A380
       clear A380
       replace H := Option.bind_eq_some_iff.mp H
       obtain ⟨⟨t304, t305, t306⟩, A390, H⟩ := H
       replace H : ((impl_SeenIn.f kj6 t292 t293).bind fun bt308 => ((impl_SeenIn.f kj6 t286 t287).bind fun bt312 => ((impl_SeenIn.f kj6 t288 t289).bind fun bt316 => ((impl_LowestOf.f t292 t293).bind fun bt320 => ((impl_GoodWindow.f t292 t293).bind fun t322 => (if t322 = true then (if t302 = true then (if (!(t300 == t292) || (!(t301 == t293))) = true then (laws_FnJoined.j1 kj6 l1 bt308.1 bt312.1 bt316.1 bt320.1 true) else (if t306 = true then (if (!(t304 == t292) || (!(t305 == t293))) = true then (laws_FnJoined.j1 kj6 l1 bt308.1 bt312.1 bt316.1 bt320.1 true) else (if bt308.2 = true then (if bt312.2 = true then (if bt316.2 = true then (laws_FnJoined.j1 kj6 l1 bt308.1 bt312.1 bt316.1 bt320.1 (!bt320.2)) else (laws_FnJoined.j1 kj6 l1 bt308.1 bt312.1 bt316.1 bt320.1 true)) else (laws_FnJoined.j1 kj6 l1 bt308.1 bt312.1 bt316.1 bt320.1 true)) else (laws_FnJoined.j1 kj6 l1 bt308.1 bt312.1 bt316.1 bt320.1 true))) else (laws_FnJoined.j1 kj6 l1 bt308.1 bt312.1 bt316.1 bt320.1 true))) else (laws_FnJoined.j1 kj6 l1 bt308.1 bt312.1 bt316.1 bt320.1 true)) else (laws_FnJoined.j1 kj6 l1 bt308.1 bt312.1 bt316.1 bt320.1 true))))))) = some r := H
       have A39 := Aside0.mk A390
       clear A390
       replace H := Option.bind_eq_some_iff.mp H
       obtain ⟨⟨t308, t311⟩, A400, H⟩ := H
       replace H : ((impl_SeenIn.f kj6 t286 t287).bind fun bt312 => ((impl_SeenIn.f kj6 t288 t289).bind fun bt316 => ((impl_LowestOf.f t292 t293).bind fun bt320 => ((impl_GoodWindow.f t292 t293).bind fun t322 => (if t322 = true then (if t302 = true then (if (!(t300 == t292) || (!(t301 == t293))) = true then (laws_FnJoined.j1 kj6 l1 t308 bt312.1 bt316.1 bt320.1 true) else (if t306 = true then (if (!(t304 == t292) || (!(t305 == t293))) = true then (laws_FnJoined.j1 kj6 l1 t308 bt312.1 bt316.1 bt320.1 true) else (if t311 = true then (if bt312.2 = true then (if bt316.2 = true then (laws_FnJoined.j1 kj6 l1 t308 bt312.1 bt316.1 bt320.1 (!bt320.2)) else (laws_FnJoined.j1 kj6 l1 t308 bt312.1 bt316.1 bt320.1 true)) else (laws_FnJoined.j1 kj6 l1 t308 bt312.1 bt316.1 bt320.1 true)) else (laws_FnJoined.j1 kj6 l1 t308 bt312.1 bt316.1 bt320.1 true))) else (laws_FnJoined.j1 kj6 l1 t308 bt312.1 bt316.1 bt320.1 true))) else (laws_FnJoined.j1 kj6 l1 t308 bt312.1 bt316.1 bt320.1 true)) else (laws_FnJoined.j1 kj6 l1 t308 bt312.1 bt316.1 bt320.1 true)))))) = some r := H
       have A40 := Aside0.mk A400
       clear A400
       replace H := Option.bind_eq_some_iff.mp H
       obtain ⟨⟨t312, t315⟩, A410, H⟩ := H
       replace H : ((impl_SeenIn.f kj6 t288 t289).bind fun bt316 => ((impl_LowestOf.f t292 t293).bind fun bt320 => ((impl_GoodWindow.f t292 t293).bind fun t322 => (if t322 = true then (if t302 = true then (if (!(t300 == t292) || (!(t301 == t293))) = true then (laws_FnJoined.j1 kj6 l1 t308 t312 bt316.1 bt320.1 true) else (if t306 = true then (if (!(t304 == t292) || (!(t305 == t293))) = true then (laws_FnJoined.j1 kj6 l1 t308 t312 bt316.1 bt320.1 true) else (if t311 = true then (if t315 = true then (if bt316.2 = true then (laws_FnJoined.j1 kj6 l1 t308 t312 bt316.1 bt320.1 (!bt320.2)) else (laws_FnJoined.j1 kj6 l1 t308 t312 bt316.1 bt320.1 true)) else (laws_FnJoined.j1 kj6 l1 t308 t312 bt316.1 bt320.1 true)) else (laws_FnJoined.j1 kj6 l1 t308 t312 bt316.1 bt320.1 true))) else (laws_FnJoined.j1 kj6 l1 t308 t312 bt316.1 bt320.1 true))) else (laws_FnJoined.j1 kj6 l1 t308 t312 bt316.1 bt320.1 true)) else (laws_FnJoined.j1 kj6 l1 t308 t312 bt316.1 bt320.1 true))))) = some r := H
       have A41 := Aside0.mk A410
       clear A410
       replace H := Option.bind_eq_some_iff.mp H
       obtain ⟨⟨t316, t319⟩, A420, H⟩ := H
       replace H : ((impl_LowestOf.f t292 t293).bind fun bt320 => ((impl_GoodWindow.f t292 t293).bind fun t322 => (if t322 = true then (if t302 = true then (if (!(t300 == t292) || (!(t301 == t293))) = true then (laws_FnJoined.j1 kj6 l1 t308 t312 t316 bt320.1 true) else (if t306 = true then (if (!(t304 == t292) || (!(t305 == t293))) = true then (laws_FnJoined.j1 kj6 l1 t308 t312 t316 bt320.1 true) else (if t311 = true then (if t315 = true then (if t319 = true then (laws_FnJoined.j1 kj6 l1 t308 t312 t316 bt320.1 (!bt320.2)) else (laws_FnJoined.j1 kj6 l1 t308 t312 t316 bt320.1 true)) else (laws_FnJoined.j1 kj6 l1 t308 t312 t316 bt320.1 true)) else (laws_FnJoined.j1 kj6 l1 t308 t312 t316 bt320.1 true))) else (laws_FnJoined.j1 kj6 l1 t308 t312 t316 bt320.1 true))) else (laws_FnJoined.j1 kj6 l1 t308 t312 t316 bt320.1 true)) else (laws_FnJoined.j1 kj6 l1 t308 t312 t316 bt320.1 true)))) = some r := H
       have A42 := Aside0.mk A420
       clear A420
       replace H := Option.bind_eq_some_iff.mp H
       obtain ⟨⟨t320, t321⟩, A430, H⟩ := H
       replace H : ((impl_GoodWindow.f t292 t293).bind fun t322 => (if t322 = true then (if t302 = true then (if (!(t300 == t292) || (!(t301 == t293))) = true then (laws_FnJoined.j1 kj6 l1 t308 t312 t316 t320 true) else (if t306 = true then (if (!(t304 == t292) || (!(t305 == t293))) = true then (laws_FnJoined.j1 kj6 l1 t308 t312 t316 t320 true) else (if t311 = true then (if t315 = true then (if t319 = true then (laws_FnJoined.j1 kj6 l1 t308 t312 t316 t320 (!t321)) else (laws_FnJoined.j1 kj6 l1 t308 t312 t316 t320 true)) else (laws_FnJoined.j1 kj6 l1 t308 t312 t316 t320 true)) else (laws_FnJoined.j1 kj6 l1 t308 t312 t316 t320 true))) else (laws_FnJoined.j1 kj6 l1 t308 t312 t316 t320 true))) else (laws_FnJoined.j1 kj6 l1 t308 t312 t316 t320 true)) else (laws_FnJoined.j1 kj6 l1 t308 t312 t316 t320 true))) = some r := H
       have A43 := Aside0.mk A430
       clear A430
       have HC44 := Aside0.mk H
       clear H
       have hnb45 := NB291_290.out
       have hnc45 := NB290_291.out
       have hnb46 := NB291_295.out
       have hnc46 := NB295_291.out
       have hnb47 := NB291_299.out
       have hnc47 := NB299_291.out
       have hcz48_0 : wc.cell? ⟨gb291, 0, none⟩ = some (.int .i64 t288) := (blk_cell BK291.out 0).trans rfl
       have hcz48_1 : wc.cell? ⟨gb291, 1, none⟩ = some (.int .i64 t289) := (blk_cell BK291.out 1).trans rfl
       have hfz48_0 := blk_frozen BK291.out 0
       have hfz48_1 := blk_frozen BK291.out 1
       have hnb49 := NB290_295.out
       have hnc49 := NB295_290.out
       have hnb50 := NB290_299.out
       have hnc50 := NB299_290.out
       have hcz51_0 : wc.cell? ⟨gb290, 0, none⟩ = some (.int .i64 t286) := (blk_cell BK290.out 0).trans rfl
       have hcz51_1 : wc.cell? ⟨gb290, 1, none⟩ = some (.int .i64 t287) := (blk_cell BK290.out 1).trans rfl
       have hfz51_0 := blk_frozen BK290.out 0
       have hfz51_1 := blk_frozen BK290.out 1
       go_upto_region 15 with (first | ((with_reducible refine gate_callee (f := 57) rfl ?_); refine goesLa (some 71) rfl Try.func57 #[.agg #[.int .i64 t288, .int .i64 t289], .agg #[.int .i64 t286, .int .i64 t287]] rfl ?_; (with_reducible refine (impl_JoinWindows.calls kj6 t288 t289 t286 t287 t300 t301 t302 _ A38.out).mono ?_); rintro e w52 ⟨rfl, hb⟩; refine ⟨_, rfl, ?_⟩; have n0_ := Aside0.mk (blk_below (blkd BK290) hb); have n1_ := Aside0.mk (blk_below (blkd BK291) hb); have n2_ := Aside0.mk (blk_below (blkd BK295) hb); have n3_ := Aside0.mk (blk_below (blkd BK299) hb); have n4_ := Aside0.mk (below_step (by repeat (first | (with_reducible first | exact HB.out | apply below_alloc | apply pw_below_drewN | apply below_drew1 | refine below_set ?_ GE290.out | refine below_set ?_ GE291.out | refine below_set ?_ GE295.out | refine below_set ?_ GE299.out) | exact HB.out)) hb); clear BK290; clear BK291; clear BK295; clear BK299; clear HB; have BK290 := n0_; have BK291 := n1_; have BK295 := n2_; have BK299 := n3_; have HB := n4_; clear n0_ n1_ n2_ n3_ n4_; (try clear hb); (try clear hb2); (try clear hk); (try clear hi)) | ((with_reducible refine gate_dst (N := 11) rfl ?_); refine box_event ?hg (N := 11) ?hd (cs := #[.int .i64 0, .int .i64 0]) (t := 80) ?hr ?_; (case hd => rfl); (case hg => rfl); (case hr => first | (go_simp; done) | (go_simp; rfl)); intro gb303 hg w53 hbox hb; have n0_ := Aside0.mk (blk_below (blkd BK290) hb); have n1_ := Aside0.mk (blk_below (blkd BK291) hb); have n2_ := Aside0.mk (blk_below (blkd BK295) hb); have n3_ := Aside0.mk (blk_below (blkd BK299) hb); have n4_ := Aside0.mk (below_step (by repeat (first | (with_reducible first | exact HB.out | apply below_alloc | apply pw_below_drewN | apply below_drew1 | refine below_set ?_ GE290.out | refine below_set ?_ GE291.out | refine below_set ?_ GE295.out | refine below_set ?_ GE299.out) | exact HB.out)) hb); have n5_ := Aside0.mk (hbox); have n6_ := Aside0.mk ((by rw [hg]; exact (below_size (by repeat (first | (with_reducible first | exact HB.out | apply below_alloc | apply pw_below_drewN | apply below_drew1 | refine below_set ?_ GE290.out | refine below_set ?_ GE291.out | refine below_set ?_ GE295.out | refine below_set ?_ GE299.out) | exact HB.out))) : w.heap.size ≤ gb303)); have n7_ := Aside0.mk ((by rw [hg]; exact (below_size (by repeat (first | (with_reducible first | exact HB.out | apply below_alloc | apply pw_below_drewN | apply below_drew1 | refine below_set ?_ GE290.out | refine below_set ?_ GE291.out | refine below_set ?_ GE295.out | refine below_set ?_ GE299.out) | exact HB.out))) : w.heap.size ≤ gb303)); have n8_ := Aside0.mk ((by rw [hg]; exact Nat.ne_of_lt (blk_lt (blkd BK290)) : gb290 ≠ gb303)); have n9_ := Aside0.mk ((by rw [hg]; exact Nat.ne_of_gt (blk_lt (blkd BK290)) : gb303 ≠ gb290)); have n10_ := Aside0.mk ((by rw [hg]; exact Nat.ne_of_lt (blk_lt (blkd BK291)) : gb291 ≠ gb303)); have n11_ := Aside0.mk ((by rw [hg]; exact Nat.ne_of_gt (blk_lt (blkd BK291)) : gb303 ≠ gb291)); have n12_ := Aside0.mk ((by rw [hg]; exact Nat.ne_of_lt (blk_lt (blkd BK295)) : gb295 ≠ gb303)); have n13_ := Aside0.mk ((by rw [hg]; exact Nat.ne_of_gt (blk_lt (blkd BK295)) : gb303 ≠ gb295)); have n14_ := Aside0.mk ((by rw [hg]; exact Nat.ne_of_lt (blk_lt (blkd BK299)) : gb299 ≠ gb303)); have n15_ := Aside0.mk ((by rw [hg]; exact Nat.ne_of_gt (blk_lt (blkd BK299)) : gb303 ≠ gb299)); clear BK290; clear BK291; clear BK295; clear BK299; clear HB; have BK290 := n0_; have BK291 := n1_; have BK295 := n2_; have BK299 := n3_; have HB := n4_; have BK303 := n5_; have GW303 := n6_; have GE303 := n7_; have NB290_303 := n8_; have NB303_290 := n9_; have NB291_303 := n10_; have NB303_291 := n11_; have NB295_303 := n12_; have NB303_295 := n13_; have NB299_303 := n14_; have NB303_299 := n15_; clear n0_ n1_ n2_ n3_ n4_ n5_ n6_ n7_ n8_ n9_ n10_ n11_ n12_ n13_ n14_ n15_; clear hb hbox hg; have hnb54 := NB303_290.out; have hnc54 := NB290_303.out; have hnb55 := NB303_291.out; have hnc55 := NB291_303.out; have hnb56 := NB303_295.out; have hnc56 := NB295_303.out; have hnb57 := NB303_299.out; have hnc57 := NB299_303.out; have hcz58_0 : w53.cell? ⟨gb303, 0, none⟩ = some (.int .i64 0) := (blk_cell BK303.out 0).trans rfl; have hcz58_1 : w53.cell? ⟨gb303, 1, none⟩ = some (.int .i64 0) := (blk_cell BK303.out 1).trans rfl; have hfz58_0 := blk_frozen BK303.out 0; have hfz58_1 := blk_frozen BK303.out 1; have hnb59 := NB295_299.out; have hnc59 := NB299_295.out; have hcz60_0 : w53.cell? ⟨gb295, 0, none⟩ = some (.int .i64 t292) := (blk_cell BK295.out 0).trans rfl; have hcz60_1 : w53.cell? ⟨gb295, 1, none⟩ = some (.int .i64 t293) := (blk_cell BK295.out 1).trans rfl; have hfz60_0 := blk_frozen BK295.out 0; have hfz60_1 := blk_frozen BK295.out 1; have hcz61_0 : w53.cell? ⟨gb290, 0, none⟩ = some (.int .i64 t286) := (blk_cell BK290.out 0).trans rfl; have hcz61_1 : w53.cell? ⟨gb290, 1, none⟩ = some (.int .i64 t287) := (blk_cell BK290.out 1).trans rfl; have hfz61_0 := blk_frozen BK290.out 0; have hfz61_1 := blk_frozen BK290.out 1) | ((with_reducible refine gate_callee (f := 57) rfl ?_); refine goesLa (some 77) rfl Try.func57 #[.agg #[.int .i64 t292, .int .i64 t293], .agg #[.int .i64 t286, .int .i64 t287]] rfl ?_; (with_reducible refine (impl_JoinWindows.calls kj6 t292 t293 t286 t287 t304 t305 t306 _ A39.out).mono ?_); rintro e w62 ⟨rfl, hb⟩; refine ⟨_, rfl, ?_⟩; have n0_ := Aside0.mk (blk_below (g := gb290) (o := .cells #[.int .i64 t286, .int .i64 t287] 80 (0, 0)) (by (with_reducible repeat (first | refine blk_drewN ?_ _ | refine blk_drew ?_ | refine blk_alloc ?_ _)); refine blk_far ?_ NB290_303.out _; (with_reducible repeat (first | refine blk_drewN ?_ _ | refine blk_drew ?_ | refine blk_alloc ?_ _)); refine blk_far ?_ NB290_303.out _; (with_reducible repeat (first | refine blk_drewN ?_ _ | refine blk_drew ?_ | refine blk_alloc ?_ _)); exact BK290.out) hb); have n1_ := Aside0.mk (blk_below (g := gb291) (o := .cells #[.int .i64 t288, .int .i64 t289] 80 (0, 0)) (by (with_reducible repeat (first | refine blk_drewN ?_ _ | refine blk_drew ?_ | refine blk_alloc ?_ _)); refine blk_far ?_ NB291_303.out _; (with_reducible repeat (first | refine blk_drewN ?_ _ | refine blk_drew ?_ | refine blk_alloc ?_ _)); refine blk_far ?_ NB291_303.out _; (with_reducible repeat (first | refine blk_drewN ?_ _ | refine blk_drew ?_ | refine blk_alloc ?_ _)); exact BK291.out) hb); have n2_ := Aside0.mk (blk_below (g := gb295) (o := .cells #[.int .i64 t292, .int .i64 t293] 80 (0, 0)) (by (with_reducible repeat (first | refine blk_drewN ?_ _ | refine blk_drew ?_ | refine blk_alloc ?_ _)); refine blk_far ?_ NB295_303.out _; (with_reducible repeat (first | refine blk_drewN ?_ _ | refine blk_drew ?_ | refine blk_alloc ?_ _)); refine blk_far ?_ NB295_303.out _; (with_reducible repeat (first | refine blk_drewN ?_ _ | refine blk_drew ?_ | refine blk_alloc ?_ _)); exact BK295.out) hb); have n3_ := Aside0.mk (blk_below (g := gb299) (o := .cells #[.int .i64 t296, .int .i64 t297] 80 (0, 0)) (by (with_reducible repeat (first | refine blk_drewN ?_ _ | refine blk_drew ?_ | refine blk_alloc ?_ _)); refine blk_far ?_ NB299_303.out _; (with_reducible repeat (first | refine blk_drewN ?_ _ | refine blk_drew ?_ | refine blk_alloc ?_ _)); refine blk_far ?_ NB299_303.out _; (with_reducible repeat (first | refine blk_drewN ?_ _ | refine blk_drew ?_ | refine blk_alloc ?_ _)); exact BK299.out) hb); have n4_ := Aside0.mk (blk_below (g := gb303) (o := .cells #[.int .i64 t300, .int .i64 t301] 80 (0, 0)) (by (with_reducible repeat (first | refine blk_drewN ?_ _ | refine blk_drew ?_ | refine blk_alloc ?_ _)); refine blk_put (cs := #[.int .i64 t300, .int .i64 0]) ?_ 1 _ rfl; (with_reducible repeat (first | refine blk_drewN ?_ _ | refine blk_drew ?_ | refine blk_alloc ?_ _)); refine blk_put (cs := #[.int .i64 0, .int .i64 0]) ?_ 0 _ rfl; (with_reducible repeat (first | refine blk_drewN ?_ _ | refine blk_drew ?_ | refine blk_alloc ?_ _)); exact BK303.out) hb); have n5_ := Aside0.mk (below_step (by repeat (first | (with_reducible first | exact HB.out | apply below_alloc | apply pw_below_drewN | apply below_drew1 | refine below_set ?_ GE290.out | refine below_set ?_ GE291.out | refine below_set ?_ GE295.out | refine below_set ?_ GE299.out | refine below_set ?_ GE303.out) | exact HB.out)) hb); clear BK290; clear BK291; clear BK295; clear BK299; clear BK303; clear HB; have BK290 := n0_; have BK291 := n1_; have BK295 := n2_; have BK299 := n3_; have BK303 := n4_; have HB := n5_; clear n0_ n1_ n2_ n3_ n4_ n5_; (try clear hb); (try clear hb2); (try clear hk); (try clear hi)) | ((with_reducible refine gate_dst (N := 13) rfl ?_); refine box_event ?hg (N := 13) ?hd (cs := #[.int .i64 0, .int .i64 0]) (t := 80) ?hr ?_; (case hd => rfl); (case hg => rfl); (case hr => first | (go_simp; done) | (go_simp; rfl)); intro gb307 hg w63 hbox hb; have n0_ := Aside0.mk (blk_below (blkd BK290) hb); have n1_ := Aside0.mk (blk_below (blkd BK291) hb); have n2_ := Aside0.mk (blk_below (blkd BK295) hb); have n3_ := Aside0.mk (blk_below (blkd BK299) hb); have n4_ := Aside0.mk (blk_below (blkd BK303) hb); have n5_ := Aside0.mk (below_step (by repeat (first | (with_reducible first | exact HB.out | apply below_alloc | apply pw_below_drewN | apply below_drew1 | refine below_set ?_ GE290.out | refine below_set ?_ GE291.out | refine below_set ?_ GE295.out | refine below_set ?_ GE299.out | refine below_set ?_ GE303.out) | exact HB.out)) hb); have n6_ := Aside0.mk (hbox); have n7_ := Aside0.mk ((by rw [hg]; exact (below_size (by repeat (first | (with_reducible first | exact HB.out | apply below_alloc | apply pw_below_drewN | apply below_drew1 | refine below_set ?_ GE290.out | refine below_set ?_ GE291.out | refine below_set ?_ GE295.out | refine below_set ?_ GE299.out | refine below_set ?_ GE303.out) | exact HB.out))) : w.heap.size ≤ gb307)); have n8_ := Aside0.mk ((by rw [hg]; exact (below_size (by repeat (first | (with_reducible first | exact HB.out | apply below_alloc | apply pw_below_drewN | apply below_drew1 | refine below_set ?_ GE290.out | refine below_set ?_ GE291.out | refine below_set ?_ GE295.out | refine below_set ?_ GE299.out | refine below_set ?_ GE303.out) | exact HB.out))) : w.heap.size ≤ gb307)); have n9_ := Aside0.mk ((by rw [hg]; exact Nat.ne_of_lt (blk_lt (blkd BK290)) : gb290 ≠ gb307)); have n10_ := Aside0.mk ((by rw [hg]; exact Nat.ne_of_gt (blk_lt (blkd BK290)) : gb307 ≠ gb290)); have n11_ := Aside0.mk ((by rw [hg]; exact Nat.ne_of_lt (blk_lt (blkd BK291)) : gb291 ≠ gb307)); have n12_ := Aside0.mk ((by rw [hg]; exact Nat.ne_of_gt (blk_lt (blkd BK291)) : gb307 ≠ gb291)); have n13_ := Aside0.mk ((by rw [hg]; exact Nat.ne_of_lt (blk_lt (blkd BK295)) : gb295 ≠ gb307)); have n14_ := Aside0.mk ((by rw [hg]; exact Nat.ne_of_gt (blk_lt (blkd BK295)) : gb307 ≠ gb295)); have n15_ := Aside0.mk ((by rw [hg]; exact Nat.ne_of_lt (blk_lt (blkd BK299)) : gb299 ≠ gb307)); have n16_ := Aside0.mk ((by rw [hg]; exact Nat.ne_of_gt (blk_lt (blkd BK299)) : gb307 ≠ gb299)); have n17_ := Aside0.mk ((by rw [hg]; exact Nat.ne_of_lt (blk_lt (blkd BK303)) : gb303 ≠ gb307)); have n18_ := Aside0.mk ((by rw [hg]; exact Nat.ne_of_gt (blk_lt (blkd BK303)) : gb307 ≠ gb303)); clear BK290; clear BK291; clear BK295; clear BK299; clear BK303; clear HB; have BK290 := n0_; have BK291 := n1_; have BK295 := n2_; have BK299 := n3_; have BK303 := n4_; have HB := n5_; have BK307 := n6_; have GW307 := n7_; have GE307 := n8_; have NB290_307 := n9_; have NB307_290 := n10_; have NB291_307 := n11_; have NB307_291 := n12_; have NB295_307 := n13_; have NB307_295 := n14_; have NB299_307 := n15_; have NB307_299 := n16_; have NB303_307 := n17_; have NB307_303 := n18_; clear n0_ n1_ n2_ n3_ n4_ n5_ n6_ n7_ n8_ n9_ n10_ n11_ n12_ n13_ n14_ n15_ n16_ n17_ n18_; clear hb hbox hg; have hnb64 := NB307_290.out; have hnc64 := NB290_307.out; have hnb65 := NB307_291.out; have hnc65 := NB291_307.out; have hnb66 := NB307_295.out; have hnc66 := NB295_307.out; have hnb67 := NB307_299.out; have hnc67 := NB299_307.out; have hnb68 := NB307_303.out; have hnc68 := NB303_307.out; have hcz69_0 : w63.cell? ⟨gb307, 0, none⟩ = some (.int .i64 0) := (blk_cell BK307.out 0).trans rfl; have hcz69_1 : w63.cell? ⟨gb307, 1, none⟩ = some (.int .i64 0) := (blk_cell BK307.out 1).trans rfl; have hfz69_0 := blk_frozen BK307.out 0; have hfz69_1 := blk_frozen BK307.out 1; have hcz70_0 : w63.cell? ⟨gb295, 0, none⟩ = some (.int .i64 t292) := (blk_cell BK295.out 0).trans rfl; have hcz70_1 : w63.cell? ⟨gb295, 1, none⟩ = some (.int .i64 t293) := (blk_cell BK295.out 1).trans rfl; have hfz70_0 := blk_frozen BK295.out 0; have hfz70_1 := blk_frozen BK295.out 1) | ((with_reducible refine gate_callee (f := 59) rfl ?_); refine goesLa (some 82) rfl Try.func59 #[.agg #[.int .i64 t292, .int .i64 t293]] rfl ?_; (with_reducible refine (impl_SeenIn.calls kj6 t292 t293 t308 t311 _ A40.out).mono ?_); rintro e w71 ⟨v309, rfl, ho0, hb⟩; refine ⟨_, rfl, ?_⟩; have n0_ := Aside0.mk (Kd.R_lower ho0 (below_size (by repeat (first | (with_reducible first | exact HB.out | apply below_alloc | apply pw_below_drewN | apply below_drew1 | refine below_set ?_ GE290.out | refine below_set ?_ GE291.out | refine below_set ?_ GE295.out | refine below_set ?_ GE299.out | refine below_set ?_ GE303.out | refine below_set ?_ GE307.out) | exact HB.out)))); have n1_ := Aside0.mk (blk_below (g := gb290) (o := .cells #[.int .i64 t286, .int .i64 t287] 80 (0, 0)) (by (with_reducible repeat (first | refine blk_drewN ?_ _ | refine blk_drew ?_ | refine blk_alloc ?_ _)); refine blk_far ?_ NB290_307.out _; (with_reducible repeat (first | refine blk_drewN ?_ _ | refine blk_drew ?_ | refine blk_alloc ?_ _)); refine blk_far ?_ NB290_307.out _; (with_reducible repeat (first | refine blk_drewN ?_ _ | refine blk_drew ?_ | refine blk_alloc ?_ _)); exact BK290.out) hb); have n2_ := Aside0.mk (blk_below (g := gb291) (o := .cells #[.int .i64 t288, .int .i64 t289] 80 (0, 0)) (by (with_reducible repeat (first | refine blk_drewN ?_ _ | refine blk_drew ?_ | refine blk_alloc ?_ _)); refine blk_far ?_ NB291_307.out _; (with_reducible repeat (first | refine blk_drewN ?_ _ | refine blk_drew ?_ | refine blk_alloc ?_ _)); refine blk_far ?_ NB291_307.out _; (with_reducible repeat (first | refine blk_drewN ?_ _ | refine blk_drew ?_ | refine blk_alloc ?_ _)); exact BK291.out) hb); have n3_ := Aside0.mk (blk_below (g := gb295) (o := .cells #[.int .i64 t292, .int .i64 t293] 80 (0, 0)) (by (with_reducible repeat (first | refine blk_drewN ?_ _ | refine blk_drew ?_ | refine blk_alloc ?_ _)); refine blk_far ?_ NB295_307.out _; (with_reducible repeat (first | refine blk_drewN ?_ _ | refine blk_drew ?_ | refine blk_alloc ?_ _)); refine blk_far ?_ NB295_307.out _; (with_reducible repeat (first | refine blk_drewN ?_ _ | refine blk_drew ?_ | refine blk_alloc ?_ _)); exact BK295.out) hb); have n4_ := Aside0.mk (blk_below (g := gb299) (o := .cells #[.int .i64 t296, .int .i64 t297] 80 (0, 0)) (by (with_reducible repeat (first | refine blk_drewN ?_ _ | refine blk_drew ?_ | refine blk_alloc ?_ _)); refine blk_far ?_ NB299_307.out _; (with_reducible repeat (first | refine blk_drewN ?_ _ | refine blk_drew ?_ | refine blk_alloc ?_ _)); refine blk_far ?_ NB299_307.out _; (with_reducible repeat (first | refine blk_drewN ?_ _ | refine blk_drew ?_ | refine blk_alloc ?_ _)); exact BK299.out) hb); have n5_ := Aside0.mk (blk_below (g := gb303) (o := .cells #[.int .i64 t300, .int .i64 t301] 80 (0, 0)) (by (with_reducible repeat (first | refine blk_drewN ?_ _ | refine blk_drew ?_ | refine blk_alloc ?_ _)); refine blk_far ?_ NB303_307.out _; (with_reducible repeat (first | refine blk_drewN ?_ _ | refine blk_drew ?_ | refine blk_alloc ?_ _)); refine blk_far ?_ NB303_307.out _; (with_reducible repeat (first | refine blk_drewN ?_ _ | refine blk_drew ?_ | refine blk_alloc ?_ _)); exact BK303.out) hb); have n6_ := Aside0.mk (blk_below (g := gb307) (o := .cells #[.int .i64 t304, .int .i64 t305] 80 (0, 0)) (by (with_reducible repeat (first | refine blk_drewN ?_ _ | refine blk_drew ?_ | refine blk_alloc ?_ _)); refine blk_put (cs := #[.int .i64 t304, .int .i64 0]) ?_ 1 _ rfl; (with_reducible repeat (first | refine blk_drewN ?_ _ | refine blk_drew ?_ | refine blk_alloc ?_ _)); refine blk_put (cs := #[.int .i64 0, .int .i64 0]) ?_ 0 _ rfl; (with_reducible repeat (first | refine blk_drewN ?_ _ | refine blk_drew ?_ | refine blk_alloc ?_ _)); exact BK307.out) hb); have n7_ := Aside0.mk (below_step (by repeat (first | (with_reducible first | exact HB.out | apply below_alloc | apply pw_below_drewN | apply below_drew1 | refine below_set ?_ GE290.out | refine below_set ?_ GE291.out | refine below_set ?_ GE295.out | refine below_set ?_ GE299.out | refine below_set ?_ GE303.out | refine below_set ?_ GE307.out) | exact HB.out)) hb); clear BK290; clear BK291; clear BK295; clear BK299; clear BK303; clear BK307; clear HB; have HO310 := n0_; have BK290 := n1_; have BK291 := n2_; have BK295 := n3_; have BK299 := n4_; have BK303 := n5_; have BK307 := n6_; have HB := n7_; clear n0_ n1_ n2_ n3_ n4_ n5_ n6_ n7_; (try clear hb); (try clear hb2); (try clear hk); (try clear hi); (try clear ho0); have hcz72_0 : w71.cell? ⟨gb290, 0, none⟩ = some (.int .i64 t286) := (blk_cell BK290.out 0).trans rfl; have hcz72_1 : w71.cell? ⟨gb290, 1, none⟩ = some (.int .i64 t287) := (blk_cell BK290.out 1).trans rfl; have hfz72_0 := blk_frozen BK290.out 0; have hfz72_1 := blk_frozen BK290.out 1) | ((with_reducible refine gate_callee (f := 59) rfl ?_); refine goesLa (some 87) rfl Try.func59 #[.agg #[.int .i64 t286, .int .i64 t287]] rfl ?_; (with_reducible refine (impl_SeenIn.calls kj6 t286 t287 t312 t315 _ A41.out).mono ?_); rintro e w73 ⟨v313, rfl, ho0, hb⟩; refine ⟨_, rfl, ?_⟩; have n0_ := Aside0.mk (Kd.R_elder' (by (with_reducible repeat (first | apply Kd.R_alloc | apply Kd.R_drewN | apply Kd.R_drew)); exact HO310.out) (Kd.R_base ho0) hb); have n1_ := Aside0.mk (Kd.R_lower (Kd.R_new' ho0 (Kd.R_lt (by (with_reducible repeat (first | apply Kd.R_alloc | apply Kd.R_drewN | apply Kd.R_drew)); exact HO310.out))) (below_size (by repeat (first | (with_reducible first | exact HB.out | apply below_alloc | apply pw_below_drewN | apply below_drew1 | refine below_set ?_ GE290.out | refine below_set ?_ GE291.out | refine below_set ?_ GE295.out | refine below_set ?_ GE299.out | refine below_set ?_ GE303.out | refine below_set ?_ GE307.out) | exact HB.out)))); have n2_ := Aside0.mk (blk_below (blkd BK290) hb); have n3_ := Aside0.mk (blk_below (blkd BK291) hb); have n4_ := Aside0.mk (blk_below (blkd BK295) hb); have n5_ := Aside0.mk (blk_below (blkd BK299) hb); have n6_ := Aside0.mk (blk_below (blkd BK303) hb); have n7_ := Aside0.mk (blk_below (blkd BK307) hb); have n8_ := Aside0.mk (below_step (by repeat (first | (with_reducible first | exact HB.out | apply below_alloc | apply pw_below_drewN | apply below_drew1 | refine below_set ?_ GE290.out | refine below_set ?_ GE291.out | refine below_set ?_ GE295.out | refine below_set ?_ GE299.out | refine below_set ?_ GE303.out | refine below_set ?_ GE307.out) | exact HB.out)) hb); clear HO310; clear BK290; clear BK291; clear BK295; clear BK299; clear BK303; clear BK307; clear HB; have HO310 := n0_; have HO314 := n1_; have BK290 := n2_; have BK291 := n3_; have BK295 := n4_; have BK299 := n5_; have BK303 := n6_; have BK307 := n7_; have HB := n8_; clear n0_ n1_ n2_ n3_ n4_ n5_ n6_ n7_ n8_; (try clear hb); (try clear hb2); (try clear hk); (try clear hi); (try clear ho0); have hcz74_0 : w73.cell? ⟨gb291, 0, none⟩ = some (.int .i64 t288) := (blk_cell BK291.out 0).trans rfl; have hcz74_1 : w73.cell? ⟨gb291, 1, none⟩ = some (.int .i64 t289) := (blk_cell BK291.out 1).trans rfl; have hfz74_0 := blk_frozen BK291.out 0; have hfz74_1 := blk_frozen BK291.out 1) | ((with_reducible refine gate_callee (f := 59) rfl ?_); refine goesLa (some 92) rfl Try.func59 #[.agg #[.int .i64 t288, .int .i64 t289]] rfl ?_; (with_reducible refine (impl_SeenIn.calls kj6 t288 t289 t316 t319 _ A42.out).mono ?_); rintro e w75 ⟨v317, rfl, ho0, hb⟩; refine ⟨_, rfl, ?_⟩; have n0_ := Aside0.mk (Kd.R_elder' (by (with_reducible repeat (first | apply Kd.R_alloc | apply Kd.R_drewN | apply Kd.R_drew)); exact HO310.out) (Kd.R_base ho0) hb); have n1_ := Aside0.mk (Kd.R_elder' (by (with_reducible repeat (first | apply Kd.R_alloc | apply Kd.R_drewN | apply Kd.R_drew)); exact HO314.out) (Kd.R_base ho0) hb); have n2_ := Aside0.mk (Kd.R_lower (Kd.R_new' (Kd.R_new' ho0 (Kd.R_lt (by (with_reducible repeat (first | apply Kd.R_alloc | apply Kd.R_drewN | apply Kd.R_drew)); exact HO310.out))) (Kd.R_lt (by (with_reducible repeat (first | apply Kd.R_alloc | apply Kd.R_drewN | apply Kd.R_drew)); exact HO314.out))) (below_size (by repeat (first | (with_reducible first | exact HB.out | apply below_alloc | apply pw_below_drewN | apply below_drew1 | refine below_set ?_ GE290.out | refine below_set ?_ GE291.out | refine below_set ?_ GE295.out | refine below_set ?_ GE299.out | refine below_set ?_ GE303.out | refine below_set ?_ GE307.out) | exact HB.out)))); have n3_ := Aside0.mk (blk_below (blkd BK290) hb); have n4_ := Aside0.mk (blk_below (blkd BK291) hb); have n5_ := Aside0.mk (blk_below (blkd BK295) hb); have n6_ := Aside0.mk (blk_below (blkd BK299) hb); have n7_ := Aside0.mk (blk_below (blkd BK303) hb); have n8_ := Aside0.mk (blk_below (blkd BK307) hb); have n9_ := Aside0.mk (below_step (by repeat (first | (with_reducible first | exact HB.out | apply below_alloc | apply pw_below_drewN | apply below_drew1 | refine below_set ?_ GE290.out | refine below_set ?_ GE291.out | refine below_set ?_ GE295.out | refine below_set ?_ GE299.out | refine below_set ?_ GE303.out | refine below_set ?_ GE307.out) | exact HB.out)) hb); clear HO310; clear HO314; clear BK290; clear BK291; clear BK295; clear BK299; clear BK303; clear BK307; clear HB; have HO310 := n0_; have HO314 := n1_; have HO318 := n2_; have BK290 := n3_; have BK291 := n4_; have BK295 := n5_; have BK299 := n6_; have BK303 := n7_; have BK307 := n8_; have HB := n9_; clear n0_ n1_ n2_ n3_ n4_ n5_ n6_ n7_ n8_ n9_; (try clear hb); (try clear hb2); (try clear hk); (try clear hi); (try clear ho0); have hcz76_0 : w75.cell? ⟨gb295, 0, none⟩ = some (.int .i64 t292) := (blk_cell BK295.out 0).trans rfl; have hcz76_1 : w75.cell? ⟨gb295, 1, none⟩ = some (.int .i64 t293) := (blk_cell BK295.out 1).trans rfl; have hfz76_0 := blk_frozen BK295.out 0; have hfz76_1 := blk_frozen BK295.out 1) | ((with_reducible refine gate_callee (f := 60) rfl ?_); refine goesLa (some 97) rfl Try.func60 #[.agg #[.int .i64 t292, .int .i64 t293]] rfl ?_; (with_reducible refine (impl_LowestOf.calls t292 t293 t320 t321 _ A43.out).mono ?_); rintro e w77 ⟨rfl, hb⟩; refine ⟨_, rfl, ?_⟩; have n0_ := Aside0.mk (Kd.R_below (by (with_reducible repeat (first | apply Kd.R_alloc | apply Kd.R_drewN | apply Kd.R_drew)); exact HO310.out) hb); have n1_ := Aside0.mk (Kd.R_below (by (with_reducible repeat (first | apply Kd.R_alloc | apply Kd.R_drewN | apply Kd.R_drew)); exact HO314.out) hb); have n2_ := Aside0.mk (Kd.R_below (by (with_reducible repeat (first | apply Kd.R_alloc | apply Kd.R_drewN | apply Kd.R_drew)); exact HO318.out) hb); have n3_ := Aside0.mk (blk_below (blkd BK290) hb); have n4_ := Aside0.mk (blk_below (blkd BK291) hb); have n5_ := Aside0.mk (blk_below (blkd BK295) hb); have n6_ := Aside0.mk (blk_below (blkd BK299) hb); have n7_ := Aside0.mk (blk_below (blkd BK303) hb); have n8_ := Aside0.mk (blk_below (blkd BK307) hb); have n9_ := Aside0.mk (below_step (by repeat (first | (with_reducible first | exact HB.out | apply below_alloc | apply pw_below_drewN | apply below_drew1 | refine below_set ?_ GE290.out | refine below_set ?_ GE291.out | refine below_set ?_ GE295.out | refine below_set ?_ GE299.out | refine below_set ?_ GE303.out | refine below_set ?_ GE307.out) | exact HB.out)) hb); clear HO310; clear HO314; clear HO318; clear BK290; clear BK291; clear BK295; clear BK299; clear BK303; clear BK307; clear HB; have HO310 := n0_; have HO314 := n1_; have HO318 := n2_; have BK290 := n3_; have BK291 := n4_; have BK295 := n5_; have BK299 := n6_; have BK303 := n7_; have BK307 := n8_; have HB := n9_; clear n0_ n1_ n2_ n3_ n4_ n5_ n6_ n7_ n8_ n9_; (try clear hb); (try clear hb2); (try clear hk); (try clear hi)))
       (try simp only [Act.put, List.setIfInBounds_toArray, List.set_cons_zero, List.set_cons_succ])
       go_cut [136] (fun v136 wc => ∃ (kq : Nat) (x136_43 : Bool), v136 = .bool x136_43 ∧ Aside0 (laws_FnJoined.j1 kq l1 t308 t312 t316 t320 x136_43 = some r) ∧ Aside0 (kq ≤ kj6) ∧ Aside0 (Kd.R (Kd.int .i64) 3 wc w.heap.size (fun k_ => some k_ ≠ (v313 : Value).ownBlock ∧ some k_ ≠ (v317 : Value).ownBlock) v309 t308) ∧ Aside0 (Kd.R (Kd.int .i64) 3 wc w.heap.size (fun k_ => some k_ ≠ (v309 : Value).ownBlock ∧ some k_ ≠ (v317 : Value).ownBlock) v313 t312) ∧ Aside0 (Kd.R (Kd.int .i64) 3 wc w.heap.size (fun k_ => some k_ ≠ (v309 : Value).ownBlock ∧ some k_ ≠ (v313 : Value).ownBlock) v317 t316) ∧ Aside0 (wc.heap[gb290]? = some (.cells #[.int .i64 t286, .int .i64 t287] 80 (0, 0))) ∧ Aside0 (wc.heap[gb291]? = some (.cells #[.int .i64 t288, .int .i64 t289] 80 (0, 0))) ∧ Aside0 (wc.heap[gb295]? = some (.cells #[.int .i64 t292, .int .i64 t293] 80 (0, 0))) ∧ Aside0 (wc.heap[gb299]? = some (.cells #[.int .i64 t296, .int .i64 t297] 80 (0, 0))) ∧ Aside0 (wc.heap[gb303]? = some (.cells #[.int .i64 t300, .int .i64 t301] 80 (0, 0))) ∧ Aside0 (wc.heap[gb307]? = some (.cells #[.int .i64 t304, .int .i64 t305] 80 (0, 0))) ∧ Aside0 (Below w.heap.size w wc))
       case first => as_aux_lemma =>
        have H := HC44.out
        clear HC44
        replace H := Option.bind_eq_some_iff.mp H
        obtain ⟨t322, A780, H⟩ := H
        replace H : (if t322 = true then (if t302 = true then (if (!(t300 == t292) || (!(t301 == t293))) = true then (laws_FnJoined.j1 kj6 l1 t308 t312 t316 t320 true) else (if t306 = true then (if (!(t304 == t292) || (!(t305 == t293))) = true then (laws_FnJoined.j1 kj6 l1 t308 t312 t316 t320 true) else (if t311 = true then (if t315 = true then (if t319 = true then (laws_FnJoined.j1 kj6 l1 t308 t312 t316 t320 (!t321)) else (laws_FnJoined.j1 kj6 l1 t308 t312 t316 t320 true)) else (laws_FnJoined.j1 kj6 l1 t308 t312 t316 t320 true)) else (laws_FnJoined.j1 kj6 l1 t308 t312 t316 t320 true))) else (laws_FnJoined.j1 kj6 l1 t308 t312 t316 t320 true))) else (laws_FnJoined.j1 kj6 l1 t308 t312 t316 t320 true)) else (laws_FnJoined.j1 kj6 l1 t308 t312 t316 t320 true)) = some r := H
        have A78 := Aside0.mk A780
        clear A780
        by_cases c79 : t322 = true
        ·subst c79
         have H1 : (if t302 = true then (if (!(t300 == t292) || (!(t301 == t293))) = true then (laws_FnJoined.j1 kj6 l1 t308 t312 t316 t320 true) else (if t306 = true then (if (!(t304 == t292) || (!(t305 == t293))) = true then (laws_FnJoined.j1 kj6 l1 t308 t312 t316 t320 true) else (if t311 = true then (if t315 = true then (if t319 = true then (laws_FnJoined.j1 kj6 l1 t308 t312 t316 t320 (!t321)) else (laws_FnJoined.j1 kj6 l1 t308 t312 t316 t320 true)) else (laws_FnJoined.j1 kj6 l1 t308 t312 t316 t320 true)) else (laws_FnJoined.j1 kj6 l1 t308 t312 t316 t320 true))) else (laws_FnJoined.j1 kj6 l1 t308 t312 t316 t320 true))) else (laws_FnJoined.j1 kj6 l1 t308 t312 t316 t320 true)) = some r := by rw [if_pos rfl] at H; exact H
         clear H
         have H := H1
         clear H1
         by_cases c80 : t302 = true
         ·subst c80
          have H1 : (if (!(t300 == t292) || (!(t301 == t293))) = true then (laws_FnJoined.j1 kj6 l1 t308 t312 t316 t320 true) else (if t306 = true then (if (!(t304 == t292) || (!(t305 == t293))) = true then (laws_FnJoined.j1 kj6 l1 t308 t312 t316 t320 true) else (if t311 = true then (if t315 = true then (if t319 = true then (laws_FnJoined.j1 kj6 l1 t308 t312 t316 t320 (!t321)) else (laws_FnJoined.j1 kj6 l1 t308 t312 t316 t320 true)) else (laws_FnJoined.j1 kj6 l1 t308 t312 t316 t320 true)) else (laws_FnJoined.j1 kj6 l1 t308 t312 t316 t320 true))) else (laws_FnJoined.j1 kj6 l1 t308 t312 t316 t320 true))) = some r := by rw [if_pos rfl] at H; exact H
          clear H
          have H := H1
          clear H1
          by_cases c81 : (!(t300 == t292) || (!(t301 == t293))) = true
          ·rw [if_pos c81] at H
           have c81b0 : (!(t300 == t292) || (!(t301 == t293))) = true := c81
           clear c81
           (first | rw [c81b0] | (simp only [i64_w, i32_w]; rw [c81b0]) | skip)
           have H' := Aside0.mk H
           clear H
           have hnb82 := NB295_290.out
           have hnc82 := NB290_295.out
           have hnb83 := NB295_291.out
           have hnc83 := NB291_295.out
           have hnb84 := NB295_299.out
           have hnc84 := NB299_295.out
           have hnb85 := NB295_303.out
           have hnc85 := NB303_295.out
           have hnb86 := NB295_307.out
           have hnc86 := NB307_295.out
           have hcz87_0 : w77.cell? ⟨gb295, 0, none⟩ = some (.int .i64 t292) := (blk_cell BK295.out 0).trans rfl
           have hcz87_1 : w77.cell? ⟨gb295, 1, none⟩ = some (.int .i64 t293) := (blk_cell BK295.out 1).trans rfl
           have hfz87_0 := blk_frozen BK295.out 0
           have hfz87_1 := blk_frozen BK295.out 1
           go_wp2_with (first | ((with_reducible refine gate_callee (f := 61) rfl ?_); refine goesLa (some 101) rfl Try.func61 #[.agg #[.int .i64 t292, .int .i64 t293]] rfl ?_; (with_reducible refine (impl_GoodWindow.calls t292 t293 true _ A78.out).mono ?_); rintro e w88 ⟨rfl, hb⟩; refine ⟨_, rfl, ?_⟩; have n0_ := Aside0.mk (Kd.R_below (by (with_reducible repeat (first | apply Kd.R_alloc | apply Kd.R_drewN | apply Kd.R_drew)); exact HO310.out) hb); have n1_ := Aside0.mk (Kd.R_below (by (with_reducible repeat (first | apply Kd.R_alloc | apply Kd.R_drewN | apply Kd.R_drew)); exact HO314.out) hb); have n2_ := Aside0.mk (Kd.R_below (by (with_reducible repeat (first | apply Kd.R_alloc | apply Kd.R_drewN | apply Kd.R_drew)); exact HO318.out) hb); have n3_ := Aside0.mk (blk_below (blkd BK290) hb); have n4_ := Aside0.mk (blk_below (blkd BK291) hb); have n5_ := Aside0.mk (blk_below (blkd BK295) hb); have n6_ := Aside0.mk (blk_below (blkd BK299) hb); have n7_ := Aside0.mk (blk_below (blkd BK303) hb); have n8_ := Aside0.mk (blk_below (blkd BK307) hb); have n9_ := Aside0.mk (below_step (by repeat (first | (with_reducible first | exact HB.out | apply below_alloc | apply pw_below_drewN | apply below_drew1 | refine below_set ?_ GE290.out | refine below_set ?_ GE291.out | refine below_set ?_ GE295.out | refine below_set ?_ GE299.out | refine below_set ?_ GE303.out | refine below_set ?_ GE307.out) | exact HB.out)) hb); clear HO310; clear HO314; clear HO318; clear BK290; clear BK291; clear BK295; clear BK299; clear BK303; clear BK307; clear HB; have HO310 := n0_; have HO314 := n1_; have HO318 := n2_; have BK290 := n3_; have BK291 := n4_; have BK295 := n5_; have BK299 := n6_; have BK303 := n7_; have BK307 := n8_; have HB := n9_; clear n0_ n1_ n2_ n3_ n4_ n5_ n6_ n7_ n8_ n9_; (try clear hb); (try clear hb2); (try clear hk); (try clear hi); have hnb89 := NB303_290.out; have hnc89 := NB290_303.out; have hnb90 := NB303_291.out; have hnc90 := NB291_303.out; have hnb91 := NB303_299.out; have hnc91 := NB299_303.out; have hnb92 := NB303_307.out; have hnc92 := NB307_303.out; have hcz93_0 : w88.cell? ⟨gb303, 0, none⟩ = some (.int .i64 t300) := (blk_cell BK303.out 0).trans rfl; have hcz93_1 : w88.cell? ⟨gb303, 1, none⟩ = some (.int .i64 t301) := (blk_cell BK303.out 1).trans rfl; have hfz93_0 := blk_frozen BK303.out 0; have hfz93_1 := blk_frozen BK303.out 1; have hcz94_0 : w88.cell? ⟨gb295, 0, none⟩ = some (.int .i64 t292) := (blk_cell BK295.out 0).trans rfl; have hcz94_1 : w88.cell? ⟨gb295, 1, none⟩ = some (.int .i64 t293) := (blk_cell BK295.out 1).trans rfl; have hfz94_0 := blk_frozen BK295.out 0; have hfz94_1 := blk_frozen BK295.out 1))
           go_meet
           case rel => exact ⟨_, (true), (by first | rfl | (simp; done) | (simp [*]; done)), H', ⟨by have := HJ6.out; first | omega | exact Nat.le_refl _⟩, ⟨by (with_reducible repeat (first | apply Kd.R_alloc | apply Kd.R_drewN | apply Kd.R_drew)); exact Kd.R_mono HO310.out (fun _ hk => ⟨hk.1.2, hk.2⟩)⟩, ⟨by (with_reducible repeat (first | apply Kd.R_alloc | apply Kd.R_drewN | apply Kd.R_drew)); exact Kd.R_mono HO314.out (fun _ hk => ⟨hk.1.2, hk.2⟩)⟩, ⟨by (with_reducible repeat (first | apply Kd.R_alloc | apply Kd.R_drewN | apply Kd.R_drew)); exact Kd.R_mono HO318.out (fun _ hk => ⟨hk.1.2, hk.2⟩)⟩, ⟨by (with_reducible repeat (first | refine blk_drewN ?_ _ | refine blk_drew ?_ | refine blk_alloc ?_ _)); exact BK290.out⟩, ⟨by (with_reducible repeat (first | refine blk_drewN ?_ _ | refine blk_drew ?_ | refine blk_alloc ?_ _)); exact BK291.out⟩, ⟨by (with_reducible repeat (first | refine blk_drewN ?_ _ | refine blk_drew ?_ | refine blk_alloc ?_ _)); exact BK295.out⟩, ⟨by (with_reducible repeat (first | refine blk_drewN ?_ _ | refine blk_drew ?_ | refine blk_alloc ?_ _)); exact BK299.out⟩, ⟨by (with_reducible repeat (first | refine blk_drewN ?_ _ | refine blk_drew ?_ | refine blk_alloc ?_ _)); exact BK303.out⟩, ⟨by (with_reducible repeat (first | refine blk_drewN ?_ _ | refine blk_drew ?_ | refine blk_alloc ?_ _)); exact BK307.out⟩, ⟨by repeat (first | (with_reducible first | exact HB.out | apply below_alloc | apply pw_below_drewN | apply below_drew1 | refine below_set ?_ GE290.out | refine below_set ?_ GE291.out | refine below_set ?_ GE295.out | refine below_set ?_ GE299.out | refine below_set ?_ GE303.out | refine below_set ?_ GE307.out) | exact HB.out)⟩⟩
          ·rw [if_neg c81] at H
           have c81b0 : (!(t300 == t292) || (!(t301 == t293))) = false := by simpa using c81
           clear c81
           (first | rw [c81b0] | (simp only [i64_w, i32_w]; rw [c81b0]) | skip)
           by_cases c95 : t306 = true
           ·subst c95
            have H1 : (if (!(t304 == t292) || (!(t305 == t293))) = true then (laws_FnJoined.j1 kj6 l1 t308 t312 t316 t320 true) else (if t311 = true then (if t315 = true then (if t319 = true then (laws_FnJoined.j1 kj6 l1 t308 t312 t316 t320 (!t321)) else (laws_FnJoined.j1 kj6 l1 t308 t312 t316 t320 true)) else (laws_FnJoined.j1 kj6 l1 t308 t312 t316 t320 true)) else (laws_FnJoined.j1 kj6 l1 t308 t312 t316 t320 true))) = some r := by rw [if_pos rfl] at H; exact H
            clear H
            have H := H1
            clear H1
            by_cases c96 : (!(t304 == t292) || (!(t305 == t293))) = true
            ·rw [if_pos c96] at H
             have c96b0 : (!(t304 == t292) || (!(t305 == t293))) = true := c96
             clear c96
             have H' := Aside0.mk H
             clear H
             have hnb97 := NB295_290.out
             have hnc97 := NB290_295.out
             have hnb98 := NB295_291.out
             have hnc98 := NB291_295.out
             have hnb99 := NB295_299.out
             have hnc99 := NB299_295.out
             have hnb100 := NB295_303.out
             have hnc100 := NB303_295.out
             have hnb101 := NB295_307.out
             have hnc101 := NB307_295.out
             have hcz102_0 : w77.cell? ⟨gb295, 0, none⟩ = some (.int .i64 t292) := (blk_cell BK295.out 0).trans rfl
             have hcz102_1 : w77.cell? ⟨gb295, 1, none⟩ = some (.int .i64 t293) := (blk_cell BK295.out 1).trans rfl
             have hfz102_0 := blk_frozen BK295.out 0
             have hfz102_1 := blk_frozen BK295.out 1
             go_wp2_with (first | ((with_reducible refine gate_callee (f := 61) rfl ?_); refine goesLa (some 101) rfl Try.func61 #[.agg #[.int .i64 t292, .int .i64 t293]] rfl ?_; (with_reducible refine (impl_GoodWindow.calls t292 t293 true _ A78.out).mono ?_); rintro e w103 ⟨rfl, hb⟩; refine ⟨_, rfl, ?_⟩; have n0_ := Aside0.mk (Kd.R_below (by (with_reducible repeat (first | apply Kd.R_alloc | apply Kd.R_drewN | apply Kd.R_drew)); exact HO310.out) hb); have n1_ := Aside0.mk (Kd.R_below (by (with_reducible repeat (first | apply Kd.R_alloc | apply Kd.R_drewN | apply Kd.R_drew)); exact HO314.out) hb); have n2_ := Aside0.mk (Kd.R_below (by (with_reducible repeat (first | apply Kd.R_alloc | apply Kd.R_drewN | apply Kd.R_drew)); exact HO318.out) hb); have n3_ := Aside0.mk (blk_below (blkd BK290) hb); have n4_ := Aside0.mk (blk_below (blkd BK291) hb); have n5_ := Aside0.mk (blk_below (blkd BK295) hb); have n6_ := Aside0.mk (blk_below (blkd BK299) hb); have n7_ := Aside0.mk (blk_below (blkd BK303) hb); have n8_ := Aside0.mk (blk_below (blkd BK307) hb); have n9_ := Aside0.mk (below_step (by repeat (first | (with_reducible first | exact HB.out | apply below_alloc | apply pw_below_drewN | apply below_drew1 | refine below_set ?_ GE290.out | refine below_set ?_ GE291.out | refine below_set ?_ GE295.out | refine below_set ?_ GE299.out | refine below_set ?_ GE303.out | refine below_set ?_ GE307.out) | exact HB.out)) hb); clear HO310; clear HO314; clear HO318; clear BK290; clear BK291; clear BK295; clear BK299; clear BK303; clear BK307; clear HB; have HO310 := n0_; have HO314 := n1_; have HO318 := n2_; have BK290 := n3_; have BK291 := n4_; have BK295 := n5_; have BK299 := n6_; have BK303 := n7_; have BK307 := n8_; have HB := n9_; clear n0_ n1_ n2_ n3_ n4_ n5_ n6_ n7_ n8_ n9_; (try clear hb); (try clear hb2); (try clear hk); (try clear hi); have hnb104 := NB303_290.out; have hnc104 := NB290_303.out; have hnb105 := NB303_291.out; have hnc105 := NB291_303.out; have hnb106 := NB303_299.out; have hnc106 := NB299_303.out; have hnb107 := NB303_307.out; have hnc107 := NB307_303.out; have hcz108_0 : w103.cell? ⟨gb303, 0, none⟩ = some (.int .i64 t300) := (blk_cell BK303.out 0).trans rfl; have hcz108_1 : w103.cell? ⟨gb303, 1, none⟩ = some (.int .i64 t301) := (blk_cell BK303.out 1).trans rfl; have hfz108_0 := blk_frozen BK303.out 0; have hfz108_1 := blk_frozen BK303.out 1; have hcz109_0 : w103.cell? ⟨gb295, 0, none⟩ = some (.int .i64 t292) := (blk_cell BK295.out 0).trans rfl; have hcz109_1 : w103.cell? ⟨gb295, 1, none⟩ = some (.int .i64 t293) := (blk_cell BK295.out 1).trans rfl; have hfz109_0 := blk_frozen BK295.out 0; have hfz109_1 := blk_frozen BK295.out 1; have hnb110 := NB307_290.out; have hnc110 := NB290_307.out; have hnb111 := NB307_291.out; have hnc111 := NB291_307.out; have hnb112 := NB307_299.out; have hnc112 := NB299_307.out; have hcz113_0 : w103.cell? ⟨gb307, 0, none⟩ = some (.int .i64 t304) := (blk_cell BK307.out 0).trans rfl; have hcz113_1 : w103.cell? ⟨gb307, 1, none⟩ = some (.int .i64 t305) := (blk_cell BK307.out 1).trans rfl; have hfz113_0 := blk_frozen BK307.out 0; have hfz113_1 := blk_frozen BK307.out 1))
             go_meet
             case rel => exact ⟨_, (true), (by first | rfl | (simp; done) | (simp [*]; done)), H', ⟨by have := HJ6.out; first | omega | exact Nat.le_refl _⟩, ⟨by (with_reducible repeat (first | apply Kd.R_alloc | apply Kd.R_drewN | apply Kd.R_drew)); exact Kd.R_mono HO310.out (fun _ hk => ⟨hk.1.2, hk.2⟩)⟩, ⟨by (with_reducible repeat (first | apply Kd.R_alloc | apply Kd.R_drewN | apply Kd.R_drew)); exact Kd.R_mono HO314.out (fun _ hk => ⟨hk.1.2, hk.2⟩)⟩, ⟨by (with_reducible repeat (first | apply Kd.R_alloc | apply Kd.R_drewN | apply Kd.R_drew)); exact Kd.R_mono HO318.out (fun _ hk => ⟨hk.1.2, hk.2⟩)⟩, ⟨by (with_reducible repeat (first | refine blk_drewN ?_ _ | refine blk_drew ?_ | refine blk_alloc ?_ _)); exact BK290.out⟩, ⟨by (with_reducible repeat (first | refine blk_drewN ?_ _ | refine blk_drew ?_ | refine blk_alloc ?_ _)); exact BK291.out⟩, ⟨by (with_reducible repeat (first | refine blk_drewN ?_ _ | refine blk_drew ?_ | refine blk_alloc ?_ _)); exact BK295.out⟩, ⟨by (with_reducible repeat (first | refine blk_drewN ?_ _ | refine blk_drew ?_ | refine blk_alloc ?_ _)); exact BK299.out⟩, ⟨by (with_reducible repeat (first | refine blk_drewN ?_ _ | refine blk_drew ?_ | refine blk_alloc ?_ _)); exact BK303.out⟩, ⟨by (with_reducible repeat (first | refine blk_drewN ?_ _ | refine blk_drew ?_ | refine blk_alloc ?_ _)); exact BK307.out⟩, ⟨by repeat (first | (with_reducible first | exact HB.out | apply below_alloc | apply pw_below_drewN | apply below_drew1 | refine below_set ?_ GE290.out | refine below_set ?_ GE291.out | refine below_set ?_ GE295.out | refine below_set ?_ GE299.out | refine below_set ?_ GE303.out | refine below_set ?_ GE307.out) | exact HB.out)⟩⟩
            ·rw [if_neg c96] at H
             have c96b0 : (!(t304 == t292) || (!(t305 == t293))) = false := by simpa using c96
             clear c96
             by_cases c114 : t311 = true
             ·subst c114
              have H1 : (if t315 = true then (if t319 = true then (laws_FnJoined.j1 kj6 l1 t308 t312 t316 t320 (!t321)) else (laws_FnJoined.j1 kj6 l1 t308 t312 t316 t320 true)) else (laws_FnJoined.j1 kj6 l1 t308 t312 t316 t320 true)) = some r := by rw [if_pos rfl] at H; exact H
              clear H
              have H := H1
              clear H1
              by_cases c115 : t315 = true
              ·subst c115
               have H1 : (if t319 = true then (laws_FnJoined.j1 kj6 l1 t308 t312 t316 t320 (!t321)) else (laws_FnJoined.j1 kj6 l1 t308 t312 t316 t320 true)) = some r := by rw [if_pos rfl] at H; exact H
               clear H
               have H := H1
               clear H1
               by_cases c116 : t319 = true
               ·subst c116
                have H1 : (laws_FnJoined.j1 kj6 l1 t308 t312 t316 t320 (!t321)) = some r := by rw [if_pos rfl] at H; exact H
                clear H
                have H := H1
                clear H1
                have H' := Aside0.mk H
                clear H
                have hnb117 := NB295_290.out
                have hnc117 := NB290_295.out
                have hnb118 := NB295_291.out
                have hnc118 := NB291_295.out
                have hnb119 := NB295_299.out
                have hnc119 := NB299_295.out
                have hnb120 := NB295_303.out
                have hnc120 := NB303_295.out
                have hnb121 := NB295_307.out
                have hnc121 := NB307_295.out
                have hcz122_0 : w77.cell? ⟨gb295, 0, none⟩ = some (.int .i64 t292) := (blk_cell BK295.out 0).trans rfl
                have hcz122_1 : w77.cell? ⟨gb295, 1, none⟩ = some (.int .i64 t293) := (blk_cell BK295.out 1).trans rfl
                have hfz122_0 := blk_frozen BK295.out 0
                have hfz122_1 := blk_frozen BK295.out 1
                go_wp2_with (first | ((with_reducible refine gate_callee (f := 61) rfl ?_); refine goesLa (some 101) rfl Try.func61 #[.agg #[.int .i64 t292, .int .i64 t293]] rfl ?_; (with_reducible refine (impl_GoodWindow.calls t292 t293 true _ A78.out).mono ?_); rintro e w123 ⟨rfl, hb⟩; refine ⟨_, rfl, ?_⟩; have n0_ := Aside0.mk (Kd.R_below (by (with_reducible repeat (first | apply Kd.R_alloc | apply Kd.R_drewN | apply Kd.R_drew)); exact HO310.out) hb); have n1_ := Aside0.mk (Kd.R_below (by (with_reducible repeat (first | apply Kd.R_alloc | apply Kd.R_drewN | apply Kd.R_drew)); exact HO314.out) hb); have n2_ := Aside0.mk (Kd.R_below (by (with_reducible repeat (first | apply Kd.R_alloc | apply Kd.R_drewN | apply Kd.R_drew)); exact HO318.out) hb); have n3_ := Aside0.mk (blk_below (blkd BK290) hb); have n4_ := Aside0.mk (blk_below (blkd BK291) hb); have n5_ := Aside0.mk (blk_below (blkd BK295) hb); have n6_ := Aside0.mk (blk_below (blkd BK299) hb); have n7_ := Aside0.mk (blk_below (blkd BK303) hb); have n8_ := Aside0.mk (blk_below (blkd BK307) hb); have n9_ := Aside0.mk (below_step (by repeat (first | (with_reducible first | exact HB.out | apply below_alloc | apply pw_below_drewN | apply below_drew1 | refine below_set ?_ GE290.out | refine below_set ?_ GE291.out | refine below_set ?_ GE295.out | refine below_set ?_ GE299.out | refine below_set ?_ GE303.out | refine below_set ?_ GE307.out) | exact HB.out)) hb); clear HO310; clear HO314; clear HO318; clear BK290; clear BK291; clear BK295; clear BK299; clear BK303; clear BK307; clear HB; have HO310 := n0_; have HO314 := n1_; have HO318 := n2_; have BK290 := n3_; have BK291 := n4_; have BK295 := n5_; have BK299 := n6_; have BK303 := n7_; have BK307 := n8_; have HB := n9_; clear n0_ n1_ n2_ n3_ n4_ n5_ n6_ n7_ n8_ n9_; (try clear hb); (try clear hb2); (try clear hk); (try clear hi); have hnb124 := NB303_290.out; have hnc124 := NB290_303.out; have hnb125 := NB303_291.out; have hnc125 := NB291_303.out; have hnb126 := NB303_299.out; have hnc126 := NB299_303.out; have hnb127 := NB303_307.out; have hnc127 := NB307_303.out; have hcz128_0 : w123.cell? ⟨gb303, 0, none⟩ = some (.int .i64 t300) := (blk_cell BK303.out 0).trans rfl; have hcz128_1 : w123.cell? ⟨gb303, 1, none⟩ = some (.int .i64 t301) := (blk_cell BK303.out 1).trans rfl; have hfz128_0 := blk_frozen BK303.out 0; have hfz128_1 := blk_frozen BK303.out 1; have hcz129_0 : w123.cell? ⟨gb295, 0, none⟩ = some (.int .i64 t292) := (blk_cell BK295.out 0).trans rfl; have hcz129_1 : w123.cell? ⟨gb295, 1, none⟩ = some (.int .i64 t293) := (blk_cell BK295.out 1).trans rfl; have hfz129_0 := blk_frozen BK295.out 0; have hfz129_1 := blk_frozen BK295.out 1; have hnb130 := NB307_290.out; have hnc130 := NB290_307.out; have hnb131 := NB307_291.out; have hnc131 := NB291_307.out; have hnb132 := NB307_299.out; have hnc132 := NB299_307.out; have hcz133_0 : w123.cell? ⟨gb307, 0, none⟩ = some (.int .i64 t304) := (blk_cell BK307.out 0).trans rfl; have hcz133_1 : w123.cell? ⟨gb307, 1, none⟩ = some (.int .i64 t305) := (blk_cell BK307.out 1).trans rfl; have hfz133_0 := blk_frozen BK307.out 0; have hfz133_1 := blk_frozen BK307.out 1))
                go_meet
                case rel => exact ⟨_, (!t321), (by first | rfl | (simp; done) | (simp [*]; done)), H', ⟨by have := HJ6.out; first | omega | exact Nat.le_refl _⟩, ⟨by (with_reducible repeat (first | apply Kd.R_alloc | apply Kd.R_drewN | apply Kd.R_drew)); exact Kd.R_mono HO310.out (fun _ hk => ⟨hk.1.2, hk.2⟩)⟩, ⟨by (with_reducible repeat (first | apply Kd.R_alloc | apply Kd.R_drewN | apply Kd.R_drew)); exact Kd.R_mono HO314.out (fun _ hk => ⟨hk.1.2, hk.2⟩)⟩, ⟨by (with_reducible repeat (first | apply Kd.R_alloc | apply Kd.R_drewN | apply Kd.R_drew)); exact Kd.R_mono HO318.out (fun _ hk => ⟨hk.1.2, hk.2⟩)⟩, ⟨by (with_reducible repeat (first | refine blk_drewN ?_ _ | refine blk_drew ?_ | refine blk_alloc ?_ _)); exact BK290.out⟩, ⟨by (with_reducible repeat (first | refine blk_drewN ?_ _ | refine blk_drew ?_ | refine blk_alloc ?_ _)); exact BK291.out⟩, ⟨by (with_reducible repeat (first | refine blk_drewN ?_ _ | refine blk_drew ?_ | refine blk_alloc ?_ _)); exact BK295.out⟩, ⟨by (with_reducible repeat (first | refine blk_drewN ?_ _ | refine blk_drew ?_ | refine blk_alloc ?_ _)); exact BK299.out⟩, ⟨by (with_reducible repeat (first | refine blk_drewN ?_ _ | refine blk_drew ?_ | refine blk_alloc ?_ _)); exact BK303.out⟩, ⟨by (with_reducible repeat (first | refine blk_drewN ?_ _ | refine blk_drew ?_ | refine blk_alloc ?_ _)); exact BK307.out⟩, ⟨by repeat (first | (with_reducible first | exact HB.out | apply below_alloc | apply pw_below_drewN | apply below_drew1 | refine below_set ?_ GE290.out | refine below_set ?_ GE291.out | refine below_set ?_ GE295.out | refine below_set ?_ GE299.out | refine below_set ?_ GE303.out | refine below_set ?_ GE307.out) | exact HB.out)⟩⟩
               ·replace c116 := Bool.eq_false_iff.mpr c116
                subst c116
                have H1 : (laws_FnJoined.j1 kj6 l1 t308 t312 t316 t320 true) = some r := by rw [if_neg (show ¬ (false = true) by decide)] at H; exact H
                clear H
                have H := H1
                clear H1
                have H' := Aside0.mk H
                clear H
                have hnb134 := NB295_290.out
                have hnc134 := NB290_295.out
                have hnb135 := NB295_291.out
                have hnc135 := NB291_295.out
                have hnb136 := NB295_299.out
                have hnc136 := NB299_295.out
                have hnb137 := NB295_303.out
                have hnc137 := NB303_295.out
                have hnb138 := NB295_307.out
                have hnc138 := NB307_295.out
                have hcz139_0 : w77.cell? ⟨gb295, 0, none⟩ = some (.int .i64 t292) := (blk_cell BK295.out 0).trans rfl
                have hcz139_1 : w77.cell? ⟨gb295, 1, none⟩ = some (.int .i64 t293) := (blk_cell BK295.out 1).trans rfl
                have hfz139_0 := blk_frozen BK295.out 0
                have hfz139_1 := blk_frozen BK295.out 1
                go_wp2_with (first | ((with_reducible refine gate_callee (f := 61) rfl ?_); refine goesLa (some 101) rfl Try.func61 #[.agg #[.int .i64 t292, .int .i64 t293]] rfl ?_; (with_reducible refine (impl_GoodWindow.calls t292 t293 true _ A78.out).mono ?_); rintro e w140 ⟨rfl, hb⟩; refine ⟨_, rfl, ?_⟩; have n0_ := Aside0.mk (Kd.R_below (by (with_reducible repeat (first | apply Kd.R_alloc | apply Kd.R_drewN | apply Kd.R_drew)); exact HO310.out) hb); have n1_ := Aside0.mk (Kd.R_below (by (with_reducible repeat (first | apply Kd.R_alloc | apply Kd.R_drewN | apply Kd.R_drew)); exact HO314.out) hb); have n2_ := Aside0.mk (Kd.R_below (by (with_reducible repeat (first | apply Kd.R_alloc | apply Kd.R_drewN | apply Kd.R_drew)); exact HO318.out) hb); have n3_ := Aside0.mk (blk_below (blkd BK290) hb); have n4_ := Aside0.mk (blk_below (blkd BK291) hb); have n5_ := Aside0.mk (blk_below (blkd BK295) hb); have n6_ := Aside0.mk (blk_below (blkd BK299) hb); have n7_ := Aside0.mk (blk_below (blkd BK303) hb); have n8_ := Aside0.mk (blk_below (blkd BK307) hb); have n9_ := Aside0.mk (below_step (by repeat (first | (with_reducible first | exact HB.out | apply below_alloc | apply pw_below_drewN | apply below_drew1 | refine below_set ?_ GE290.out | refine below_set ?_ GE291.out | refine below_set ?_ GE295.out | refine below_set ?_ GE299.out | refine below_set ?_ GE303.out | refine below_set ?_ GE307.out) | exact HB.out)) hb); clear HO310; clear HO314; clear HO318; clear BK290; clear BK291; clear BK295; clear BK299; clear BK303; clear BK307; clear HB; have HO310 := n0_; have HO314 := n1_; have HO318 := n2_; have BK290 := n3_; have BK291 := n4_; have BK295 := n5_; have BK299 := n6_; have BK303 := n7_; have BK307 := n8_; have HB := n9_; clear n0_ n1_ n2_ n3_ n4_ n5_ n6_ n7_ n8_ n9_; (try clear hb); (try clear hb2); (try clear hk); (try clear hi); have hnb141 := NB303_290.out; have hnc141 := NB290_303.out; have hnb142 := NB303_291.out; have hnc142 := NB291_303.out; have hnb143 := NB303_299.out; have hnc143 := NB299_303.out; have hnb144 := NB303_307.out; have hnc144 := NB307_303.out; have hcz145_0 : w140.cell? ⟨gb303, 0, none⟩ = some (.int .i64 t300) := (blk_cell BK303.out 0).trans rfl; have hcz145_1 : w140.cell? ⟨gb303, 1, none⟩ = some (.int .i64 t301) := (blk_cell BK303.out 1).trans rfl; have hfz145_0 := blk_frozen BK303.out 0; have hfz145_1 := blk_frozen BK303.out 1; have hcz146_0 : w140.cell? ⟨gb295, 0, none⟩ = some (.int .i64 t292) := (blk_cell BK295.out 0).trans rfl; have hcz146_1 : w140.cell? ⟨gb295, 1, none⟩ = some (.int .i64 t293) := (blk_cell BK295.out 1).trans rfl; have hfz146_0 := blk_frozen BK295.out 0; have hfz146_1 := blk_frozen BK295.out 1; have hnb147 := NB307_290.out; have hnc147 := NB290_307.out; have hnb148 := NB307_291.out; have hnc148 := NB291_307.out; have hnb149 := NB307_299.out; have hnc149 := NB299_307.out; have hcz150_0 : w140.cell? ⟨gb307, 0, none⟩ = some (.int .i64 t304) := (blk_cell BK307.out 0).trans rfl; have hcz150_1 : w140.cell? ⟨gb307, 1, none⟩ = some (.int .i64 t305) := (blk_cell BK307.out 1).trans rfl; have hfz150_0 := blk_frozen BK307.out 0; have hfz150_1 := blk_frozen BK307.out 1))
                go_meet
                case rel => exact ⟨_, (true), (by first | rfl | (simp; done) | (simp [*]; done)), H', ⟨by have := HJ6.out; first | omega | exact Nat.le_refl _⟩, ⟨by (with_reducible repeat (first | apply Kd.R_alloc | apply Kd.R_drewN | apply Kd.R_drew)); exact Kd.R_mono HO310.out (fun _ hk => ⟨hk.1.2, hk.2⟩)⟩, ⟨by (with_reducible repeat (first | apply Kd.R_alloc | apply Kd.R_drewN | apply Kd.R_drew)); exact Kd.R_mono HO314.out (fun _ hk => ⟨hk.1.2, hk.2⟩)⟩, ⟨by (with_reducible repeat (first | apply Kd.R_alloc | apply Kd.R_drewN | apply Kd.R_drew)); exact Kd.R_mono HO318.out (fun _ hk => ⟨hk.1.2, hk.2⟩)⟩, ⟨by (with_reducible repeat (first | refine blk_drewN ?_ _ | refine blk_drew ?_ | refine blk_alloc ?_ _)); exact BK290.out⟩, ⟨by (with_reducible repeat (first | refine blk_drewN ?_ _ | refine blk_drew ?_ | refine blk_alloc ?_ _)); exact BK291.out⟩, ⟨by (with_reducible repeat (first | refine blk_drewN ?_ _ | refine blk_drew ?_ | refine blk_alloc ?_ _)); exact BK295.out⟩, ⟨by (with_reducible repeat (first | refine blk_drewN ?_ _ | refine blk_drew ?_ | refine blk_alloc ?_ _)); exact BK299.out⟩, ⟨by (with_reducible repeat (first | refine blk_drewN ?_ _ | refine blk_drew ?_ | refine blk_alloc ?_ _)); exact BK303.out⟩, ⟨by (with_reducible repeat (first | refine blk_drewN ?_ _ | refine blk_drew ?_ | refine blk_alloc ?_ _)); exact BK307.out⟩, ⟨by repeat (first | (with_reducible first | exact HB.out | apply below_alloc | apply pw_below_drewN | apply below_drew1 | refine below_set ?_ GE290.out | refine below_set ?_ GE291.out | refine below_set ?_ GE295.out | refine below_set ?_ GE299.out | refine below_set ?_ GE303.out | refine below_set ?_ GE307.out) | exact HB.out)⟩⟩
              ·replace c115 := Bool.eq_false_iff.mpr c115
               subst c115
               have H1 : (laws_FnJoined.j1 kj6 l1 t308 t312 t316 t320 true) = some r := by rw [if_neg (show ¬ (false = true) by decide)] at H; exact H
               clear H
               have H := H1
               clear H1
               have H' := Aside0.mk H
               clear H
               have hnb151 := NB295_290.out
               have hnc151 := NB290_295.out
               have hnb152 := NB295_291.out
               have hnc152 := NB291_295.out
               have hnb153 := NB295_299.out
               have hnc153 := NB299_295.out
               have hnb154 := NB295_303.out
               have hnc154 := NB303_295.out
               have hnb155 := NB295_307.out
               have hnc155 := NB307_295.out
               have hcz156_0 : w77.cell? ⟨gb295, 0, none⟩ = some (.int .i64 t292) := (blk_cell BK295.out 0).trans rfl
               have hcz156_1 : w77.cell? ⟨gb295, 1, none⟩ = some (.int .i64 t293) := (blk_cell BK295.out 1).trans rfl
               have hfz156_0 := blk_frozen BK295.out 0
               have hfz156_1 := blk_frozen BK295.out 1
               go_wp2_with (first | ((with_reducible refine gate_callee (f := 61) rfl ?_); refine goesLa (some 101) rfl Try.func61 #[.agg #[.int .i64 t292, .int .i64 t293]] rfl ?_; (with_reducible refine (impl_GoodWindow.calls t292 t293 true _ A78.out).mono ?_); rintro e w157 ⟨rfl, hb⟩; refine ⟨_, rfl, ?_⟩; have n0_ := Aside0.mk (Kd.R_below (by (with_reducible repeat (first | apply Kd.R_alloc | apply Kd.R_drewN | apply Kd.R_drew)); exact HO310.out) hb); have n1_ := Aside0.mk (Kd.R_below (by (with_reducible repeat (first | apply Kd.R_alloc | apply Kd.R_drewN | apply Kd.R_drew)); exact HO314.out) hb); have n2_ := Aside0.mk (Kd.R_below (by (with_reducible repeat (first | apply Kd.R_alloc | apply Kd.R_drewN | apply Kd.R_drew)); exact HO318.out) hb); have n3_ := Aside0.mk (blk_below (blkd BK290) hb); have n4_ := Aside0.mk (blk_below (blkd BK291) hb); have n5_ := Aside0.mk (blk_below (blkd BK295) hb); have n6_ := Aside0.mk (blk_below (blkd BK299) hb); have n7_ := Aside0.mk (blk_below (blkd BK303) hb); have n8_ := Aside0.mk (blk_below (blkd BK307) hb); have n9_ := Aside0.mk (below_step (by repeat (first | (with_reducible first | exact HB.out | apply below_alloc | apply pw_below_drewN | apply below_drew1 | refine below_set ?_ GE290.out | refine below_set ?_ GE291.out | refine below_set ?_ GE295.out | refine below_set ?_ GE299.out | refine below_set ?_ GE303.out | refine below_set ?_ GE307.out) | exact HB.out)) hb); clear HO310; clear HO314; clear HO318; clear BK290; clear BK291; clear BK295; clear BK299; clear BK303; clear BK307; clear HB; have HO310 := n0_; have HO314 := n1_; have HO318 := n2_; have BK290 := n3_; have BK291 := n4_; have BK295 := n5_; have BK299 := n6_; have BK303 := n7_; have BK307 := n8_; have HB := n9_; clear n0_ n1_ n2_ n3_ n4_ n5_ n6_ n7_ n8_ n9_; (try clear hb); (try clear hb2); (try clear hk); (try clear hi); have hnb158 := NB303_290.out; have hnc158 := NB290_303.out; have hnb159 := NB303_291.out; have hnc159 := NB291_303.out; have hnb160 := NB303_299.out; have hnc160 := NB299_303.out; have hnb161 := NB303_307.out; have hnc161 := NB307_303.out; have hcz162_0 : w157.cell? ⟨gb303, 0, none⟩ = some (.int .i64 t300) := (blk_cell BK303.out 0).trans rfl; have hcz162_1 : w157.cell? ⟨gb303, 1, none⟩ = some (.int .i64 t301) := (blk_cell BK303.out 1).trans rfl; have hfz162_0 := blk_frozen BK303.out 0; have hfz162_1 := blk_frozen BK303.out 1; have hcz163_0 : w157.cell? ⟨gb295, 0, none⟩ = some (.int .i64 t292) := (blk_cell BK295.out 0).trans rfl; have hcz163_1 : w157.cell? ⟨gb295, 1, none⟩ = some (.int .i64 t293) := (blk_cell BK295.out 1).trans rfl; have hfz163_0 := blk_frozen BK295.out 0; have hfz163_1 := blk_frozen BK295.out 1; have hnb164 := NB307_290.out; have hnc164 := NB290_307.out; have hnb165 := NB307_291.out; have hnc165 := NB291_307.out; have hnb166 := NB307_299.out; have hnc166 := NB299_307.out; have hcz167_0 : w157.cell? ⟨gb307, 0, none⟩ = some (.int .i64 t304) := (blk_cell BK307.out 0).trans rfl; have hcz167_1 : w157.cell? ⟨gb307, 1, none⟩ = some (.int .i64 t305) := (blk_cell BK307.out 1).trans rfl; have hfz167_0 := blk_frozen BK307.out 0; have hfz167_1 := blk_frozen BK307.out 1))
               go_meet
               case rel => exact ⟨_, (true), (by first | rfl | (simp; done) | (simp [*]; done)), H', ⟨by have := HJ6.out; first | omega | exact Nat.le_refl _⟩, ⟨by (with_reducible repeat (first | apply Kd.R_alloc | apply Kd.R_drewN | apply Kd.R_drew)); exact Kd.R_mono HO310.out (fun _ hk => ⟨hk.1.2, hk.2⟩)⟩, ⟨by (with_reducible repeat (first | apply Kd.R_alloc | apply Kd.R_drewN | apply Kd.R_drew)); exact Kd.R_mono HO314.out (fun _ hk => ⟨hk.1.2, hk.2⟩)⟩, ⟨by (with_reducible repeat (first | apply Kd.R_alloc | apply Kd.R_drewN | apply Kd.R_drew)); exact Kd.R_mono HO318.out (fun _ hk => ⟨hk.1.2, hk.2⟩)⟩, ⟨by (with_reducible repeat (first | refine blk_drewN ?_ _ | refine blk_drew ?_ | refine blk_alloc ?_ _)); exact BK290.out⟩, ⟨by (with_reducible repeat (first | refine blk_drewN ?_ _ | refine blk_drew ?_ | refine blk_alloc ?_ _)); exact BK291.out⟩, ⟨by (with_reducible repeat (first | refine blk_drewN ?_ _ | refine blk_drew ?_ | refine blk_alloc ?_ _)); exact BK295.out⟩, ⟨by (with_reducible repeat (first | refine blk_drewN ?_ _ | refine blk_drew ?_ | refine blk_alloc ?_ _)); exact BK299.out⟩, ⟨by (with_reducible repeat (first | refine blk_drewN ?_ _ | refine blk_drew ?_ | refine blk_alloc ?_ _)); exact BK303.out⟩, ⟨by (with_reducible repeat (first | refine blk_drewN ?_ _ | refine blk_drew ?_ | refine blk_alloc ?_ _)); exact BK307.out⟩, ⟨by repeat (first | (with_reducible first | exact HB.out | apply below_alloc | apply pw_below_drewN | apply below_drew1 | refine below_set ?_ GE290.out | refine below_set ?_ GE291.out | refine below_set ?_ GE295.out | refine below_set ?_ GE299.out | refine below_set ?_ GE303.out | refine below_set ?_ GE307.out) | exact HB.out)⟩⟩
             ·replace c114 := Bool.eq_false_iff.mpr c114
              subst c114
              have H1 : (laws_FnJoined.j1 kj6 l1 t308 t312 t316 t320 true) = some r := by rw [if_neg (show ¬ (false = true) by decide)] at H; exact H
              clear H
              have H := H1
              clear H1
              have H' := Aside0.mk H
              clear H
              have hnb168 := NB295_290.out
              have hnc168 := NB290_295.out
              have hnb169 := NB295_291.out
              have hnc169 := NB291_295.out
              have hnb170 := NB295_299.out
              have hnc170 := NB299_295.out
              have hnb171 := NB295_303.out
              have hnc171 := NB303_295.out
              have hnb172 := NB295_307.out
              have hnc172 := NB307_295.out
              have hcz173_0 : w77.cell? ⟨gb295, 0, none⟩ = some (.int .i64 t292) := (blk_cell BK295.out 0).trans rfl
              have hcz173_1 : w77.cell? ⟨gb295, 1, none⟩ = some (.int .i64 t293) := (blk_cell BK295.out 1).trans rfl
              have hfz173_0 := blk_frozen BK295.out 0
              have hfz173_1 := blk_frozen BK295.out 1
              go_wp2_with (first | ((with_reducible refine gate_callee (f := 61) rfl ?_); refine goesLa (some 101) rfl Try.func61 #[.agg #[.int .i64 t292, .int .i64 t293]] rfl ?_; (with_reducible refine (impl_GoodWindow.calls t292 t293 true _ A78.out).mono ?_); rintro e w174 ⟨rfl, hb⟩; refine ⟨_, rfl, ?_⟩; have n0_ := Aside0.mk (Kd.R_below (by (with_reducible repeat (first | apply Kd.R_alloc | apply Kd.R_drewN | apply Kd.R_drew)); exact HO310.out) hb); have n1_ := Aside0.mk (Kd.R_below (by (with_reducible repeat (first | apply Kd.R_alloc | apply Kd.R_drewN | apply Kd.R_drew)); exact HO314.out) hb); have n2_ := Aside0.mk (Kd.R_below (by (with_reducible repeat (first | apply Kd.R_alloc | apply Kd.R_drewN | apply Kd.R_drew)); exact HO318.out) hb); have n3_ := Aside0.mk (blk_below (blkd BK290) hb); have n4_ := Aside0.mk (blk_below (blkd BK291) hb); have n5_ := Aside0.mk (blk_below (blkd BK295) hb); have n6_ := Aside0.mk (blk_below (blkd BK299) hb); have n7_ := Aside0.mk (blk_below (blkd BK303) hb); have n8_ := Aside0.mk (blk_below (blkd BK307) hb); have n9_ := Aside0.mk (below_step (by repeat (first | (with_reducible first | exact HB.out | apply below_alloc | apply pw_below_drewN | apply below_drew1 | refine below_set ?_ GE290.out | refine below_set ?_ GE291.out | refine below_set ?_ GE295.out | refine below_set ?_ GE299.out | refine below_set ?_ GE303.out | refine below_set ?_ GE307.out) | exact HB.out)) hb); clear HO310; clear HO314; clear HO318; clear BK290; clear BK291; clear BK295; clear BK299; clear BK303; clear BK307; clear HB; have HO310 := n0_; have HO314 := n1_; have HO318 := n2_; have BK290 := n3_; have BK291 := n4_; have BK295 := n5_; have BK299 := n6_; have BK303 := n7_; have BK307 := n8_; have HB := n9_; clear n0_ n1_ n2_ n3_ n4_ n5_ n6_ n7_ n8_ n9_; (try clear hb); (try clear hb2); (try clear hk); (try clear hi); have hnb175 := NB303_290.out; have hnc175 := NB290_303.out; have hnb176 := NB303_291.out; have hnc176 := NB291_303.out; have hnb177 := NB303_299.out; have hnc177 := NB299_303.out; have hnb178 := NB303_307.out; have hnc178 := NB307_303.out; have hcz179_0 : w174.cell? ⟨gb303, 0, none⟩ = some (.int .i64 t300) := (blk_cell BK303.out 0).trans rfl; have hcz179_1 : w174.cell? ⟨gb303, 1, none⟩ = some (.int .i64 t301) := (blk_cell BK303.out 1).trans rfl; have hfz179_0 := blk_frozen BK303.out 0; have hfz179_1 := blk_frozen BK303.out 1; have hcz180_0 : w174.cell? ⟨gb295, 0, none⟩ = some (.int .i64 t292) := (blk_cell BK295.out 0).trans rfl; have hcz180_1 : w174.cell? ⟨gb295, 1, none⟩ = some (.int .i64 t293) := (blk_cell BK295.out 1).trans rfl; have hfz180_0 := blk_frozen BK295.out 0; have hfz180_1 := blk_frozen BK295.out 1; have hnb181 := NB307_290.out; have hnc181 := NB290_307.out; have hnb182 := NB307_291.out; have hnc182 := NB291_307.out; have hnb183 := NB307_299.out; have hnc183 := NB299_307.out; have hcz184_0 : w174.cell? ⟨gb307, 0, none⟩ = some (.int .i64 t304) := (blk_cell BK307.out 0).trans rfl; have hcz184_1 : w174.cell? ⟨gb307, 1, none⟩ = some (.int .i64 t305) := (blk_cell BK307.out 1).trans rfl; have hfz184_0 := blk_frozen BK307.out 0; have hfz184_1 := blk_frozen BK307.out 1))
              go_meet
              case rel => exact ⟨_, (true), (by first | rfl | (simp; done) | (simp [*]; done)), H', ⟨by have := HJ6.out; first | omega | exact Nat.le_refl _⟩, ⟨by (with_reducible repeat (first | apply Kd.R_alloc | apply Kd.R_drewN | apply Kd.R_drew)); exact Kd.R_mono HO310.out (fun _ hk => ⟨hk.1.2, hk.2⟩)⟩, ⟨by (with_reducible repeat (first | apply Kd.R_alloc | apply Kd.R_drewN | apply Kd.R_drew)); exact Kd.R_mono HO314.out (fun _ hk => ⟨hk.1.2, hk.2⟩)⟩, ⟨by (with_reducible repeat (first | apply Kd.R_alloc | apply Kd.R_drewN | apply Kd.R_drew)); exact Kd.R_mono HO318.out (fun _ hk => ⟨hk.1.2, hk.2⟩)⟩, ⟨by (with_reducible repeat (first | refine blk_drewN ?_ _ | refine blk_drew ?_ | refine blk_alloc ?_ _)); exact BK290.out⟩, ⟨by (with_reducible repeat (first | refine blk_drewN ?_ _ | refine blk_drew ?_ | refine blk_alloc ?_ _)); exact BK291.out⟩, ⟨by (with_reducible repeat (first | refine blk_drewN ?_ _ | refine blk_drew ?_ | refine blk_alloc ?_ _)); exact BK295.out⟩, ⟨by (with_reducible repeat (first | refine blk_drewN ?_ _ | refine blk_drew ?_ | refine blk_alloc ?_ _)); exact BK299.out⟩, ⟨by (with_reducible repeat (first | refine blk_drewN ?_ _ | refine blk_drew ?_ | refine blk_alloc ?_ _)); exact BK303.out⟩, ⟨by (with_reducible repeat (first | refine blk_drewN ?_ _ | refine blk_drew ?_ | refine blk_alloc ?_ _)); exact BK307.out⟩, ⟨by repeat (first | (with_reducible first | exact HB.out | apply below_alloc | apply pw_below_drewN | apply below_drew1 | refine below_set ?_ GE290.out | refine below_set ?_ GE291.out | refine below_set ?_ GE295.out | refine below_set ?_ GE299.out | refine below_set ?_ GE303.out | refine below_set ?_ GE307.out) | exact HB.out)⟩⟩
           ·replace c95 := Bool.eq_false_iff.mpr c95
            subst c95
            have H1 : (laws_FnJoined.j1 kj6 l1 t308 t312 t316 t320 true) = some r := by rw [if_neg (show ¬ (false = true) by decide)] at H; exact H
            clear H
            have H := H1
            clear H1
            have H' := Aside0.mk H
            clear H
            have hnb185 := NB295_290.out
            have hnc185 := NB290_295.out
            have hnb186 := NB295_291.out
            have hnc186 := NB291_295.out
            have hnb187 := NB295_299.out
            have hnc187 := NB299_295.out
            have hnb188 := NB295_303.out
            have hnc188 := NB303_295.out
            have hnb189 := NB295_307.out
            have hnc189 := NB307_295.out
            have hcz190_0 : w77.cell? ⟨gb295, 0, none⟩ = some (.int .i64 t292) := (blk_cell BK295.out 0).trans rfl
            have hcz190_1 : w77.cell? ⟨gb295, 1, none⟩ = some (.int .i64 t293) := (blk_cell BK295.out 1).trans rfl
            have hfz190_0 := blk_frozen BK295.out 0
            have hfz190_1 := blk_frozen BK295.out 1
            go_wp2_with (first | ((with_reducible refine gate_callee (f := 61) rfl ?_); refine goesLa (some 101) rfl Try.func61 #[.agg #[.int .i64 t292, .int .i64 t293]] rfl ?_; (with_reducible refine (impl_GoodWindow.calls t292 t293 true _ A78.out).mono ?_); rintro e w191 ⟨rfl, hb⟩; refine ⟨_, rfl, ?_⟩; have n0_ := Aside0.mk (Kd.R_below (by (with_reducible repeat (first | apply Kd.R_alloc | apply Kd.R_drewN | apply Kd.R_drew)); exact HO310.out) hb); have n1_ := Aside0.mk (Kd.R_below (by (with_reducible repeat (first | apply Kd.R_alloc | apply Kd.R_drewN | apply Kd.R_drew)); exact HO314.out) hb); have n2_ := Aside0.mk (Kd.R_below (by (with_reducible repeat (first | apply Kd.R_alloc | apply Kd.R_drewN | apply Kd.R_drew)); exact HO318.out) hb); have n3_ := Aside0.mk (blk_below (blkd BK290) hb); have n4_ := Aside0.mk (blk_below (blkd BK291) hb); have n5_ := Aside0.mk (blk_below (blkd BK295) hb); have n6_ := Aside0.mk (blk_below (blkd BK299) hb); have n7_ := Aside0.mk (blk_below (blkd BK303) hb); have n8_ := Aside0.mk (blk_below (blkd BK307) hb); have n9_ := Aside0.mk (below_step (by repeat (first | (with_reducible first | exact HB.out | apply below_alloc | apply pw_below_drewN | apply below_drew1 | refine below_set ?_ GE290.out | refine below_set ?_ GE291.out | refine below_set ?_ GE295.out | refine below_set ?_ GE299.out | refine below_set ?_ GE303.out | refine below_set ?_ GE307.out) | exact HB.out)) hb); clear HO310; clear HO314; clear HO318; clear BK290; clear BK291; clear BK295; clear BK299; clear BK303; clear BK307; clear HB; have HO310 := n0_; have HO314 := n1_; have HO318 := n2_; have BK290 := n3_; have BK291 := n4_; have BK295 := n5_; have BK299 := n6_; have BK303 := n7_; have BK307 := n8_; have HB := n9_; clear n0_ n1_ n2_ n3_ n4_ n5_ n6_ n7_ n8_ n9_; (try clear hb); (try clear hb2); (try clear hk); (try clear hi); have hnb192 := NB303_290.out; have hnc192 := NB290_303.out; have hnb193 := NB303_291.out; have hnc193 := NB291_303.out; have hnb194 := NB303_299.out; have hnc194 := NB299_303.out; have hnb195 := NB303_307.out; have hnc195 := NB307_303.out; have hcz196_0 : w191.cell? ⟨gb303, 0, none⟩ = some (.int .i64 t300) := (blk_cell BK303.out 0).trans rfl; have hcz196_1 : w191.cell? ⟨gb303, 1, none⟩ = some (.int .i64 t301) := (blk_cell BK303.out 1).trans rfl; have hfz196_0 := blk_frozen BK303.out 0; have hfz196_1 := blk_frozen BK303.out 1; have hcz197_0 : w191.cell? ⟨gb295, 0, none⟩ = some (.int .i64 t292) := (blk_cell BK295.out 0).trans rfl; have hcz197_1 : w191.cell? ⟨gb295, 1, none⟩ = some (.int .i64 t293) := (blk_cell BK295.out 1).trans rfl; have hfz197_0 := blk_frozen BK295.out 0; have hfz197_1 := blk_frozen BK295.out 1))
            go_meet
            case rel => exact ⟨_, (true), (by first | rfl | (simp; done) | (simp [*]; done)), H', ⟨by have := HJ6.out; first | omega | exact Nat.le_refl _⟩, ⟨by (with_reducible repeat (first | apply Kd.R_alloc | apply Kd.R_drewN | apply Kd.R_drew)); exact Kd.R_mono HO310.out (fun _ hk => ⟨hk.1.2, hk.2⟩)⟩, ⟨by (with_reducible repeat (first | apply Kd.R_alloc | apply Kd.R_drewN | apply Kd.R_drew)); exact Kd.R_mono HO314.out (fun _ hk => ⟨hk.1.2, hk.2⟩)⟩, ⟨by (with_reducible repeat (first | apply Kd.R_alloc | apply Kd.R_drewN | apply Kd.R_drew)); exact Kd.R_mono HO318.out (fun _ hk => ⟨hk.1.2, hk.2⟩)⟩, ⟨by (with_reducible repeat (first | refine blk_drewN ?_ _ | refine blk_drew ?_ | refine blk_alloc ?_ _)); exact BK290.out⟩, ⟨by (with_reducible repeat (first | refine blk_drewN ?_ _ | refine blk_drew ?_ | refine blk_alloc ?_ _)); exact BK291.out⟩, ⟨by (with_reducible repeat (first | refine blk_drewN ?_ _ | refine blk_drew ?_ | refine blk_alloc ?_ _)); exact BK295.out⟩, ⟨by (with_reducible repeat (first | refine blk_drewN ?_ _ | refine blk_drew ?_ | refine blk_alloc ?_ _)); exact BK299.out⟩, ⟨by (with_reducible repeat (first | refine blk_drewN ?_ _ | refine blk_drew ?_ | refine blk_alloc ?_ _)); exact BK303.out⟩, ⟨by (with_reducible repeat (first | refine blk_drewN ?_ _ | refine blk_drew ?_ | refine blk_alloc ?_ _)); exact BK307.out⟩, ⟨by repeat (first | (with_reducible first | exact HB.out | apply below_alloc | apply pw_below_drewN | apply below_drew1 | refine below_set ?_ GE290.out | refine below_set ?_ GE291.out | refine below_set ?_ GE295.out | refine below_set ?_ GE299.out | refine below_set ?_ GE303.out | refine below_set ?_ GE307.out) | exact HB.out)⟩⟩
         ·replace c80 := Bool.eq_false_iff.mpr c80
          subst c80
          have H1 : (laws_FnJoined.j1 kj6 l1 t308 t312 t316 t320 true) = some r := by rw [if_neg (show ¬ (false = true) by decide)] at H; exact H
          clear H
          have H := H1
          clear H1
          have H' := Aside0.mk H
          clear H
          have hnb198 := NB295_290.out
          have hnc198 := NB290_295.out
          have hnb199 := NB295_291.out
          have hnc199 := NB291_295.out
          have hnb200 := NB295_299.out
          have hnc200 := NB299_295.out
          have hnb201 := NB295_303.out
          have hnc201 := NB303_295.out
          have hnb202 := NB295_307.out
          have hnc202 := NB307_295.out
          have hcz203_0 : w77.cell? ⟨gb295, 0, none⟩ = some (.int .i64 t292) := (blk_cell BK295.out 0).trans rfl
          have hcz203_1 : w77.cell? ⟨gb295, 1, none⟩ = some (.int .i64 t293) := (blk_cell BK295.out 1).trans rfl
          have hfz203_0 := blk_frozen BK295.out 0
          have hfz203_1 := blk_frozen BK295.out 1
          go_wp2_with (first | ((with_reducible refine gate_callee (f := 61) rfl ?_); refine goesLa (some 101) rfl Try.func61 #[.agg #[.int .i64 t292, .int .i64 t293]] rfl ?_; (with_reducible refine (impl_GoodWindow.calls t292 t293 true _ A78.out).mono ?_); rintro e w204 ⟨rfl, hb⟩; refine ⟨_, rfl, ?_⟩; have n0_ := Aside0.mk (Kd.R_below (by (with_reducible repeat (first | apply Kd.R_alloc | apply Kd.R_drewN | apply Kd.R_drew)); exact HO310.out) hb); have n1_ := Aside0.mk (Kd.R_below (by (with_reducible repeat (first | apply Kd.R_alloc | apply Kd.R_drewN | apply Kd.R_drew)); exact HO314.out) hb); have n2_ := Aside0.mk (Kd.R_below (by (with_reducible repeat (first | apply Kd.R_alloc | apply Kd.R_drewN | apply Kd.R_drew)); exact HO318.out) hb); have n3_ := Aside0.mk (blk_below (blkd BK290) hb); have n4_ := Aside0.mk (blk_below (blkd BK291) hb); have n5_ := Aside0.mk (blk_below (blkd BK295) hb); have n6_ := Aside0.mk (blk_below (blkd BK299) hb); have n7_ := Aside0.mk (blk_below (blkd BK303) hb); have n8_ := Aside0.mk (blk_below (blkd BK307) hb); have n9_ := Aside0.mk (below_step (by repeat (first | (with_reducible first | exact HB.out | apply below_alloc | apply pw_below_drewN | apply below_drew1 | refine below_set ?_ GE290.out | refine below_set ?_ GE291.out | refine below_set ?_ GE295.out | refine below_set ?_ GE299.out | refine below_set ?_ GE303.out | refine below_set ?_ GE307.out) | exact HB.out)) hb); clear HO310; clear HO314; clear HO318; clear BK290; clear BK291; clear BK295; clear BK299; clear BK303; clear BK307; clear HB; have HO310 := n0_; have HO314 := n1_; have HO318 := n2_; have BK290 := n3_; have BK291 := n4_; have BK295 := n5_; have BK299 := n6_; have BK303 := n7_; have BK307 := n8_; have HB := n9_; clear n0_ n1_ n2_ n3_ n4_ n5_ n6_ n7_ n8_ n9_; (try clear hb); (try clear hb2); (try clear hk); (try clear hi)))
          go_meet
          case rel => exact ⟨_, (true), (by first | rfl | (simp; done) | (simp [*]; done)), H', ⟨by have := HJ6.out; first | omega | exact Nat.le_refl _⟩, ⟨by (with_reducible repeat (first | apply Kd.R_alloc | apply Kd.R_drewN | apply Kd.R_drew)); exact Kd.R_mono HO310.out (fun _ hk => ⟨hk.1.2, hk.2⟩)⟩, ⟨by (with_reducible repeat (first | apply Kd.R_alloc | apply Kd.R_drewN | apply Kd.R_drew)); exact Kd.R_mono HO314.out (fun _ hk => ⟨hk.1.2, hk.2⟩)⟩, ⟨by (with_reducible repeat (first | apply Kd.R_alloc | apply Kd.R_drewN | apply Kd.R_drew)); exact Kd.R_mono HO318.out (fun _ hk => ⟨hk.1.2, hk.2⟩)⟩, ⟨by (with_reducible repeat (first | refine blk_drewN ?_ _ | refine blk_drew ?_ | refine blk_alloc ?_ _)); exact BK290.out⟩, ⟨by (with_reducible repeat (first | refine blk_drewN ?_ _ | refine blk_drew ?_ | refine blk_alloc ?_ _)); exact BK291.out⟩, ⟨by (with_reducible repeat (first | refine blk_drewN ?_ _ | refine blk_drew ?_ | refine blk_alloc ?_ _)); exact BK295.out⟩, ⟨by (with_reducible repeat (first | refine blk_drewN ?_ _ | refine blk_drew ?_ | refine blk_alloc ?_ _)); exact BK299.out⟩, ⟨by (with_reducible repeat (first | refine blk_drewN ?_ _ | refine blk_drew ?_ | refine blk_alloc ?_ _)); exact BK303.out⟩, ⟨by (with_reducible repeat (first | refine blk_drewN ?_ _ | refine blk_drew ?_ | refine blk_alloc ?_ _)); exact BK307.out⟩, ⟨by repeat (first | (with_reducible first | exact HB.out | apply below_alloc | apply pw_below_drewN | apply below_drew1 | refine below_set ?_ GE290.out | refine below_set ?_ GE291.out | refine below_set ?_ GE295.out | refine below_set ?_ GE299.out | refine below_set ?_ GE303.out | refine below_set ?_ GE307.out) | exact HB.out)⟩⟩
        ·replace c79 := Bool.eq_false_iff.mpr c79
         subst c79
         have H1 : (laws_FnJoined.j1 kj6 l1 t308 t312 t316 t320 true) = some r := by rw [if_neg (show ¬ (false = true) by decide)] at H; exact H
         clear H
         have H := H1
         clear H1
         have H' := Aside0.mk H
         clear H
         have hnb205 := NB295_290.out
         have hnc205 := NB290_295.out
         have hnb206 := NB295_291.out
         have hnc206 := NB291_295.out
         have hnb207 := NB295_299.out
         have hnc207 := NB299_295.out
         have hnb208 := NB295_303.out
         have hnc208 := NB303_295.out
         have hnb209 := NB295_307.out
         have hnc209 := NB307_295.out
         have hcz210_0 : w77.cell? ⟨gb295, 0, none⟩ = some (.int .i64 t292) := (blk_cell BK295.out 0).trans rfl
         have hcz210_1 : w77.cell? ⟨gb295, 1, none⟩ = some (.int .i64 t293) := (blk_cell BK295.out 1).trans rfl
         have hfz210_0 := blk_frozen BK295.out 0
         have hfz210_1 := blk_frozen BK295.out 1
         go_wp2_with (first | ((with_reducible refine gate_callee (f := 61) rfl ?_); refine goesLa (some 101) rfl Try.func61 #[.agg #[.int .i64 t292, .int .i64 t293]] rfl ?_; (with_reducible refine (impl_GoodWindow.calls t292 t293 false _ A78.out).mono ?_); rintro e w211 ⟨rfl, hb⟩; refine ⟨_, rfl, ?_⟩; have n0_ := Aside0.mk (Kd.R_below (by (with_reducible repeat (first | apply Kd.R_alloc | apply Kd.R_drewN | apply Kd.R_drew)); exact HO310.out) hb); have n1_ := Aside0.mk (Kd.R_below (by (with_reducible repeat (first | apply Kd.R_alloc | apply Kd.R_drewN | apply Kd.R_drew)); exact HO314.out) hb); have n2_ := Aside0.mk (Kd.R_below (by (with_reducible repeat (first | apply Kd.R_alloc | apply Kd.R_drewN | apply Kd.R_drew)); exact HO318.out) hb); have n3_ := Aside0.mk (blk_below (blkd BK290) hb); have n4_ := Aside0.mk (blk_below (blkd BK291) hb); have n5_ := Aside0.mk (blk_below (blkd BK295) hb); have n6_ := Aside0.mk (blk_below (blkd BK299) hb); have n7_ := Aside0.mk (blk_below (blkd BK303) hb); have n8_ := Aside0.mk (blk_below (blkd BK307) hb); have n9_ := Aside0.mk (below_step (by repeat (first | (with_reducible first | exact HB.out | apply below_alloc | apply pw_below_drewN | apply below_drew1 | refine below_set ?_ GE290.out | refine below_set ?_ GE291.out | refine below_set ?_ GE295.out | refine below_set ?_ GE299.out | refine below_set ?_ GE303.out | refine below_set ?_ GE307.out) | exact HB.out)) hb); clear HO310; clear HO314; clear HO318; clear BK290; clear BK291; clear BK295; clear BK299; clear BK303; clear BK307; clear HB; have HO310 := n0_; have HO314 := n1_; have HO318 := n2_; have BK290 := n3_; have BK291 := n4_; have BK295 := n5_; have BK299 := n6_; have BK303 := n7_; have BK307 := n8_; have HB := n9_; clear n0_ n1_ n2_ n3_ n4_ n5_ n6_ n7_ n8_ n9_; (try clear hb); (try clear hb2); (try clear hk); (try clear hi)))
         go_meet
         case rel => exact ⟨_, (true), (by first | rfl | (simp; done) | (simp [*]; done)), H', ⟨by have := HJ6.out; first | omega | exact Nat.le_refl _⟩, ⟨by (with_reducible repeat (first | apply Kd.R_alloc | apply Kd.R_drewN | apply Kd.R_drew)); exact Kd.R_mono HO310.out (fun _ hk => ⟨hk.1.2, hk.2⟩)⟩, ⟨by (with_reducible repeat (first | apply Kd.R_alloc | apply Kd.R_drewN | apply Kd.R_drew)); exact Kd.R_mono HO314.out (fun _ hk => ⟨hk.1.2, hk.2⟩)⟩, ⟨by (with_reducible repeat (first | apply Kd.R_alloc | apply Kd.R_drewN | apply Kd.R_drew)); exact Kd.R_mono HO318.out (fun _ hk => ⟨hk.1.2, hk.2⟩)⟩, ⟨by (with_reducible repeat (first | refine blk_drewN ?_ _ | refine blk_drew ?_ | refine blk_alloc ?_ _)); exact BK290.out⟩, ⟨by (with_reducible repeat (first | refine blk_drewN ?_ _ | refine blk_drew ?_ | refine blk_alloc ?_ _)); exact BK291.out⟩, ⟨by (with_reducible repeat (first | refine blk_drewN ?_ _ | refine blk_drew ?_ | refine blk_alloc ?_ _)); exact BK295.out⟩, ⟨by (with_reducible repeat (first | refine blk_drewN ?_ _ | refine blk_drew ?_ | refine blk_alloc ?_ _)); exact BK299.out⟩, ⟨by (with_reducible repeat (first | refine blk_drewN ?_ _ | refine blk_drew ?_ | refine blk_alloc ?_ _)); exact BK303.out⟩, ⟨by (with_reducible repeat (first | refine blk_drewN ?_ _ | refine blk_drew ?_ | refine blk_alloc ?_ _)); exact BK307.out⟩, ⟨by repeat (first | (with_reducible first | exact HB.out | apply below_alloc | apply pw_below_drewN | apply below_drew1 | refine below_set ?_ GE290.out | refine below_set ?_ GE291.out | refine below_set ?_ GE295.out | refine below_set ?_ GE299.out | refine below_set ?_ GE303.out | refine below_set ?_ GE307.out) | exact HB.out)⟩⟩
       case rest => as_aux_lemma =>
        clear HC44
        try clear c1
        try clear c2
        try clear p2
        try clear c3
        try clear c3b0
        try clear c4
        try clear c5
        try clear c6
        try clear p6
        try clear c7
        try clear c8
        try clear c9
        try clear c10
        try clear c11
        try clear c12
        try clear c13
        try clear c14
        try clear c15
        try clear c16
        try clear c17
        try clear c18
        try clear c19
        try clear c20
        try clear c23
        try clear c24
        try clear c25
        try clear c27
        try clear c27b0
        try clear c27b1
        try clear c27b2
        try clear c28
        try clear c29
        try clear c30
        try clear c32
        try clear c33
        try clear c35
        try clear c37
        try clear c45
        try clear c46
        try clear c47
        try clear c49
        try clear c50
        try clear c54
        try clear c55
        try clear c56
        try clear c57
        try clear c58
        try clear c59
        try clear c60
        try clear c61
        try clear c64
        try clear p64
        try clear c65
        try clear c66
        try clear c67
        try clear c68
        try clear c79
        try clear c80
        try clear c81
        try clear c81b0
        try clear c82
        try clear c83
        try clear c84
        try clear c85
        try clear c86
        try clear c89
        try clear c90
        try clear c91
        try clear c92
        try clear c95
        try clear c96
        try clear c96b0
        try clear c97
        try clear c98
        try clear c99
        try clear c100
        try clear c101
        try clear c104
        try clear c105
        try clear c106
        try clear c107
        try clear c110
        try clear c111
        try clear c112
        try clear c114
        try clear c115
        try clear c116
        try clear c117
        try clear c118
        try clear c119
        try clear c120
        try clear c121
        try clear c124
        try clear c125
        try clear c126
        try clear c127
        try clear c130
        try clear c131
        try clear c132
        try clear c134
        try clear c135
        try clear c136
        try clear c137
        try clear c138
        try clear c141
        try clear c142
        try clear c143
        try clear c144
        try clear c147
        try clear c148
        try clear c149
        try clear c151
        try clear c152
        try clear c153
        try clear c154
        try clear c155
        try clear c158
        try clear c159
        try clear c160
        try clear c161
        try clear c164
        try clear c165
        try clear c166
        try clear c168
        try clear c169
        try clear c170
        try clear c171
        try clear c172
        try clear c175
        try clear c176
        try clear c177
        try clear c178
        try clear c181
        try clear c182
        try clear c183
        try clear c185
        try clear c186
        try clear c187
        try clear c188
        try clear c189
        try clear c192
        try clear c193
        try clear c194
        try clear c195
        try clear c198
        try clear c199
        try clear c200
        try clear c201
        try clear c202
        try clear c205
        try clear c206
        try clear c207
        try clear c208
        try clear c209
        try clear hcz102_0
        try clear hcz102_1
        try clear hcz108_0
        try clear hcz108_1
        try clear hcz109_0
        try clear hcz109_1
        try clear hcz113_0
        try clear hcz113_1
        try clear hcz122_0
        try clear hcz122_1
        try clear hcz128_0
        try clear hcz128_1
        try clear hcz129_0
        try clear hcz129_1
        try clear hcz12_0
        try clear hcz12_1
        try clear hcz133_0
        try clear hcz133_1
        try clear hcz139_0
        try clear hcz139_1
        try clear hcz13_0
        try clear hcz13_1
        try clear hcz145_0
        try clear hcz145_1
        try clear hcz146_0
        try clear hcz146_1
        try clear hcz150_0
        try clear hcz150_1
        try clear hcz156_0
        try clear hcz156_1
        try clear hcz162_0
        try clear hcz162_1
        try clear hcz163_0
        try clear hcz163_1
        try clear hcz167_0
        try clear hcz167_1
        try clear hcz173_0
        try clear hcz173_1
        try clear hcz179_0
        try clear hcz179_1
        try clear hcz180_0
        try clear hcz180_1
        try clear hcz184_0
        try clear hcz184_1
        try clear hcz18_0
        try clear hcz18_1
        try clear hcz190_0
        try clear hcz190_1
        try clear hcz196_0
        try clear hcz196_1
        try clear hcz197_0
        try clear hcz197_1
        try clear hcz19_0
        try clear hcz19_1
        try clear hcz203_0
        try clear hcz203_1
        try clear hcz20_0
        try clear hcz20_1
        try clear hcz210_0
        try clear hcz210_1
        try clear hcz26_0
        try clear hcz26_1
        try clear hcz31_0
        try clear hcz31_1
        try clear hcz34_0
        try clear hcz34_1
        try clear hcz48_0
        try clear hcz48_1
        try clear hcz51_0
        try clear hcz51_1
        try clear hcz58_0
        try clear hcz58_1
        try clear hcz60_0
        try clear hcz60_1
        try clear hcz61_0
        try clear hcz61_1
        try clear hcz69_0
        try clear hcz69_1
        try clear hcz70_0
        try clear hcz70_1
        try clear hcz72_0
        try clear hcz72_1
        try clear hcz74_0
        try clear hcz74_1
        try clear hcz76_0
        try clear hcz76_1
        try clear hcz87_0
        try clear hcz87_1
        try clear hcz93_0
        try clear hcz93_1
        try clear hcz94_0
        try clear hcz94_1
        try clear hfz102_0
        try clear hfz102_1
        try clear hfz108_0
        try clear hfz108_1
        try clear hfz109_0
        try clear hfz109_1
        try clear hfz113_0
        try clear hfz113_1
        try clear hfz122_0
        try clear hfz122_1
        try clear hfz128_0
        try clear hfz128_1
        try clear hfz129_0
        try clear hfz129_1
        try clear hfz12_0
        try clear hfz12_1
        try clear hfz133_0
        try clear hfz133_1
        try clear hfz139_0
        try clear hfz139_1
        try clear hfz13_0
        try clear hfz13_1
        try clear hfz145_0
        try clear hfz145_1
        try clear hfz146_0
        try clear hfz146_1
        try clear hfz150_0
        try clear hfz150_1
        try clear hfz156_0
        try clear hfz156_1
        try clear hfz162_0
        try clear hfz162_1
        try clear hfz163_0
        try clear hfz163_1
        try clear hfz167_0
        try clear hfz167_1
        try clear hfz173_0
        try clear hfz173_1
        try clear hfz179_0
        try clear hfz179_1
        try clear hfz180_0
        try clear hfz180_1
        try clear hfz184_0
        try clear hfz184_1
        try clear hfz18_0
        try clear hfz18_1
        try clear hfz190_0
        try clear hfz190_1
        try clear hfz196_0
        try clear hfz196_1
        try clear hfz197_0
        try clear hfz197_1
        try clear hfz19_0
        try clear hfz19_1
        try clear hfz203_0
        try clear hfz203_1
        try clear hfz20_0
        try clear hfz20_1
        try clear hfz210_0
        try clear hfz210_1
        try clear hfz26_0
        try clear hfz26_1
        try clear hfz31_0
        try clear hfz31_1
        try clear hfz34_0
        try clear hfz34_1
        try clear hfz48_0
        try clear hfz48_1
        try clear hfz51_0
        try clear hfz51_1
        try clear hfz58_0
        try clear hfz58_1
        try clear hfz60_0
        try clear hfz60_1
        try clear hfz61_0
        try clear hfz61_1
        try clear hfz69_0
        try clear hfz69_1
        try clear hfz70_0
        try clear hfz70_1
        try clear hfz72_0
        try clear hfz72_1
        try clear hfz74_0
        try clear hfz74_1
        try clear hfz76_0
        try clear hfz76_1
        try clear hfz87_0
        try clear hfz87_1
        try clear hfz93_0
        try clear hfz93_1
        try clear hfz94_0
        try clear hfz94_1
        try clear p2
        try clear p6
        obtain ⟨kq, x136_43, rfl, HA, HJ43, HO_15, HO_17, HO_19, BK290, BK291, BK295, BK299, BK303, BK307, HB⟩ := hcut
        cases kq with
        | zero => exact absurd HA.out (by simp [laws_FnJoined.j1])
        | succ kj43 =>
         have H := HA.out
         clear HA
         simp only [laws_FnJoined.j1] at H
         by_cases c212 : x136_43 = true
         ·subst c212
          have H1 : (some false) = some r := by rw [if_pos rfl] at H; exact H
          clear H
          have H := H1
          clear H1
          exact absurd (H.trans (congrArg some hr_)) (by simp)
         ·replace c212 := Bool.eq_false_iff.mpr c212
          subst c212
          have H1 : (laws_FnJoined.l0 kj43 l1 t308 t312 t316 t320 (t308.length : Int) 0) = some r := by rw [if_neg (show ¬ (false = true) by decide)] at H; exact H
          clear H
          have H := H1
          clear H1
          have H' := Aside0.mk H
          clear H
          obtain ⟨Ao213, co213, eo213⟩ := Kd.R_slice HO_15.out
          subst eo213
          go_wp2
          go_loopg [139] kj43 (fun kq v139 w' => ∃ (x139_3 : Int), v139 = .int .i64 x139_3 ∧ Aside0 (laws_FnJoined.l0 kq l1 t308 t312 t316 t320 (t308.length : Int) x139_3 = some r) ∧ Aside0 (kq ≤ kj43) ∧ Aside0 (Kd.R (Kd.int .i64) 3 w' w.heap.size (fun k_ => some k_ ≠ (v313 : Value).ownBlock ∧ some k_ ≠ (v317 : Value).ownBlock) (.slice Ao213 t308.length co213) t308) ∧ Aside0 (Kd.R (Kd.int .i64) 3 w' w.heap.size (fun k_ => some k_ ≠ ((.slice Ao213 t308.length co213) : Value).ownBlock ∧ some k_ ≠ (v317 : Value).ownBlock) v313 t312) ∧ Aside0 (Kd.R (Kd.int .i64) 3 w' w.heap.size (fun k_ => some k_ ≠ ((.slice Ao213 t308.length co213) : Value).ownBlock ∧ some k_ ≠ (v313 : Value).ownBlock) v317 t316) ∧ Aside0 (w'.heap[gb290]? = some (.cells #[.int .i64 t286, .int .i64 t287] 80 (0, 0))) ∧ Aside0 (w'.heap[gb291]? = some (.cells #[.int .i64 t288, .int .i64 t289] 80 (0, 0))) ∧ Aside0 (w'.heap[gb295]? = some (.cells #[.int .i64 t292, .int .i64 t293] 80 (0, 0))) ∧ Aside0 (w'.heap[gb299]? = some (.cells #[.int .i64 t296, .int .i64 t297] 80 (0, 0))) ∧ Aside0 (w'.heap[gb303]? = some (.cells #[.int .i64 t300, .int .i64 t301] 80 (0, 0))) ∧ Aside0 (w'.heap[gb307]? = some (.cells #[.int .i64 t304, .int .i64 t305] 80 (0, 0))) ∧ Aside0 (Below w.heap.size w w'))
          case atStart => exact ⟨(0), (by first | rfl | (simp; done) | (simp [*]; done)), H', ⟨Nat.le_refl _⟩, ⟨by (with_reducible repeat (first | apply Kd.R_alloc | apply Kd.R_drewN | apply Kd.R_drew)); exact HO_15.out⟩, ⟨by (with_reducible repeat (first | apply Kd.R_alloc | apply Kd.R_drewN | apply Kd.R_drew)); exact HO_17.out⟩, ⟨by (with_reducible repeat (first | apply Kd.R_alloc | apply Kd.R_drewN | apply Kd.R_drew)); exact HO_19.out⟩, ⟨by (with_reducible repeat (first | refine blk_drewN ?_ _ | refine blk_drew ?_ | refine blk_alloc ?_ _)); exact BK290.out⟩, ⟨by (with_reducible repeat (first | refine blk_drewN ?_ _ | refine blk_drew ?_ | refine blk_alloc ?_ _)); exact BK291.out⟩, ⟨by (with_reducible repeat (first | refine blk_drewN ?_ _ | refine blk_drew ?_ | refine blk_alloc ?_ _)); exact BK295.out⟩, ⟨by (with_reducible repeat (first | refine blk_drewN ?_ _ | refine blk_drew ?_ | refine blk_alloc ?_ _)); exact BK299.out⟩, ⟨by (with_reducible repeat (first | refine blk_drewN ?_ _ | refine blk_drew ?_ | refine blk_alloc ?_ _)); exact BK303.out⟩, ⟨by (with_reducible repeat (first | refine blk_drewN ?_ _ | refine blk_drew ?_ | refine blk_alloc ?_ _)); exact BK307.out⟩, ⟨by repeat (first | (with_reducible first | exact HB.out | apply below_alloc | apply pw_below_drewN | apply below_drew1 | refine below_set ?_ GE290.out | refine below_set ?_ GE291.out | refine below_set ?_ GE295.out | refine below_set ?_ GE299.out | refine below_set ?_ GE303.out | refine below_set ?_ GE307.out) | exact HB.out)⟩⟩
          case round => as_aux_lemma =>
           clear H'
           try clear c1
           try clear c2
           try clear p2
           try clear c3
           try clear c3b0
           try clear c4
           try clear c5
           try clear c6
           try clear p6
           try clear c7
           try clear c8
           try clear c9
           try clear c10
           try clear c11
           try clear c12
           try clear c13
           try clear c14
           try clear c15
           try clear c16
           try clear c17
           try clear c18
           try clear c19
           try clear c20
           try clear c21
           try clear c23
           try clear c24
           try clear c25
           try clear c27
           try clear c27b0
           try clear c27b1
           try clear c27b2
           try clear c28
           try clear c29
           try clear c30
           try clear c32
           try clear c33
           try clear c35
           try clear c37
           try clear c45
           try clear c46
           try clear c47
           try clear c49
           try clear c50
           try clear c54
           try clear c55
           try clear c56
           try clear c57
           try clear c58
           try clear c59
           try clear c60
           try clear c61
           try clear c64
           try clear p64
           try clear c65
           try clear c66
           try clear c67
           try clear c68
           try clear c79
           try clear c80
           try clear c81
           try clear c81b0
           try clear c82
           try clear c83
           try clear c84
           try clear c85
           try clear c86
           try clear c89
           try clear c90
           try clear c91
           try clear c92
           try clear c95
           try clear c96
           try clear c96b0
           try clear c97
           try clear c98
           try clear c99
           try clear c100
           try clear c101
           try clear c104
           try clear c105
           try clear c106
           try clear c107
           try clear c110
           try clear c111
           try clear c112
           try clear c114
           try clear c115
           try clear c116
           try clear c117
           try clear c118
           try clear c119
           try clear c120
           try clear c121
           try clear c124
           try clear c125
           try clear c126
           try clear c127
           try clear c130
           try clear c131
           try clear c132
           try clear c134
           try clear c135
           try clear c136
           try clear c137
           try clear c138
           try clear c141
           try clear c142
           try clear c143
           try clear c144
           try clear c147
           try clear c148
           try clear c149
           try clear c151
           try clear c152
           try clear c153
           try clear c154
           try clear c155
           try clear c158
           try clear c159
           try clear c160
           try clear c161
           try clear c164
           try clear c165
           try clear c166
           try clear c168
           try clear c169
           try clear c170
           try clear c171
           try clear c172
           try clear c175
           try clear c176
           try clear c177
           try clear c178
           try clear c181
           try clear c182
           try clear c183
           try clear c185
           try clear c186
           try clear c187
           try clear c188
           try clear c189
           try clear c192
           try clear c193
           try clear c194
           try clear c195
           try clear c198
           try clear c199
           try clear c200
           try clear c201
           try clear c202
           try clear c205
           try clear c206
           try clear c207
           try clear c208
           try clear c209
           try clear c212
           try clear hcz102_0
           try clear hcz102_1
           try clear hcz108_0
           try clear hcz108_1
           try clear hcz109_0
           try clear hcz109_1
           try clear hcz113_0
           try clear hcz113_1
           try clear hcz122_0
           try clear hcz122_1
           try clear hcz128_0
           try clear hcz128_1
           try clear hcz129_0
           try clear hcz129_1
           try clear hcz12_0
           try clear hcz12_1
           try clear hcz133_0
           try clear hcz133_1
           try clear hcz139_0
           try clear hcz139_1
           try clear hcz13_0
           try clear hcz13_1
           try clear hcz145_0
           try clear hcz145_1
           try clear hcz146_0
           try clear hcz146_1
           try clear hcz150_0
           try clear hcz150_1
           try clear hcz156_0
           try clear hcz156_1
           try clear hcz162_0
           try clear hcz162_1
           try clear hcz163_0
           try clear hcz163_1
           try clear hcz167_0
           try clear hcz167_1
           try clear hcz173_0
           try clear hcz173_1
           try clear hcz179_0
           try clear hcz179_1
           try clear hcz180_0
           try clear hcz180_1
           try clear hcz184_0
           try clear hcz184_1
           try clear hcz18_0
           try clear hcz18_1
           try clear hcz190_0
           try clear hcz190_1
           try clear hcz196_0
           try clear hcz196_1
           try clear hcz197_0
           try clear hcz197_1
           try clear hcz19_0
           try clear hcz19_1
           try clear hcz203_0
           try clear hcz203_1
           try clear hcz20_0
           try clear hcz20_1
           try clear hcz210_0
           try clear hcz210_1
           try clear hcz26_0
           try clear hcz26_1
           try clear hcz31_0
           try clear hcz31_1
           try clear hcz34_0
           try clear hcz34_1
           try clear hcz48_0
           try clear hcz48_1
           try clear hcz51_0
           try clear hcz51_1
           try clear hcz58_0
           try clear hcz58_1
           try clear hcz60_0
           try clear hcz60_1
           try clear hcz61_0
           try clear hcz61_1
           try clear hcz69_0
           try clear hcz69_1
           try clear hcz70_0
           try clear hcz70_1
           try clear hcz72_0
           try clear hcz72_1
           try clear hcz74_0
           try clear hcz74_1
           try clear hcz76_0
           try clear hcz76_1
           try clear hcz87_0
           try clear hcz87_1
           try clear hcz93_0
           try clear hcz93_1
           try clear hcz94_0
           try clear hcz94_1
           try clear hfz102_0
           try clear hfz102_1
           try clear hfz108_0
           try clear hfz108_1
           try clear hfz109_0
           try clear hfz109_1
           try clear hfz113_0
           try clear hfz113_1
           try clear hfz122_0
           try clear hfz122_1
           try clear hfz128_0
           try clear hfz128_1
           try clear hfz129_0
           try clear hfz129_1
           try clear hfz12_0
           try clear hfz12_1
           try clear hfz133_0
           try clear hfz133_1
           try clear hfz139_0
           try clear hfz139_1
           try clear hfz13_0
           try clear hfz13_1
           try clear hfz145_0
           try clear hfz145_1
           try clear hfz146_0
           try clear hfz146_1
           try clear hfz150_0
           try clear hfz150_1
           try clear hfz156_0
           try clear hfz156_1
           try clear hfz162_0
           try clear hfz162_1
           try clear hfz163_0
           try clear hfz163_1
           try clear hfz167_0
           try clear hfz167_1
           try clear hfz173_0
           try clear hfz173_1
           try clear hfz179_0
           try clear hfz179_1
           try clear hfz180_0
           try clear hfz180_1
           try clear hfz184_0
           try clear hfz184_1
           try clear hfz18_0
           try clear hfz18_1
           try clear hfz190_0
           try clear hfz190_1
           try clear hfz196_0
           try clear hfz196_1
           try clear hfz197_0
           try clear hfz197_1
           try clear hfz19_0
           try clear hfz19_1
           try clear hfz203_0
           try clear hfz203_1
           try clear hfz20_0
           try clear hfz20_1
           try clear hfz210_0
           try clear hfz210_1
           try clear hfz26_0
           try clear hfz26_1
           try clear hfz31_0
           try clear hfz31_1
           try clear hfz34_0
           try clear hfz34_1
           try clear hfz48_0
           try clear hfz48_1
           try clear hfz51_0
           try clear hfz51_1
           try clear hfz58_0
           try clear hfz58_1
           try clear hfz60_0
           try clear hfz60_1
           try clear hfz61_0
           try clear hfz61_1
           try clear hfz69_0
           try clear hfz69_1
           try clear hfz70_0
           try clear hfz70_1
           try clear hfz72_0
           try clear hfz72_1
           try clear hfz74_0
           try clear hfz74_1
           try clear hfz76_0
           try clear hfz76_1
           try clear hfz87_0
           try clear hfz87_1
           try clear hfz93_0
           try clear hfz93_1
           try clear hfz94_0
           try clear hfz94_1
           try clear p2
           try clear p6
           try clear p64
           obtain ⟨x139_3, rfl, HA, HK3, HO_15, HO_17, HO_19, BK290, BK291, BK295, BK299, BK303, BK307, HB⟩ := hrel
           cases gk with
           | zero => exact absurd HA.out (by simp [laws_FnJoined.l0])
           | succ k3 =>
            have H := HA.out
            clear HA
            simp only [laws_FnJoined.l0] at H
            by_cases c214 : x139_3 < (t308.length : Int)
            ·rw [if_pos c214] at H
             have c214b0 : decide (x139_3 < (t308.length : Int)) = true := decide_eq_true c214
             clear c214
             by_cases c215 : 0 ≤ x139_3
             ·rw [if_pos c215] at H
              have c215b0 : decide (0 ≤ x139_3) = true := decide_eq_true c215
              clear c215
              by_cases c216 : x139_3 < (t308.length : Int)
              ·rw [if_pos c216] at H
               have c216b0 : decide (x139_3 < (t308.length : Int)) = true := decide_eq_true c216
               clear c216
               replace H := Option.bind_eq_some_iff.mp H
               obtain ⟨t324, A2170, H⟩ := H
               replace H : (if t324 = true then (if (rd t308 x139_3) < t320 then (some false) else (laws_FnJoined.l0 k3 l1 t308 t312 t316 t320 (t308.length : Int) (wrap64 (x139_3 + 1)))) else ((laws_has.f k3 t316 (rd t308 x139_3)).bind fun t325 => (if t325 = true then (if (rd t308 x139_3) < t320 then (some false) else (laws_FnJoined.l0 k3 l1 t308 t312 t316 t320 (t308.length : Int) (wrap64 (x139_3 + 1)))) else (some false)))) = some r := H
               have A217 := Aside0.mk A2170
               clear A2170
               by_cases c218 : t324 = true
               ·subst c218
                have H1 : (if (rd t308 x139_3) < t320 then (some false) else (laws_FnJoined.l0 k3 l1 t308 t312 t316 t320 (t308.length : Int) (wrap64 (x139_3 + 1)))) = some r := by rw [if_pos rfl] at H; exact H
                clear H
                have H := H1
                clear H1
                by_cases c219 : (rd t308 x139_3) < t320
                ·rw [if_pos c219] at H
                 have c219b0 : decide ((rd t308 x139_3) < t320) = true := decide_eq_true c219
                 clear c219
                 exact absurd (H.trans (congrArg some hr_)) (by simp)
                ·rw [if_neg c219] at H
                 have c219b0 : decide ((rd t308 x139_3) < t320) = false := decide_eq_false c219
                 clear c219
                 have H' := Aside0.mk H
                 clear H
                 have p323 : 0 ≤ (x139_3 : Int) := of_decide_eq_true (by first | (with_reducible assumption) | assumption)
                 have q323 : x139_3 < (t308.length : Int) := of_decide_eq_true (by first | (with_reducible assumption) | assumption)
                 obtain ⟨ad323, e323, hx323_0⟩ := Kd.at_int (Kd.R_reads' HO_15.out).2.2 x139_3 p323 q323
                 cases e323
                 replace p323 := eq_true p323
                 replace q323 := eq_true q323
                 obtain ⟨Ao220, co220, eo220⟩ := Kd.R_slice HO_17.out
                 subst eo220
                 go_wp2_with (first | ((with_reducible refine gate_callee (f := 62) rfl ?_); refine goesLa (some 145) rfl Try.func62 #[.slice Ao220 t312.length co220, .int .i64 (rd t308 x139_3)] rfl ?_; (with_reducible refine (laws_has.calls k3 _ _ t312 (rd t308 x139_3) true _ ?side1 ?side2 A217.out).mono ?_); (case side1 => repeat (first | exact (Kd.R_reads' HO_17.out).2.2 | (with_reducible refine Kd.C_alloc ?_ _) | (with_reducible refine Kd.C_drewN ?_ _) | (with_reducible refine Kd.C_drew ?_))); (case side2 => exact (Kd.R_reads' HO_17.out).2.1); rintro e w' ⟨rfl, ⟨nd, rfl⟩⟩; refine ⟨_, rfl, ?_⟩))
                 go_roundg k3
                 case measure => have := HJ6.out; have := HJ43.out; have := HK3.out; omega
                 case rel => exact ⟨(wrap64 (x139_3 + 1)), (by first | rfl | (simp; done) | (simp [*]; done)), H', ⟨by have := HJ6.out; have := HJ43.out; have := HK3.out; omega⟩, ⟨by (with_reducible repeat (first | apply Kd.R_alloc | apply Kd.R_drewN | apply Kd.R_drew)); exact HO_15.out⟩, ⟨by (with_reducible repeat (first | apply Kd.R_alloc | apply Kd.R_drewN | apply Kd.R_drew)); exact HO_17.out⟩, ⟨by (with_reducible repeat (first | apply Kd.R_alloc | apply Kd.R_drewN | apply Kd.R_drew)); exact HO_19.out⟩, ⟨by (with_reducible repeat (first | refine blk_drewN ?_ _ | refine blk_drew ?_ | refine blk_alloc ?_ _)); exact BK290.out⟩, ⟨by (with_reducible repeat (first | refine blk_drewN ?_ _ | refine blk_drew ?_ | refine blk_alloc ?_ _)); exact BK291.out⟩, ⟨by (with_reducible repeat (first | refine blk_drewN ?_ _ | refine blk_drew ?_ | refine blk_alloc ?_ _)); exact BK295.out⟩, ⟨by (with_reducible repeat (first | refine blk_drewN ?_ _ | refine blk_drew ?_ | refine blk_alloc ?_ _)); exact BK299.out⟩, ⟨by (with_reducible repeat (first | refine blk_drewN ?_ _ | refine blk_drew ?_ | refine blk_alloc ?_ _)); exact BK303.out⟩, ⟨by (with_reducible repeat (first | refine blk_drewN ?_ _ | refine blk_drew ?_ | refine blk_alloc ?_ _)); exact BK307.out⟩, ⟨by repeat (first | (with_reducible first | exact HB.out | apply below_alloc | apply pw_below_drewN | apply below_drew1 | refine below_set ?_ GE290.out | refine below_set ?_ GE291.out | refine below_set ?_ GE295.out | refine below_set ?_ GE299.out | refine below_set ?_ GE303.out | refine below_set ?_ GE307.out) | exact HB.out)⟩⟩
               ·replace c218 := Bool.eq_false_iff.mpr c218
                subst c218
                have H1 : ((laws_has.f k3 t316 (rd t308 x139_3)).bind fun t325 => (if t325 = true then (if (rd t308 x139_3) < t320 then (some false) else (laws_FnJoined.l0 k3 l1 t308 t312 t316 t320 (t308.length : Int) (wrap64 (x139_3 + 1)))) else (some false))) = some r := by rw [if_neg (show ¬ (false = true) by decide)] at H; exact H
                clear H
                have H := H1
                clear H1
                replace H := Option.bind_eq_some_iff.mp H
                obtain ⟨t325, A2210, H⟩ := H
                replace H : (if t325 = true then (if (rd t308 x139_3) < t320 then (some false) else (laws_FnJoined.l0 k3 l1 t308 t312 t316 t320 (t308.length : Int) (wrap64 (x139_3 + 1)))) else (some false)) = some r := H
                have A221 := Aside0.mk A2210
                clear A2210
                by_cases c222 : t325 = true
                ·subst c222
                 have H1 : (if (rd t308 x139_3) < t320 then (some false) else (laws_FnJoined.l0 k3 l1 t308 t312 t316 t320 (t308.length : Int) (wrap64 (x139_3 + 1)))) = some r := by rw [if_pos rfl] at H; exact H
                 clear H
                 have H := H1
                 clear H1
                 by_cases c223 : (rd t308 x139_3) < t320
                 ·rw [if_pos c223] at H
                  have c223b0 : decide ((rd t308 x139_3) < t320) = true := decide_eq_true c223
                  clear c223
                  exact absurd (H.trans (congrArg some hr_)) (by simp)
                 ·rw [if_neg c223] at H
                  have c223b0 : decide ((rd t308 x139_3) < t320) = false := decide_eq_false c223
                  clear c223
                  have H' := Aside0.mk H
                  clear H
                  have p323 : 0 ≤ (x139_3 : Int) := of_decide_eq_true (by first | (with_reducible assumption) | assumption)
                  have q323 : x139_3 < (t308.length : Int) := of_decide_eq_true (by first | (with_reducible assumption) | assumption)
                  obtain ⟨ad323, e323, hx323_0⟩ := Kd.at_int (Kd.R_reads' HO_15.out).2.2 x139_3 p323 q323
                  cases e323
                  replace p323 := eq_true p323
                  replace q323 := eq_true q323
                  obtain ⟨Ao224, co224, eo224⟩ := Kd.R_slice HO_17.out
                  subst eo224
                  go_wp2_with (first | ((with_reducible refine gate_callee (f := 62) rfl ?_); refine goesLa (some 145) rfl Try.func62 #[.slice Ao224 t312.length co224, .int .i64 (rd t308 x139_3)] rfl ?_; (with_reducible refine (laws_has.calls k3 _ _ t312 (rd t308 x139_3) false _ ?side1 ?side2 A217.out).mono ?_); (case side1 => repeat (first | exact (Kd.R_reads' HO_17.out).2.2 | (with_reducible refine Kd.C_alloc ?_ _) | (with_reducible refine Kd.C_drewN ?_ _) | (with_reducible refine Kd.C_drew ?_))); (case side2 => exact (Kd.R_reads' HO_17.out).2.1); rintro e w' ⟨rfl, ⟨nd, rfl⟩⟩; refine ⟨_, rfl, ?_⟩; obtain ⟨Ao225, co225, eo225⟩ := Kd.R_slice HO_19.out; subst eo225) | (go_at_call 62; (with_reducible refine (laws_has.calls k3 _ _ t316 (rd t308 x139_3) true _ ?side1 ?side2 A221.out).mono ?_); (case side1 => repeat (first | exact (Kd.R_reads' HO_19.out).2.2 | (with_reducible refine Kd.C_alloc ?_ _) | (with_reducible refine Kd.C_drewN ?_ _) | (with_reducible refine Kd.C_drew ?_))); (case side2 => exact (Kd.R_reads' HO_19.out).2.1); rintro e w' ⟨rfl, ⟨nd, rfl⟩⟩))
                  go_roundg k3
                  case measure => have := HJ6.out; have := HJ43.out; have := HK3.out; omega
                  case rel => exact ⟨(wrap64 (x139_3 + 1)), (by first | rfl | (simp; done) | (simp [*]; done)), H', ⟨by have := HJ6.out; have := HJ43.out; have := HK3.out; omega⟩, ⟨by (with_reducible repeat (first | apply Kd.R_alloc | apply Kd.R_drewN | apply Kd.R_drew)); exact HO_15.out⟩, ⟨by (with_reducible repeat (first | apply Kd.R_alloc | apply Kd.R_drewN | apply Kd.R_drew)); exact HO_17.out⟩, ⟨by (with_reducible repeat (first | apply Kd.R_alloc | apply Kd.R_drewN | apply Kd.R_drew)); exact HO_19.out⟩, ⟨by (with_reducible repeat (first | refine blk_drewN ?_ _ | refine blk_drew ?_ | refine blk_alloc ?_ _)); exact BK290.out⟩, ⟨by (with_reducible repeat (first | refine blk_drewN ?_ _ | refine blk_drew ?_ | refine blk_alloc ?_ _)); exact BK291.out⟩, ⟨by (with_reducible repeat (first | refine blk_drewN ?_ _ | refine blk_drew ?_ | refine blk_alloc ?_ _)); exact BK295.out⟩, ⟨by (with_reducible repeat (first | refine blk_drewN ?_ _ | refine blk_drew ?_ | refine blk_alloc ?_ _)); exact BK299.out⟩, ⟨by (with_reducible repeat (first | refine blk_drewN ?_ _ | refine blk_drew ?_ | refine blk_alloc ?_ _)); exact BK303.out⟩, ⟨by (with_reducible repeat (first | refine blk_drewN ?_ _ | refine blk_drew ?_ | refine blk_alloc ?_ _)); exact BK307.out⟩, ⟨by repeat (first | (with_reducible first | exact HB.out | apply below_alloc | apply pw_below_drewN | apply below_drew1 | refine below_set ?_ GE290.out | refine below_set ?_ GE291.out | refine below_set ?_ GE295.out | refine below_set ?_ GE299.out | refine below_set ?_ GE303.out | refine below_set ?_ GE307.out) | exact HB.out)⟩⟩
                ·replace c222 := Bool.eq_false_iff.mpr c222
                 subst c222
                 have H1 : (some false) = some r := by rw [if_neg (show ¬ (false = true) by decide)] at H; exact H
                 clear H
                 have H := H1
                 clear H1
                 exact absurd (H.trans (congrArg some hr_)) (by simp)
              ·rw [if_neg c216] at H
               exact absurd H (by simp)
             ·rw [if_neg c215] at H
              exact absurd H (by simp)
            ·rw [if_neg c214] at H
             have c214b0 : decide (x139_3 < (t308.length : Int)) = false := decide_eq_false c214
             clear c214
             obtain ⟨y326, hy326⟩ : ∃ y_ : List Int, y_ = (([] : List Int)) := ⟨_, rfl⟩
             replace H : (if y326.length + t312.length < 17592186044416 then ((some (y326 ++ t312 : List Int)).bind fun y329 => (if y329.length + t316.length < 17592186044416 then ((some (y329 ++ t316 : List Int)).bind fun y332 => (laws_FnJoined.l1 k3 l1 t308 t320 y332 (y332.length : Int) 0)) else (none))) else (none)) = some r := by first | (rw [hy326]; with_reducible exact H) | (have H2_ := (Option.bind_some _ _).symm.trans H; rw [hy326]; with_reducible exact H2_) | (have H2_ := (Option.bind_some _ _).symm.trans H; with_reducible exact H2_) | with_reducible exact H | (rw [hy326]; exact H) | exact H
             have Ny326 := Aside0.mk hy326
             clear hy326
             by_cases c226 : y326.length + t312.length < 17592186044416
             ·rw [if_pos c226] at H
              have LMc226 := Aside0.mk c226
              clear c226
              obtain ⟨y329, hy329⟩ : ∃ y_ : List Int, y_ = (y326 ++ t312) := ⟨_, rfl⟩
              replace H : (if y329.length + t316.length < 17592186044416 then ((some (y329 ++ t316 : List Int)).bind fun y332 => (laws_FnJoined.l1 k3 l1 t308 t320 y332 (y332.length : Int) 0)) else (none)) = some r := by first | (rw [hy329]; with_reducible exact H) | (have H2_ := (Option.bind_some _ _).symm.trans H; rw [hy329]; with_reducible exact H2_) | (have H2_ := (Option.bind_some _ _).symm.trans H; with_reducible exact H2_) | with_reducible exact H | (rw [hy329]; exact H) | exact H
              have Ny329 := Aside0.mk hy329
              clear hy329
              by_cases c227 : y329.length + t316.length < 17592186044416
              ·rw [if_pos c227] at H
               have LMc227 := Aside0.mk c227
               clear c227
               obtain ⟨y332, hy332⟩ : ∃ y_ : List Int, y_ = (y329 ++ t316) := ⟨_, rfl⟩
               replace H : (laws_FnJoined.l1 k3 l1 t308 t320 y332 (y332.length : Int) 0) = some r := by first | (rw [hy332]; with_reducible exact H) | (have H2_ := (Option.bind_some _ _).symm.trans H; rw [hy332]; with_reducible exact H2_) | (have H2_ := (Option.bind_some _ _).symm.trans H; with_reducible exact H2_) | with_reducible exact H | (rw [hy332]; exact H) | exact H
               have Ny332 := Aside0.mk hy332
               clear hy332
               have H' := Aside0.mk H
               clear H
               go_wp2_with (first | ((with_reducible refine gate_dst (N := 159) rfl ?_); refine Kd.R_lit (Kd.int .i64) _ 3 ?hg (N := 159) ?hd (xs := ([] : List Int)) (inner := []) (ok := fun _ => True) (okp := fun _ => True) ?hr ?hp (fun _ hk => hk) trivial (Below.refl _ _) (Nat.le_refl _) (by simp) ?_; (case hd => rfl); (case hg => rfl); (case hr => first | (go_simp; done) | (go_simp; rfl)); (case hp => exact (Reps.none _ _)); intro v327 w228 ho229 hb hg_ hnew_; clear hg_ hnew_; (first | rw [← Ny326.out] at ho229 | (simp only [Int.reduceToNat] at ho229; rw [← Ny326.out] at ho229)); have n0_ := Aside0.mk (Kd.R_elder' (by (with_reducible repeat (first | apply Kd.R_alloc | apply Kd.R_drewN | apply Kd.R_drew)); exact HO_15.out) (Kd.R_base ho229) hb); have n1_ := Aside0.mk (Kd.R_elder' (by (with_reducible repeat (first | apply Kd.R_alloc | apply Kd.R_drewN | apply Kd.R_drew)); exact HO_17.out) (Kd.R_base ho229) hb); have n2_ := Aside0.mk (Kd.R_elder' (by (with_reducible repeat (first | apply Kd.R_alloc | apply Kd.R_drewN | apply Kd.R_drew)); exact HO_19.out) (Kd.R_base ho229) hb); have n3_ := Aside0.mk (Kd.R_lower (Kd.R_new' (Kd.R_new' (Kd.R_new' ho229 (Kd.R_lt (by (with_reducible repeat (first | apply Kd.R_alloc | apply Kd.R_drewN | apply Kd.R_drew)); exact HO_15.out))) (Kd.R_lt (by (with_reducible repeat (first | apply Kd.R_alloc | apply Kd.R_drewN | apply Kd.R_drew)); exact HO_17.out))) (Kd.R_lt (by (with_reducible repeat (first | apply Kd.R_alloc | apply Kd.R_drewN | apply Kd.R_drew)); exact HO_19.out))) (below_size (by repeat (first | (with_reducible first | exact HB.out | apply below_alloc | apply pw_below_drewN | apply below_drew1 | refine below_set ?_ GE290.out | refine below_set ?_ GE291.out | refine below_set ?_ GE295.out | refine below_set ?_ GE299.out | refine below_set ?_ GE303.out | refine below_set ?_ GE307.out) | exact HB.out)))); have n4_ := Aside0.mk (blk_below (blkd BK290) hb); have n5_ := Aside0.mk (blk_below (blkd BK291) hb); have n6_ := Aside0.mk (blk_below (blkd BK295) hb); have n7_ := Aside0.mk (blk_below (blkd BK299) hb); have n8_ := Aside0.mk (blk_below (blkd BK303) hb); have n9_ := Aside0.mk (blk_below (blkd BK307) hb); have n10_ := Aside0.mk (below_step (by repeat (first | (with_reducible first | exact HB.out | apply below_alloc | apply pw_below_drewN | apply below_drew1 | refine below_set ?_ GE290.out | refine below_set ?_ GE291.out | refine below_set ?_ GE295.out | refine below_set ?_ GE299.out | refine below_set ?_ GE303.out | refine below_set ?_ GE307.out) | exact HB.out)) hb); clear HO_15; clear HO_17; clear HO_19; clear BK290; clear BK291; clear BK295; clear BK299; clear BK303; clear BK307; clear HB; have HO_15 := n0_; have HO_17 := n1_; have HO_19 := n2_; have HO328 := n3_; have BK290 := n4_; have BK291 := n5_; have BK295 := n6_; have BK299 := n7_; have BK303 := n8_; have BK307 := n9_; have HB := n10_; clear n0_ n1_ n2_ n3_ n4_ n5_ n6_ n7_ n8_ n9_ n10_; clear hb ho229; obtain ⟨Ao231, co231, eo231⟩ := Kd.R_slice HO_17.out; subst eo231) | ((with_reducible refine gate_builtin (b := .append) (xs := #[.tmp 159, .tmp 160]) rfl ?_); at_builtin; refine Kd.R_append_rows (Kd.int .i64) (w0 := w) w.heap.size rfl (.tmp 159) (.tmp 160) 51 3 (.int .i64 0) 8 rfl Try.underlying51 info3 rfl (by decide) (by omega) v327 y326 t312 _ _ _ (fun k_ => some k_ ≠ (.slice Ao213 t308.length co213 : Value).ownBlock ∧ some k_ ≠ (.slice Ao231 t312.length co231 : Value).ownBlock ∧ some k_ ≠ (v317 : Value).ownBlock) (fun _ => False) rfl rfl ?aO ?aR (fun _ _ h => h) (fun _ h => h.elim) ?aF ?aB ?aS ?aL ?_; (case aR => repeat (first | exact (Kd.R_reads' HO_17.out).2.2 | (with_reducible refine Kd.C_alloc ?_ _) | (with_reducible refine Kd.C_drewN ?_ _) | (with_reducible refine Kd.C_drew ?_))); (case aB => exact (by repeat (first | (with_reducible first | exact HB.out | apply below_alloc | apply pw_below_drewN | apply below_drew1 | refine below_set ?_ GE290.out | refine below_set ?_ GE291.out | refine below_set ?_ GE295.out | refine below_set ?_ GE299.out | refine below_set ?_ GE303.out | refine below_set ?_ GE307.out) | exact HB.out))); (case aF => exact (fun k_ hk => ⟨Kd.fresh' (Kd.R_lt (by (with_reducible repeat (first | apply Kd.R_alloc | apply Kd.R_drewN | apply Kd.R_drew)); exact HO_15.out)) k_ hk, Kd.fresh' (Kd.R_lt (by (with_reducible repeat (first | apply Kd.R_alloc | apply Kd.R_drewN | apply Kd.R_drew)); exact HO_17.out)) k_ hk, Kd.fresh' (Kd.R_lt (by (with_reducible repeat (first | apply Kd.R_alloc | apply Kd.R_drewN | apply Kd.R_drew)); exact HO_19.out)) k_ hk⟩)); (case aO => exact (by (with_reducible repeat (first | apply Kd.R_alloc | apply Kd.R_drewN | apply Kd.R_drew)); exact Kd.R_mono HO328.out (fun _ hk => ⟨hk.1.1.2, ⟨hk.1.2, hk.2⟩⟩))); (case aS => exact (below_size (by repeat (first | (with_reducible first | exact HB.out | apply below_alloc | apply pw_below_drewN | apply below_drew1 | refine below_set ?_ GE290.out | refine below_set ?_ GE291.out | refine below_set ?_ GE295.out | refine below_set ?_ GE299.out | refine below_set ?_ GE303.out | refine below_set ?_ GE307.out) | exact HB.out)))); (case aL => have := LMc226.out; omega); intro v330 w230 ho hb hg hat; rw [← Ny329.out] at ho; have n0_ := Aside0.mk (Kd.R_after (ok := (fun k_ => some k_ ≠ (.slice Ao231 t312.length co231 : Value).ownBlock ∧ some k_ ≠ (v317 : Value).ownBlock)) (by (with_reducible repeat (first | apply Kd.R_alloc | apply Kd.R_drewN | apply Kd.R_drew)); exact HO_15.out) hg hat); have n1_ := Aside0.mk (Kd.R_after (ok := (fun k_ => some k_ ≠ (.slice Ao213 t308.length co213 : Value).ownBlock ∧ some k_ ≠ (v317 : Value).ownBlock)) (by (with_reducible repeat (first | apply Kd.R_alloc | apply Kd.R_drewN | apply Kd.R_drew)); exact HO_17.out) hg hat); have n2_ := Aside0.mk (Kd.R_after (ok := (fun k_ => some k_ ≠ (.slice Ao213 t308.length co213 : Value).ownBlock ∧ some k_ ≠ (.slice Ao231 t312.length co231 : Value).ownBlock)) (by (with_reducible repeat (first | apply Kd.R_alloc | apply Kd.R_drewN | apply Kd.R_drew)); exact HO_19.out) hg hat); have n3_ := Aside0.mk (blk_grown (blkd BK290) hg (Kd.R_ne HO328.out BK290.out (by decide))); have n4_ := Aside0.mk (blk_grown (blkd BK291) hg (Kd.R_ne HO328.out BK291.out (by decide))); have n5_ := Aside0.mk (blk_grown (blkd BK295) hg (Kd.R_ne HO328.out BK295.out (by decide))); have n6_ := Aside0.mk (blk_grown (blkd BK299) hg (Kd.R_ne HO328.out BK299.out (by decide))); have n7_ := Aside0.mk (blk_grown (blkd BK303) hg (Kd.R_ne HO328.out BK303.out (by decide))); have n8_ := Aside0.mk (blk_grown (blkd BK307) hg (Kd.R_ne HO328.out BK307.out (by decide))); have n9_ := Aside0.mk (hb); have n10_ := Aside0.mk (ho); clear HO_15; clear HO_17; clear HO_19; clear BK290; clear BK291; clear BK295; clear BK299; clear BK303; clear BK307; clear HB; clear HO328; have HO_15 := n0_; have HO_17 := n1_; have HO_19 := n2_; have BK290 := n3_; have BK291 := n4_; have BK295 := n5_; have BK299 := n6_; have BK303 := n7_; have BK307 := n8_; have HB := n9_; have HO331 := n10_; clear n0_ n1_ n2_ n3_ n4_ n5_ n6_ n7_ n8_ n9_ n10_; clear ho hb hg hat; obtain ⟨Ao233, co233, eo233⟩ := Kd.R_slice HO_19.out; subst eo233) | ((with_reducible refine gate_builtin (b := .append) (xs := #[.tmp 161, .tmp 162]) rfl ?_); at_builtin; refine Kd.R_append_rows (Kd.int .i64) (w0 := w) w.heap.size rfl (.tmp 161) (.tmp 162) 51 3 (.int .i64 0) 8 rfl Try.underlying51 info3 rfl (by decide) (by omega) v330 y329 t316 _ _ _ (fun k_ => some k_ ≠ (.slice Ao213 t308.length co213 : Value).ownBlock ∧ some k_ ≠ (.slice Ao231 t312.length co231 : Value).ownBlock ∧ some k_ ≠ (.slice Ao233 t316.length co233 : Value).ownBlock) (fun _ => False) rfl rfl ?aO ?aR (fun _ _ h => h) (fun _ h => h.elim) ?aF ?aB ?aS ?aL ?_; (case aR => repeat (first | exact (Kd.R_reads' HO_19.out).2.2 | (with_reducible refine Kd.C_alloc ?_ _) | (with_reducible refine Kd.C_drewN ?_ _) | (with_reducible refine Kd.C_drew ?_))); (case aB => exact (by repeat (first | (with_reducible first | exact HB.out | apply below_alloc | apply pw_below_drewN | apply below_drew1 | refine below_set ?_ GE290.out | refine below_set ?_ GE291.out | refine below_set ?_ GE295.out | refine below_set ?_ GE299.out | refine below_set ?_ GE303.out | refine below_set ?_ GE307.out) | exact HB.out))); (case aF => exact (fun k_ hk => ⟨Kd.fresh' (Kd.R_lt (by (with_reducible repeat (first | apply Kd.R_alloc | apply Kd.R_drewN | apply Kd.R_drew)); exact HO_15.out)) k_ hk, Kd.fresh' (Kd.R_lt (by (with_reducible repeat (first | apply Kd.R_alloc | apply Kd.R_drewN | apply Kd.R_drew)); exact HO_17.out)) k_ hk, Kd.fresh' (Kd.R_lt (by (with_reducible repeat (first | apply Kd.R_alloc | apply Kd.R_drewN | apply Kd.R_drew)); exact HO_19.out)) k_ hk⟩)); (case aO => exact (by (with_reducible repeat (first | apply Kd.R_alloc | apply Kd.R_drewN | apply Kd.R_drew)); exact HO331.out)); (case aS => exact (below_size (by repeat (first | (with_reducible first | exact HB.out | apply below_alloc | apply pw_below_drewN | apply below_drew1 | refine below_set ?_ GE290.out | refine below_set ?_ GE291.out | refine below_set ?_ GE295.out | refine below_set ?_ GE299.out | refine below_set ?_ GE303.out | refine below_set ?_ GE307.out) | exact HB.out)))); (case aL => have := LMc227.out; omega); intro v333 w232 ho hb hg hat; rw [← Ny332.out] at ho; have n0_ := Aside0.mk (Kd.R_after (ok := (fun k_ => some k_ ≠ (.slice Ao231 t312.length co231 : Value).ownBlock ∧ some k_ ≠ (.slice Ao233 t316.length co233 : Value).ownBlock)) (by (with_reducible repeat (first | apply Kd.R_alloc | apply Kd.R_drewN | apply Kd.R_drew)); exact HO_15.out) hg hat); have n1_ := Aside0.mk (Kd.R_after (ok := (fun k_ => some k_ ≠ (.slice Ao213 t308.length co213 : Value).ownBlock ∧ some k_ ≠ (.slice Ao233 t316.length co233 : Value).ownBlock)) (by (with_reducible repeat (first | apply Kd.R_alloc | apply Kd.R_drewN | apply Kd.R_drew)); exact HO_17.out) hg hat); have n2_ := Aside0.mk (Kd.R_after (ok := (fun k_ => some k_ ≠ (.slice Ao213 t308.length co213 : Value).ownBlock ∧ some k_ ≠ (.slice Ao231 t312.length co231 : Value).ownBlock)) (by (with_reducible repeat (first | apply Kd.R_alloc | apply Kd.R_drewN | apply Kd.R_drew)); exact HO_19.out) hg hat); have n3_ := Aside0.mk (blk_grown (blkd BK290) hg (Kd.R_ne HO331.out BK290.out (by decide))); have n4_ := Aside0.mk (blk_grown (blkd BK291) hg (Kd.R_ne HO331.out BK291.out (by decide))); have n5_ := Aside0.mk (blk_grown (blkd BK295) hg (Kd.R_ne HO331.out BK295.out (by decide))); have n6_ := Aside0.mk (blk_grown (blkd BK299) hg (Kd.R_ne HO331.out BK299.out (by decide))); have n7_ := Aside0.mk (blk_grown (blkd BK303) hg (Kd.R_ne HO331.out BK303.out (by decide))); have n8_ := Aside0.mk (blk_grown (blkd BK307) hg (Kd.R_ne HO331.out BK307.out (by decide))); have n9_ := Aside0.mk (hb); have n10_ := Aside0.mk (ho); clear HO_15; clear HO_17; clear HO_19; clear BK290; clear BK291; clear BK295; clear BK299; clear BK303; clear BK307; clear HB; clear HO331; have HO_15 := n0_; have HO_17 := n1_; have HO_19 := n2_; have BK290 := n3_; have BK291 := n4_; have BK295 := n5_; have BK299 := n6_; have BK303 := n7_; have BK307 := n8_; have HB := n9_; have HO334 := n10_; clear n0_ n1_ n2_ n3_ n4_ n5_ n6_ n7_ n8_ n9_ n10_; clear ho hb hg hat; obtain ⟨Ao234, co234, eo234⟩ := Kd.R_slice HO334.out; subst eo234))
               go_loopg [165] k3 (fun kq v165 w' => ∃ (x165_4 : Int), v165 = .int .i64 x165_4 ∧ Aside0 (laws_FnJoined.l1 kq l1 t308 t320 y332 (y332.length : Int) x165_4 = some r) ∧ Aside0 (kq ≤ k3) ∧ Aside0 (Kd.R (Kd.int .i64) 3 w' w.heap.size (fun k_ => some k_ ≠ ((.slice Ao234 y332.length co234) : Value).ownBlock) (.slice Ao213 t308.length co213) t308) ∧ Aside0 (Kd.R (Kd.int .i64) 3 w' w.heap.size (fun k_ => some k_ ≠ ((.slice Ao213 t308.length co213) : Value).ownBlock) (.slice Ao234 y332.length co234) y332) ∧ Aside0 (w'.heap[gb290]? = some (.cells #[.int .i64 t286, .int .i64 t287] 80 (0, 0))) ∧ Aside0 (w'.heap[gb291]? = some (.cells #[.int .i64 t288, .int .i64 t289] 80 (0, 0))) ∧ Aside0 (w'.heap[gb295]? = some (.cells #[.int .i64 t292, .int .i64 t293] 80 (0, 0))) ∧ Aside0 (w'.heap[gb299]? = some (.cells #[.int .i64 t296, .int .i64 t297] 80 (0, 0))) ∧ Aside0 (w'.heap[gb303]? = some (.cells #[.int .i64 t300, .int .i64 t301] 80 (0, 0))) ∧ Aside0 (w'.heap[gb307]? = some (.cells #[.int .i64 t304, .int .i64 t305] 80 (0, 0))) ∧ Aside0 (Below w.heap.size w w'))
               case atStart => exact ⟨(0), (by first | rfl | (simp; done) | (simp [*]; done)), H', ⟨Nat.le_refl _⟩, ⟨by (with_reducible repeat (first | apply Kd.R_alloc | apply Kd.R_drewN | apply Kd.R_drew)); exact Kd.R_mono HO_15.out (fun _ hk => hk.2)⟩, ⟨by (with_reducible repeat (first | apply Kd.R_alloc | apply Kd.R_drewN | apply Kd.R_drew)); exact Kd.R_mono HO334.out (fun _ hk => hk.1)⟩, ⟨by (with_reducible repeat (first | refine blk_drewN ?_ _ | refine blk_drew ?_ | refine blk_alloc ?_ _)); exact BK290.out⟩, ⟨by (with_reducible repeat (first | refine blk_drewN ?_ _ | refine blk_drew ?_ | refine blk_alloc ?_ _)); exact BK291.out⟩, ⟨by (with_reducible repeat (first | refine blk_drewN ?_ _ | refine blk_drew ?_ | refine blk_alloc ?_ _)); exact BK295.out⟩, ⟨by (with_reducible repeat (first | refine blk_drewN ?_ _ | refine blk_drew ?_ | refine blk_alloc ?_ _)); exact BK299.out⟩, ⟨by (with_reducible repeat (first | refine blk_drewN ?_ _ | refine blk_drew ?_ | refine blk_alloc ?_ _)); exact BK303.out⟩, ⟨by (with_reducible repeat (first | refine blk_drewN ?_ _ | refine blk_drew ?_ | refine blk_alloc ?_ _)); exact BK307.out⟩, ⟨by repeat (first | (with_reducible first | exact HB.out | apply below_alloc | apply pw_below_drewN | apply below_drew1 | refine below_set ?_ GE290.out | refine below_set ?_ GE291.out | refine below_set ?_ GE295.out | refine below_set ?_ GE299.out | refine below_set ?_ GE303.out | refine below_set ?_ GE307.out) | exact HB.out)⟩⟩
               case round => as_aux_lemma =>
                clear H'
                try clear c1
                try clear c2
                try clear p2
                try clear c3
                try clear c3b0
                try clear p3
                try clear q3
                try clear hx3
                try clear c4
                try clear c5
                try clear c6
                try clear p6
                try clear c7
                try clear c8
                try clear c9
                try clear c10
                try clear c11
                try clear c12
                try clear c13
                try clear c14
                try clear c15
                try clear c16
                try clear c17
                try clear c18
                try clear c19
                try clear c20
                try clear c21
                try clear c22
                try clear c23
                try clear c24
                try clear c25
                try clear c27
                try clear c27b0
                try clear c27b1
                try clear c27b2
                try clear c28
                try clear c29
                try clear c30
                try clear c32
                try clear p32
                try clear q32
                try clear hx32
                try clear c33
                try clear c35
                try clear c37
                try clear c45
                try clear c46
                try clear c47
                try clear c49
                try clear c50
                try clear c54
                try clear c55
                try clear c56
                try clear c57
                try clear c58
                try clear c59
                try clear c60
                try clear c61
                try clear c62
                try clear c64
                try clear p64
                try clear c65
                try clear c66
                try clear c67
                try clear c68
                try clear c79
                try clear c80
                try clear c81
                try clear c81b0
                try clear c82
                try clear c83
                try clear c84
                try clear c85
                try clear c86
                try clear c89
                try clear c90
                try clear c91
                try clear c92
                try clear c95
                try clear c96
                try clear c96b0
                try clear c97
                try clear c98
                try clear c99
                try clear c100
                try clear c101
                try clear c104
                try clear c105
                try clear c106
                try clear c107
                try clear c110
                try clear c111
                try clear c112
                try clear c114
                try clear c115
                try clear c116
                try clear c117
                try clear c118
                try clear c119
                try clear c120
                try clear c121
                try clear c124
                try clear c125
                try clear c126
                try clear c127
                try clear c130
                try clear c131
                try clear c132
                try clear c134
                try clear c135
                try clear c136
                try clear c137
                try clear c138
                try clear c141
                try clear c142
                try clear c143
                try clear c144
                try clear c147
                try clear c148
                try clear c149
                try clear c151
                try clear c152
                try clear c153
                try clear c154
                try clear c155
                try clear c158
                try clear c159
                try clear c160
                try clear c161
                try clear c164
                try clear c165
                try clear c166
                try clear c168
                try clear c169
                try clear c170
                try clear c171
                try clear c172
                try clear c175
                try clear c176
                try clear c177
                try clear c178
                try clear c181
                try clear c182
                try clear c183
                try clear c185
                try clear c186
                try clear c187
                try clear c188
                try clear c189
                try clear c192
                try clear c193
                try clear c194
                try clear c195
                try clear c198
                try clear c199
                try clear c200
                try clear c201
                try clear c202
                try clear c205
                try clear c206
                try clear c207
                try clear c208
                try clear c209
                try clear c212
                try clear c214
                try clear c214b0
                try clear c215
                try clear c215b0
                try clear c216
                try clear c216b0
                try clear c218
                try clear c219
                try clear c219b0
                try clear c222
                try clear c223
                try clear c223b0
                try clear c226
                try clear c227
                try clear hcz102_0
                try clear hcz102_1
                try clear hcz108_0
                try clear hcz108_1
                try clear hcz109_0
                try clear hcz109_1
                try clear hcz113_0
                try clear hcz113_1
                try clear hcz122_0
                try clear hcz122_1
                try clear hcz128_0
                try clear hcz128_1
                try clear hcz129_0
                try clear hcz129_1
                try clear hcz12_0
                try clear hcz12_1
                try clear hcz133_0
                try clear hcz133_1
                try clear hcz139_0
                try clear hcz139_1
                try clear hcz13_0
                try clear hcz13_1
                try clear hcz145_0
                try clear hcz145_1
                try clear hcz146_0
                try clear hcz146_1
                try clear hcz150_0
                try clear hcz150_1
                try clear hcz156_0
                try clear hcz156_1
                try clear hcz162_0
                try clear hcz162_1
                try clear hcz163_0
                try clear hcz163_1
                try clear hcz167_0
                try clear hcz167_1
                try clear hcz173_0
                try clear hcz173_1
                try clear hcz179_0
                try clear hcz179_1
                try clear hcz180_0
                try clear hcz180_1
                try clear hcz184_0
                try clear hcz184_1
                try clear hcz18_0
                try clear hcz18_1
                try clear hcz190_0
                try clear hcz190_1
                try clear hcz196_0
                try clear hcz196_1
                try clear hcz197_0
                try clear hcz197_1
                try clear hcz19_0
                try clear hcz19_1
                try clear hcz203_0
                try clear hcz203_1
                try clear hcz20_0
                try clear hcz20_1
                try clear hcz210_0
                try clear hcz210_1
                try clear hcz26_0
                try clear hcz26_1
                try clear hcz31_0
                try clear hcz31_1
                try clear hcz34_0
                try clear hcz34_1
                try clear hcz48_0
                try clear hcz48_1
                try clear hcz51_0
                try clear hcz51_1
                try clear hcz58_0
                try clear hcz58_1
                try clear hcz60_0
                try clear hcz60_1
                try clear hcz61_0
                try clear hcz61_1
                try clear hcz69_0
                try clear hcz69_1
                try clear hcz70_0
                try clear hcz70_1
                try clear hcz72_0
                try clear hcz72_1
                try clear hcz74_0
                try clear hcz74_1
                try clear hcz76_0
                try clear hcz76_1
                try clear hcz87_0
                try clear hcz87_1
                try clear hcz93_0
                try clear hcz93_1
                try clear hcz94_0
                try clear hcz94_1
                try clear hfz102_0
                try clear hfz102_1
                try clear hfz108_0
                try clear hfz108_1
                try clear hfz109_0
                try clear hfz109_1
                try clear hfz113_0
                try clear hfz113_1
                try clear hfz122_0
                try clear hfz122_1
                try clear hfz128_0
                try clear hfz128_1
                try clear hfz129_0
                try clear hfz129_1
                try clear hfz12_0
                try clear hfz12_1
                try clear hfz133_0
                try clear hfz133_1
                try clear hfz139_0
                try clear hfz139_1
                try clear hfz13_0
                try clear hfz13_1
                try clear hfz145_0
                try clear hfz145_1
                try clear hfz146_0
                try clear hfz146_1
                try clear hfz150_0
                try clear hfz150_1
                try clear hfz156_0
                try clear hfz156_1
                try clear hfz162_0
                try clear hfz162_1
                try clear hfz163_0
                try clear hfz163_1
                try clear hfz167_0
                try clear hfz167_1
                try clear hfz173_0
                try clear hfz173_1
                try clear hfz179_0
                try clear hfz179_1
                try clear hfz180_0
                try clear hfz180_1
                try clear hfz184_0
                try clear hfz184_1
                try clear hfz18_0
                try clear hfz18_1
                try clear hfz190_0
                try clear hfz190_1
                try clear hfz196_0
                try clear hfz196_1
                try clear hfz197_0
                try clear hfz197_1
                try clear hfz19_0
                try clear hfz19_1
                try clear hfz203_0
                try clear hfz203_1
                try clear hfz20_0
                try clear hfz20_1
                try clear hfz210_0
                try clear hfz210_1
                try clear hfz26_0
                try clear hfz26_1
                try clear hfz31_0
                try clear hfz31_1
                try clear hfz34_0
                try clear hfz34_1
                try clear hfz48_0
                try clear hfz48_1
                try clear hfz51_0
                try clear hfz51_1
                try clear hfz58_0
                try clear hfz58_1
                try clear hfz60_0
                try clear hfz60_1
                try clear hfz61_0
                try clear hfz61_1
                try clear hfz69_0
                try clear hfz69_1
                try clear hfz70_0
                try clear hfz70_1
                try clear hfz72_0
                try clear hfz72_1
                try clear hfz74_0
                try clear hfz74_1
                try clear hfz76_0
                try clear hfz76_1
                try clear hfz87_0
                try clear hfz87_1
                try clear hfz93_0
                try clear hfz93_1
                try clear hfz94_0
                try clear hfz94_1
                try clear hx323_0
                try clear p2
                try clear p323
                try clear p6
                try clear p64
                try clear q323
                obtain ⟨x165_4, rfl, HA, HK4, HO_15, HO_163, BK290, BK291, BK295, BK299, BK303, BK307, HB⟩ := hrel
                cases gk with
                | zero => exact absurd HA.out (by simp [laws_FnJoined.l1])
                | succ k4 =>
                 have H := HA.out
                 clear HA
                 simp only [laws_FnJoined.l1] at H
                 by_cases c235 : x165_4 < (y332.length : Int)
                 ·rw [if_pos c235] at H
                  have c235b0 : decide (x165_4 < (y332.length : Int)) = true := decide_eq_true c235
                  clear c235
                  by_cases c236 : 0 ≤ x165_4
                  ·rw [if_pos c236] at H
                   have c236b0 : decide (0 ≤ x165_4) = true := decide_eq_true c236
                   clear c236
                   by_cases c237 : x165_4 < (y332.length : Int)
                   ·rw [if_pos c237] at H
                    have c237b0 : decide (x165_4 < (y332.length : Int)) = true := decide_eq_true c237
                    clear c237
                    by_cases c238 : (rd y332 x165_4) ≥ t320
                    ·rw [if_pos c238] at H
                     have c238b0 : decide (t320 ≤ (rd y332 x165_4)) = true := decide_eq_true c238
                     clear c238
                     replace H := Option.bind_eq_some_iff.mp H
                     obtain ⟨t336, A2390, H⟩ := H
                     replace H : (if t336 = true then (laws_FnJoined.l1 k4 l1 t308 t320 y332 (y332.length : Int) (wrap64 (x165_4 + 1))) else (some false)) = some r := H
                     have A239 := Aside0.mk A2390
                     clear A2390
                     by_cases c240 : t336 = true
                     ·subst c240
                      have H1 : (laws_FnJoined.l1 k4 l1 t308 t320 y332 (y332.length : Int) (wrap64 (x165_4 + 1))) = some r := by rw [if_pos rfl] at H; exact H
                      clear H
                      have H := H1
                      clear H1
                      have H' := Aside0.mk H
                      clear H
                      have p335 : 0 ≤ (x165_4 : Int) := of_decide_eq_true (by first | (with_reducible assumption) | assumption)
                      have q335 : x165_4 < (y332.length : Int) := of_decide_eq_true (by first | (with_reducible assumption) | assumption)
                      obtain ⟨ad335, e335, hx335_0⟩ := Kd.at_int (Kd.R_reads' HO_163.out).2.2 x165_4 p335 q335
                      cases e335
                      replace p335 := eq_true p335
                      replace q335 := eq_true q335
                      go_wp2_with (first | (go_at_call 62; (with_reducible refine (laws_has.calls k4 _ _ t308 (rd y332 x165_4) true _ ?side1 ?side2 A239.out).mono ?_); (case side1 => repeat (first | exact (Kd.R_reads' HO_15.out).2.2 | (with_reducible refine Kd.C_alloc ?_ _) | (with_reducible refine Kd.C_drewN ?_ _) | (with_reducible refine Kd.C_drew ?_))); (case side2 => exact (Kd.R_reads' HO_15.out).2.1); rintro e w' ⟨rfl, ⟨nd, rfl⟩⟩))
                      go_roundg k4
                      case measure => have := HJ6.out; have := HJ43.out; have := HK3.out; have := HK4.out; omega
                      case rel => exact ⟨(wrap64 (x165_4 + 1)), (by first | rfl | (simp; done) | (simp [*]; done)), H', ⟨by have := HJ6.out; have := HJ43.out; have := HK3.out; have := HK4.out; omega⟩, ⟨by (with_reducible repeat (first | apply Kd.R_alloc | apply Kd.R_drewN | apply Kd.R_drew)); exact HO_15.out⟩, ⟨by (with_reducible repeat (first | apply Kd.R_alloc | apply Kd.R_drewN | apply Kd.R_drew)); exact HO_163.out⟩, ⟨by (with_reducible repeat (first | refine blk_drewN ?_ _ | refine blk_drew ?_ | refine blk_alloc ?_ _)); exact BK290.out⟩, ⟨by (with_reducible repeat (first | refine blk_drewN ?_ _ | refine blk_drew ?_ | refine blk_alloc ?_ _)); exact BK291.out⟩, ⟨by (with_reducible repeat (first | refine blk_drewN ?_ _ | refine blk_drew ?_ | refine blk_alloc ?_ _)); exact BK295.out⟩, ⟨by (with_reducible repeat (first | refine blk_drewN ?_ _ | refine blk_drew ?_ | refine blk_alloc ?_ _)); exact BK299.out⟩, ⟨by (with_reducible repeat (first | refine blk_drewN ?_ _ | refine blk_drew ?_ | refine blk_alloc ?_ _)); exact BK303.out⟩, ⟨by (with_reducible repeat (first | refine blk_drewN ?_ _ | refine blk_drew ?_ | refine blk_alloc ?_ _)); exact BK307.out⟩, ⟨by repeat (first | (with_reducible first | exact HB.out | apply below_alloc | apply pw_below_drewN | apply below_drew1 | refine below_set ?_ GE290.out | refine below_set ?_ GE291.out | refine below_set ?_ GE295.out | refine below_set ?_ GE299.out | refine below_set ?_ GE303.out | refine below_set ?_ GE307.out) | exact HB.out)⟩⟩
                     ·replace c240 := Bool.eq_false_iff.mpr c240
                      subst c240
                      have H1 : (some false) = some r := by rw [if_neg (show ¬ (false = true) by decide)] at H; exact H
                      clear H
                      have H := H1
                      clear H1
                      exact absurd (H.trans (congrArg some hr_)) (by simp)
                    ·rw [if_neg c238] at H
                     have c238b0 : decide (t320 ≤ (rd y332 x165_4)) = false := decide_eq_false c238
                     clear c238
                     have H' := Aside0.mk H
                     clear H
                     have p335 : 0 ≤ (x165_4 : Int) := of_decide_eq_true (by first | (with_reducible assumption) | assumption)
                     have q335 : x165_4 < (y332.length : Int) := of_decide_eq_true (by first | (with_reducible assumption) | assumption)
                     obtain ⟨ad335, e335, hx335_0⟩ := Kd.at_int (Kd.R_reads' HO_163.out).2.2 x165_4 p335 q335
                     cases e335
                     replace p335 := eq_true p335
                     replace q335 := eq_true q335
                     go_wp2
                     go_roundg k4
                     case measure => have := HJ6.out; have := HJ43.out; have := HK3.out; have := HK4.out; omega
                     case rel => exact ⟨(wrap64 (x165_4 + 1)), (by first | rfl | (simp; done) | (simp [*]; done)), H', ⟨by have := HJ6.out; have := HJ43.out; have := HK3.out; have := HK4.out; omega⟩, ⟨by (with_reducible repeat (first | apply Kd.R_alloc | apply Kd.R_drewN | apply Kd.R_drew)); exact HO_15.out⟩, ⟨by (with_reducible repeat (first | apply Kd.R_alloc | apply Kd.R_drewN | apply Kd.R_drew)); exact HO_163.out⟩, ⟨by (with_reducible repeat (first | refine blk_drewN ?_ _ | refine blk_drew ?_ | refine blk_alloc ?_ _)); exact BK290.out⟩, ⟨by (with_reducible repeat (first | refine blk_drewN ?_ _ | refine blk_drew ?_ | refine blk_alloc ?_ _)); exact BK291.out⟩, ⟨by (with_reducible repeat (first | refine blk_drewN ?_ _ | refine blk_drew ?_ | refine blk_alloc ?_ _)); exact BK295.out⟩, ⟨by (with_reducible repeat (first | refine blk_drewN ?_ _ | refine blk_drew ?_ | refine blk_alloc ?_ _)); exact BK299.out⟩, ⟨by (with_reducible repeat (first | refine blk_drewN ?_ _ | refine blk_drew ?_ | refine blk_alloc ?_ _)); exact BK303.out⟩, ⟨by (with_reducible repeat (first | refine blk_drewN ?_ _ | refine blk_drew ?_ | refine blk_alloc ?_ _)); exact BK307.out⟩, ⟨by repeat (first | (with_reducible first | exact HB.out | apply below_alloc | apply pw_below_drewN | apply below_drew1 | refine below_set ?_ GE290.out | refine below_set ?_ GE291.out | refine below_set ?_ GE295.out | refine below_set ?_ GE299.out | refine below_set ?_ GE303.out | refine below_set ?_ GE307.out) | exact HB.out)⟩⟩
                   ·rw [if_neg c237] at H
                    exact absurd H (by simp)
                  ·rw [if_neg c236] at H
                   exact absurd H (by simp)
                 ·rw [if_neg c235] at H
                  have c235b0 : decide (x165_4 < (y332.length : Int)) = false := decide_eq_false c235
                  clear c235
                  have H' := Aside0.mk H
                  clear H
                  go_wp2
                  go_meet
                  case rel => exact ⟨_, H', ⟨by have := HJ6.out; have := HJ43.out; have := HK3.out; have := HK4.out; first | omega | exact Nat.le_refl _⟩, ⟨by (with_reducible repeat (first | refine blk_drewN ?_ _ | refine blk_drew ?_ | refine blk_alloc ?_ _)); exact BK290.out⟩, ⟨by (with_reducible repeat (first | refine blk_drewN ?_ _ | refine blk_drew ?_ | refine blk_alloc ?_ _)); exact BK291.out⟩, ⟨by (with_reducible repeat (first | refine blk_drewN ?_ _ | refine blk_drew ?_ | refine blk_alloc ?_ _)); exact BK295.out⟩, ⟨by (with_reducible repeat (first | refine blk_drewN ?_ _ | refine blk_drew ?_ | refine blk_alloc ?_ _)); exact BK299.out⟩, ⟨by repeat (first | (with_reducible first | exact HB.out | apply below_alloc | apply pw_below_drewN | apply below_drew1 | refine below_set ?_ GE290.out | refine below_set ?_ GE291.out | refine below_set ?_ GE295.out | refine below_set ?_ GE299.out | refine below_set ?_ GE303.out | refine below_set ?_ GE307.out) | exact HB.out)⟩⟩
              ·rw [if_neg c227] at H
               exact absurd H (by simp)
             ·rw [if_neg c226] at H
              exact absurd H (by simp)
      ·replace c37 := Bool.eq_false_iff.mpr c37
       subst c37
       have H1 : (laws_FnJoined.j4 kj6 l1) = some r := by rw [if_neg (show ¬ (false = true) by decide)] at H; exact H
       clear H
       have H := H1
       clear H1
       have H' := Aside0.mk H
       clear H
       go_wp2
       go_meet
       case rel => exact ⟨_, H', ⟨by have := HJ6.out; first | omega | exact Nat.le_refl _⟩, ⟨by (with_reducible repeat (first | refine blk_drewN ?_ _ | refine blk_drew ?_ | refine blk_alloc ?_ _)); exact BK290.out⟩, ⟨by (with_reducible repeat (first | refine blk_drewN ?_ _ | refine blk_drew ?_ | refine blk_alloc ?_ _)); exact BK291.out⟩, ⟨by (with_reducible repeat (first | refine blk_drewN ?_ _ | refine blk_drew ?_ | refine blk_alloc ?_ _)); exact BK295.out⟩, ⟨by (with_reducible repeat (first | refine blk_drewN ?_ _ | refine blk_drew ?_ | refine blk_alloc ?_ _)); exact BK299.out⟩, ⟨by repeat (first | (with_reducible first | exact HB.out | apply below_alloc | apply pw_below_drewN | apply below_drew1 | refine below_set ?_ GE290.out | refine below_set ?_ GE291.out | refine below_set ?_ GE295.out | refine below_set ?_ GE299.out) | exact HB.out)⟩⟩
     case rest => as_aux_lemma =>
      clear HC36
      try clear c1
      try clear c2
      try clear p2
      try clear c3
      try clear c3b0
      try clear p3
      try clear q3
      try clear hx3
      try clear c4
      try clear c5
      try clear c6
      try clear p6
      try clear c7
      try clear c8
      try clear c9
      try clear c10
      try clear c11
      try clear c12
      try clear c13
      try clear c14
      try clear c15
      try clear c16
      try clear c17
      try clear c18
      try clear c19
      try clear c20
      try clear c21
      try clear c22
      try clear c23
      try clear c24
      try clear c25
      try clear c27
      try clear c27b0
      try clear c27b1
      try clear c27b2
      try clear c28
      try clear c29
      try clear c30
      try clear c32
      try clear p32
      try clear q32
      try clear hx32
      try clear c33
      try clear p33
      try clear q33
      try clear hx33
      try clear c35
      try clear c37
      try clear c45
      try clear c46
      try clear c47
      try clear c49
      try clear c50
      try clear c54
      try clear c55
      try clear c56
      try clear c57
      try clear c58
      try clear c59
      try clear c60
      try clear c61
      try clear c62
      try clear c64
      try clear p64
      try clear c65
      try clear c66
      try clear c67
      try clear c68
      try clear c79
      try clear c80
      try clear c81
      try clear c81b0
      try clear c82
      try clear c83
      try clear c84
      try clear c85
      try clear c86
      try clear c89
      try clear c90
      try clear c91
      try clear c92
      try clear c95
      try clear c96
      try clear c96b0
      try clear c97
      try clear c98
      try clear c99
      try clear c100
      try clear c101
      try clear c104
      try clear c105
      try clear c106
      try clear c107
      try clear c110
      try clear c111
      try clear c112
      try clear c114
      try clear c115
      try clear c116
      try clear c117
      try clear c118
      try clear c119
      try clear c120
      try clear c121
      try clear c124
      try clear c125
      try clear c126
      try clear c127
      try clear c130
      try clear c131
      try clear c132
      try clear c134
      try clear c135
      try clear c136
      try clear c137
      try clear c138
      try clear c141
      try clear c142
      try clear c143
      try clear c144
      try clear c147
      try clear c148
      try clear c149
      try clear c151
      try clear c152
      try clear c153
      try clear c154
      try clear c155
      try clear c158
      try clear c159
      try clear c160
      try clear c161
      try clear c164
      try clear c165
      try clear c166
      try clear c168
      try clear c169
      try clear c170
      try clear c171
      try clear c172
      try clear c175
      try clear c176
      try clear c177
      try clear c178
      try clear c181
      try clear c182
      try clear c183
      try clear c185
      try clear c186
      try clear c187
      try clear c188
      try clear c189
      try clear c192
      try clear c193
      try clear c194
      try clear c195
      try clear c198
      try clear c199
      try clear c200
      try clear c201
      try clear c202
      try clear c205
      try clear c206
      try clear c207
      try clear c208
      try clear c209
      try clear c212
      try clear c214
      try clear c214b0
      try clear c215
      try clear c215b0
      try clear c216
      try clear c216b0
      try clear c218
      try clear c219
      try clear c219b0
      try clear c222
      try clear c223
      try clear c223b0
      try clear c226
      try clear c227
      try clear c235
      try clear c235b0
      try clear c236
      try clear c236b0
      try clear c237
      try clear c237b0
      try clear c238
      try clear c238b0
      try clear c240
      try clear hcz102_0
      try clear hcz102_1
      try clear hcz108_0
      try clear hcz108_1
      try clear hcz109_0
      try clear hcz109_1
      try clear hcz113_0
      try clear hcz113_1
      try clear hcz122_0
      try clear hcz122_1
      try clear hcz128_0
      try clear hcz128_1
      try clear hcz129_0
      try clear hcz129_1
      try clear hcz12_0
      try clear hcz12_1
      try clear hcz133_0
      try clear hcz133_1
      try clear hcz139_0
      try clear hcz139_1
      try clear hcz13_0
      try clear hcz13_1
      try clear hcz145_0
      try clear hcz145_1
      try clear hcz146_0
      try clear hcz146_1
      try clear hcz150_0
      try clear hcz150_1
      try clear hcz156_0
      try clear hcz156_1
      try clear hcz162_0
      try clear hcz162_1
      try clear hcz163_0
      try clear hcz163_1
      try clear hcz167_0
      try clear hcz167_1
      try clear hcz173_0
      try clear hcz173_1
      try clear hcz179_0
      try clear hcz179_1
      try clear hcz180_0
      try clear hcz180_1
      try clear hcz184_0
      try clear hcz184_1
      try clear hcz18_0
      try clear hcz18_1
      try clear hcz190_0
      try clear hcz190_1
      try clear hcz196_0
      try clear hcz196_1
      try clear hcz197_0
      try clear hcz197_1
      try clear hcz19_0
      try clear hcz19_1
      try clear hcz203_0
      try clear hcz203_1
      try clear hcz20_0
      try clear hcz20_1
      try clear hcz210_0
      try clear hcz210_1
      try clear hcz26_0
      try clear hcz26_1
      try clear hcz31_0
      try clear hcz31_1
      try clear hcz34_0
      try clear hcz34_1
      try clear hcz48_0
      try clear hcz48_1
      try clear hcz51_0
      try clear hcz51_1
      try clear hcz58_0
      try clear hcz58_1
      try clear hcz60_0
      try clear hcz60_1
      try clear hcz61_0
      try clear hcz61_1
      try clear hcz69_0
      try clear hcz69_1
      try clear hcz70_0
      try clear hcz70_1
      try clear hcz72_0
      try clear hcz72_1
      try clear hcz74_0
      try clear hcz74_1
      try clear hcz76_0
      try clear hcz76_1
      try clear hcz87_0
      try clear hcz87_1
      try clear hcz93_0
      try clear hcz93_1
      try clear hcz94_0
      try clear hcz94_1
      try clear hfz102_0
      try clear hfz102_1
      try clear hfz108_0
      try clear hfz108_1
      try clear hfz109_0
      try clear hfz109_1
      try clear hfz113_0
      try clear hfz113_1
      try clear hfz122_0
      try clear hfz122_1
      try clear hfz128_0
      try clear hfz128_1
      try clear hfz129_0
      try clear hfz129_1
      try clear hfz12_0
      try clear hfz12_1
      try clear hfz133_0
      try clear hfz133_1
      try clear hfz139_0
      try clear hfz139_1
      try clear hfz13_0
      try clear hfz13_1
      try clear hfz145_0
      try clear hfz145_1
      try clear hfz146_0
      try clear hfz146_1
      try clear hfz150_0
      try clear hfz150_1
      try clear hfz156_0
      try clear hfz156_1
      try clear hfz162_0
      try clear hfz162_1
      try clear hfz163_0
      try clear hfz163_1
      try clear hfz167_0
      try clear hfz167_1
      try clear hfz173_0
      try clear hfz173_1
      try clear hfz179_0
      try clear hfz179_1
      try clear hfz180_0
      try clear hfz180_1
      try clear hfz184_0
      try clear hfz184_1
      try clear hfz18_0
      try clear hfz18_1
      try clear hfz190_0
      try clear hfz190_1
      try clear hfz196_0
      try clear hfz196_1
      try clear hfz197_0
      try clear hfz197_1
      try clear hfz19_0
      try clear hfz19_1
      try clear hfz203_0
      try clear hfz203_1
      try clear hfz20_0
      try clear hfz20_1
      try clear hfz210_0
      try clear hfz210_1
      try clear hfz26_0
      try clear hfz26_1
      try clear hfz31_0
      try clear hfz31_1
      try clear hfz34_0
      try clear hfz34_1
      try clear hfz48_0
      try clear hfz48_1
      try clear hfz51_0
      try clear hfz51_1
      try clear hfz58_0
      try clear hfz58_1
      try clear hfz60_0
      try clear hfz60_1
      try clear hfz61_0
      try clear hfz61_1
      try clear hfz69_0
      try clear hfz69_1
      try clear hfz70_0
      try clear hfz70_1
      try clear hfz72_0
      try clear hfz72_1
      try clear hfz74_0
      try clear hfz74_1
      try clear hfz76_0
      try clear hfz76_1
      try clear hfz87_0
      try clear hfz87_1
      try clear hfz93_0
      try clear hfz93_1
      try clear hfz94_0
      try clear hfz94_1
      try clear hx323_0
      try clear hx335_0
      try clear p2
      try clear p3
      try clear p32
      try clear p323
      try clear p335
      try clear p6
      try clear p64
      try clear q3
      try clear q32
      try clear q323
      try clear q335
      obtain ⟨kq, HA, HJ35, BK290, BK291, BK295, BK299, HB⟩ := hcut
      cases kq with
      | zero => exact absurd HA.out (by simp [laws_FnJoined.j4])
      | succ kj35 =>
       have H := HA.out
       clear HA
       simp only [laws_FnJoined.j4] at H
       replace H := Option.bind_eq_some_iff.mp H
       obtain ⟨⟨t337, t338⟩, A2410, H⟩ := H
       replace H : ((impl_SeenIn.f kj35 t337 t338).bind fun bt340 => ((spec_SeenIn.f kj35 t337 t338).bind fun bt344 => ((impl_LowestOf.f t337 t338).bind fun bt348 => ((spec_LowestOf.f kj35 t337 t338).bind fun bt350 => (if (bt340.2 == bt344.2) = true then ((laws_sameInts.f kj35 bt340.1 bt344.1).bind fun t352 => (if t352 = true then (if (bt348.2 == bt350.2) = true then (some (bt348.1 == bt350.1)) else (some false)) else (some false))) else (some false)))))) = some r := H
       have A241 := Aside0.mk A2410
       clear A2410
       replace H := Option.bind_eq_some_iff.mp H
       obtain ⟨⟨t340, t343⟩, A2420, H⟩ := H
       replace H : ((spec_SeenIn.f kj35 t337 t338).bind fun bt344 => ((impl_LowestOf.f t337 t338).bind fun bt348 => ((spec_LowestOf.f kj35 t337 t338).bind fun bt350 => (if (t343 == bt344.2) = true then ((laws_sameInts.f kj35 t340 bt344.1).bind fun t352 => (if t352 = true then (if (bt348.2 == bt350.2) = true then (some (bt348.1 == bt350.1)) else (some false)) else (some false))) else (some false))))) = some r := H
       have A242 := Aside0.mk A2420
       clear A2420
       replace H := Option.bind_eq_some_iff.mp H
       obtain ⟨⟨t344, t347⟩, A2430, H⟩ := H
       replace H : ((impl_LowestOf.f t337 t338).bind fun bt348 => ((spec_LowestOf.f kj35 t337 t338).bind fun bt350 => (if (t343 == t347) = true then ((laws_sameInts.f kj35 t340 t344).bind fun t352 => (if t352 = true then (if (bt348.2 == bt350.2) = true then (some (bt348.1 == bt350.1)) else (some false)) else (some false))) else (some false)))) = some r := H
       have A243 := Aside0.mk A2430
       clear A2430
       replace H := Option.bind_eq_some_iff.mp H
       obtain ⟨⟨t348, t349⟩, A2440, H⟩ := H
       replace H : ((spec_LowestOf.f kj35 t337 t338).bind fun bt350 => (if (t343 == t347) = true then ((laws_sameInts.f kj35 t340 t344).bind fun t352 => (if t352 = true then (if (t349 == bt350.2) = true then (some (t348 == bt350.1)) else (some false)) else (some false))) else (some false))) = some r := H
       have A244 := Aside0.mk A2440
       clear A2440
       replace H := Option.bind_eq_some_iff.mp H
       obtain ⟨⟨t350, t351⟩, A2450, H⟩ := H
       replace H : (if (t343 == t347) = true then ((laws_sameInts.f kj35 t340 t344).bind fun t352 => (if t352 = true then (if (t349 == t351) = true then (some (t348 == t350)) else (some false)) else (some false))) else (some false)) = some r := H
       have A245 := Aside0.mk A2450
       clear A2450
       by_cases c246 : (t343 == t347) = true
       ·rw [if_pos c246] at H
        have c246b0 : (t343 == t347) = true := c246
        (try (have c246b1 : decide (t343 = t347) = true := by simpa using c246))
        (try (have c246b2 : (t343 == t347) = true := by simpa using c246))
        clear c246
        replace H := Option.bind_eq_some_iff.mp H
        obtain ⟨t352, A2470, H⟩ := H
        replace H : (if t352 = true then (if (t349 == t351) = true then (some (t348 == t350)) else (some false)) else (some false)) = some r := H
        have A247 := Aside0.mk A2470
        clear A2470
        by_cases c248 : t352 = true
        ·subst c248
         have H1 : (if (t349 == t351) = true then (some (t348 == t350)) else (some false)) = some r := by rw [if_pos rfl] at H; exact H
         clear H
         have H := H1
         clear H1
         by_cases c249 : (t349 == t351) = true
         ·rw [if_pos c249] at H
          have c249b0 : (t349 == t351) = true := c249
          (try (have c249b1 : decide (t349 = t351) = true := by simpa using c249))
          (try (have c249b2 : (t349 == t351) = true := by simpa using c249))
          clear c249
          obtain rfl := Option.some.inj H
          go_wp2_with (first | ((with_reducible refine gate_callee (f := 63) rfl ?_); refine goesLa (some 180) rfl Try.func63 #[.slice A1 l1.length c1] rfl ?_; (with_reducible refine (spec_DrawSeenIn.calls kj35 _ _ l1 t337 t338 _ ?side1 ?side2 A241.out).mono ?_); (case side1 => repeat (first | exact (Kd.C_below HR1.out HB.out) | (with_reducible refine Kd.C_alloc ?_ _) | (with_reducible refine Kd.C_drewN ?_ _) | (with_reducible refine Kd.C_drew ?_))); (case side2 => exact HC1.out); rintro e w250 ⟨rfl, hb⟩; refine ⟨_, rfl, ?_⟩; have n0_ := Aside0.mk (blk_below (blkd BK290) hb); have n1_ := Aside0.mk (blk_below (blkd BK291) hb); have n2_ := Aside0.mk (blk_below (blkd BK295) hb); have n3_ := Aside0.mk (blk_below (blkd BK299) hb); have n4_ := Aside0.mk (below_step (by repeat (first | (with_reducible first | exact HB.out | apply below_alloc | apply pw_below_drewN | apply below_drew1 | refine below_set ?_ GE290.out | refine below_set ?_ GE291.out | refine below_set ?_ GE295.out | refine below_set ?_ GE299.out) | exact HB.out)) hb); clear BK290; clear BK291; clear BK295; clear BK299; clear HB; have BK290 := n0_; have BK291 := n1_; have BK295 := n2_; have BK299 := n3_; have HB := n4_; clear n0_ n1_ n2_ n3_ n4_; (try clear hb); (try clear hb2); (try clear hk); (try clear hi)) | ((with_reducible refine gate_dst (N := 27) rfl ?_); refine box_event ?hg (N := 27) ?hd (cs := #[.int .i64 0, .int .i64 0]) (t := 80) ?hr ?_; (case hd => rfl); (case hg => rfl); (case hr => first | (go_simp; done) | (go_simp; rfl)); intro gb339 hg w251 hbox hb; have n0_ := Aside0.mk (blk_below (blkd BK290) hb); have n1_ := Aside0.mk (blk_below (blkd BK291) hb); have n2_ := Aside0.mk (blk_below (blkd BK295) hb); have n3_ := Aside0.mk (blk_below (blkd BK299) hb); have n4_ := Aside0.mk (below_step (by repeat (first | (with_reducible first | exact HB.out | apply below_alloc | apply pw_below_drewN | apply below_drew1 | refine below_set ?_ GE290.out | refine below_set ?_ GE291.out | refine below_set ?_ GE295.out | refine below_set ?_ GE299.out) | exact HB.out)) hb); have n5_ := Aside0.mk (hbox); have n6_ := Aside0.mk ((by rw [hg]; exact (below_size (by repeat (first | (with_reducible first | exact HB.out | apply below_alloc | apply pw_below_drewN | apply below_drew1 | refine below_set ?_ GE290.out | refine below_set ?_ GE291.out | refine below_set ?_ GE295.out | refine below_set ?_ GE299.out) | exact HB.out))) : w.heap.size ≤ gb339)); have n7_ := Aside0.mk ((by rw [hg]; exact (below_size (by repeat (first | (with_reducible first | exact HB.out | apply below_alloc | apply pw_below_drewN | apply below_drew1 | refine below_set ?_ GE290.out | refine below_set ?_ GE291.out | refine below_set ?_ GE295.out | refine below_set ?_ GE299.out) | exact HB.out))) : w.heap.size ≤ gb339)); have n8_ := Aside0.mk ((by rw [hg]; exact Nat.ne_of_lt (blk_lt (blkd BK290)) : gb290 ≠ gb339)); have n9_ := Aside0.mk ((by rw [hg]; exact Nat.ne_of_gt (blk_lt (blkd BK290)) : gb339 ≠ gb290)); have n10_ := Aside0.mk ((by rw [hg]; exact Nat.ne_of_lt (blk_lt (blkd BK291)) : gb291 ≠ gb339)); have n11_ := Aside0.mk ((by rw [hg]; exact Nat.ne_of_gt (blk_lt (blkd BK291)) : gb339 ≠ gb291)); have n12_ := Aside0.mk ((by rw [hg]; exact Nat.ne_of_lt (blk_lt (blkd BK295)) : gb295 ≠ gb339)); have n13_ := Aside0.mk ((by rw [hg]; exact Nat.ne_of_gt (blk_lt (blkd BK295)) : gb339 ≠ gb295)); have n14_ := Aside0.mk ((by rw [hg]; exact Nat.ne_of_lt (blk_lt (blkd BK299)) : gb299 ≠ gb339)); have n15_ := Aside0.mk ((by rw [hg]; exact Nat.ne_of_gt (blk_lt (blkd BK299)) : gb339 ≠ gb299)); clear BK290; clear BK291; clear BK295; clear BK299; clear HB; have BK290 := n0_; have BK291 := n1_; have BK295 := n2_; have BK299 := n3_; have HB := n4_; have BK339 := n5_; have GW339 := n6_; have GE339 := n7_; have NB290_339 := n8_; have NB339_290 := n9_; have NB291_339 := n10_; have NB339_291 := n11_; have NB295_339 := n12_; have NB339_295 := n13_; have NB299_339 := n14_; have NB339_299 := n15_; clear n0_ n1_ n2_ n3_ n4_ n5_ n6_ n7_ n8_ n9_ n10_ n11_ n12_ n13_ n14_ n15_; clear hb hbox hg; have hnb252 := NB339_290.out; have hnc252 := NB290_339.out; have hnb253 := NB339_291.out; have hnc253 := NB291_339.out; have hnb254 := NB339_295.out; have hnc254 := NB295_339.out; have hnb255 := NB339_299.out; have hnc255 := NB299_339.out; have hcz256_0 : w251.cell? ⟨gb339, 0, none⟩ = some (.int .i64 0) := (blk_cell BK339.out 0).trans rfl; have hcz256_1 : w251.cell? ⟨gb339, 1, none⟩ = some (.int .i64 0) := (blk_cell BK339.out 1).trans rfl; have hfz256_0 := blk_frozen BK339.out 0; have hfz256_1 := blk_frozen BK339.out 1) | ((with_reducible refine gate_callee (f := 59) rfl ?_); refine goesLa (some 183) rfl Try.func59 #[.agg #[.int .i64 t337, .int .i64 t338]] rfl ?_; (with_reducible refine (impl_SeenIn.calls kj35 t337 t338 t340 t343 _ A242.out).mono ?_); rintro e w257 ⟨v341, rfl, ho0, hb⟩; refine ⟨_, rfl, ?_⟩; have n0_ := Aside0.mk (Kd.R_lower ho0 (below_size (by repeat (first | (with_reducible first | exact HB.out | apply below_alloc | apply pw_below_drewN | apply below_drew1 | refine below_set ?_ GE290.out | refine below_set ?_ GE291.out | refine below_set ?_ GE295.out | refine below_set ?_ GE299.out | refine below_set ?_ GE339.out) | exact HB.out)))); have n1_ := Aside0.mk (blk_below (g := gb290) (o := .cells #[.int .i64 t286, .int .i64 t287] 80 (0, 0)) (by (with_reducible repeat (first | refine blk_drewN ?_ _ | refine blk_drew ?_ | refine blk_alloc ?_ _)); refine blk_far ?_ NB290_339.out _; (with_reducible repeat (first | refine blk_drewN ?_ _ | refine blk_drew ?_ | refine blk_alloc ?_ _)); refine blk_far ?_ NB290_339.out _; (with_reducible repeat (first | refine blk_drewN ?_ _ | refine blk_drew ?_ | refine blk_alloc ?_ _)); exact BK290.out) hb); have n2_ := Aside0.mk (blk_below (g := gb291) (o := .cells #[.int .i64 t288, .int .i64 t289] 80 (0, 0)) (by (with_reducible repeat (first | refine blk_drewN ?_ _ | refine blk_drew ?_ | refine blk_alloc ?_ _)); refine blk_far ?_ NB291_339.out _; (with_reducible repeat (first | refine blk_drewN ?_ _ | refine blk_drew ?_ | refine blk_alloc ?_ _)); refine blk_far ?_ NB291_339.out _; (with_reducible repeat (first | refine blk_drewN ?_ _ | refine blk_drew ?_ | refine blk_alloc ?_ _)); exact BK291.out) hb); have n3_ := Aside0.mk (blk_below (g := gb295) (o := .cells #[.int .i64 t292, .int .i64 t293] 80 (0, 0)) (by (with_reducible repeat (first | refine blk_drewN ?_ _ | refine blk_drew ?_ | refine blk_alloc ?_ _)); refine blk_far ?_ NB295_339.out _; (with_reducible repeat (first | refine blk_drewN ?_ _ | refine blk_drew ?_ | refine blk_alloc ?_ _)); refine blk_far ?_ NB295_339.out _; (with_reducible repeat (first | refine blk_drewN ?_ _ | refine blk_drew ?_ | refine blk_alloc ?_ _)); exact BK295.out) hb); have n4_ := Aside0.mk (blk_below (g := gb299) (o := .cells #[.int .i64 t296, .int .i64 t297] 80 (0, 0)) (by (with_reducible repeat (first | refine blk_drewN ?_ _ | refine blk_drew ?_ | refine blk_alloc ?_ _)); refine blk_far ?_ NB299_339.out _; (with_reducible repeat (first | refine blk_drewN ?_ _ | refine blk_drew ?_ | refine blk_alloc ?_ _)); refine blk_far ?_ NB299_339.out _; (with_reducible repeat (first | refine blk_drewN ?_ _ | refine blk_drew ?_ | refine blk_alloc ?_ _)); exact BK299.out) hb); have n5_ := Aside0.mk (blk_below (g := gb339) (o := .cells #[.int .i64 t337, .int .i64 t338] 80 (0, 0)) (by (with_reducible repeat (first | refine blk_drewN ?_ _ | refine blk_drew ?_ | refine blk_alloc ?_ _)); refine blk_put (cs := #[.int .i64 t337, .int .i64 0]) ?_ 1 _ rfl; (with_reducible repeat (first | refine blk_drewN ?_ _ | refine blk_drew ?_ | refine blk_alloc ?_ _)); refine blk_put (cs := #[.int .i64 0, .int .i64 0]) ?_ 0 _ rfl; (with_reducible repeat (first | refine blk_drewN ?_ _ | refine blk_drew ?_ | refine blk_alloc ?_ _)); exact BK339.out) hb); have n6_ := Aside0.mk (below_step (by repeat (first | (with_reducible first | exact HB.out | apply below_alloc | apply pw_below_drewN | apply below_drew1 | refine below_set ?_ GE290.out | refine below_set ?_ GE291.out | refine below_set ?_ GE295.out | refine below_set ?_ GE299.out | refine below_set ?_ GE339.out) | exact HB.out)) hb); clear BK290; clear BK291; clear BK295; clear BK299; clear BK339; clear HB; have HO342 := n0_; have BK290 := n1_; have BK291 := n2_; have BK295 := n3_; have BK299 := n4_; have BK339 := n5_; have HB := n6_; clear n0_ n1_ n2_ n3_ n4_ n5_ n6_; (try clear hb); (try clear hb2); (try clear hk); (try clear hi); (try clear ho0); have hcz258_0 : w257.cell? ⟨gb339, 0, none⟩ = some (.int .i64 t337) := (blk_cell BK339.out 0).trans rfl; have hcz258_1 : w257.cell? ⟨gb339, 1, none⟩ = some (.int .i64 t338) := (blk_cell BK339.out 1).trans rfl; have hfz258_0 := blk_frozen BK339.out 0; have hfz258_1 := blk_frozen BK339.out 1) | ((with_reducible refine gate_callee (f := 64) rfl ?_); refine goesLa (some 188) rfl Try.func64 #[.agg #[.int .i64 t337, .int .i64 t338]] rfl ?_; (with_reducible refine (spec_SeenIn.calls kj35 t337 t338 t344 t347 _ A243.out).mono ?_); rintro e w259 ⟨v345, rfl, ho0, hb⟩; refine ⟨_, rfl, ?_⟩; have n0_ := Aside0.mk (Kd.R_elder' (by (with_reducible repeat (first | apply Kd.R_alloc | apply Kd.R_drewN | apply Kd.R_drew)); exact HO342.out) (Kd.R_base ho0) hb); have n1_ := Aside0.mk (Kd.R_lower (Kd.R_new' ho0 (Kd.R_lt (by (with_reducible repeat (first | apply Kd.R_alloc | apply Kd.R_drewN | apply Kd.R_drew)); exact HO342.out))) (below_size (by repeat (first | (with_reducible first | exact HB.out | apply below_alloc | apply pw_below_drewN | apply below_drew1 | refine below_set ?_ GE290.out | refine below_set ?_ GE291.out | refine below_set ?_ GE295.out | refine below_set ?_ GE299.out | refine below_set ?_ GE339.out) | exact HB.out)))); have n2_ := Aside0.mk (blk_below (blkd BK290) hb); have n3_ := Aside0.mk (blk_below (blkd BK291) hb); have n4_ := Aside0.mk (blk_below (blkd BK295) hb); have n5_ := Aside0.mk (blk_below (blkd BK299) hb); have n6_ := Aside0.mk (blk_below (blkd BK339) hb); have n7_ := Aside0.mk (below_step (by repeat (first | (with_reducible first | exact HB.out | apply below_alloc | apply pw_below_drewN | apply below_drew1 | refine below_set ?_ GE290.out | refine below_set ?_ GE291.out | refine below_set ?_ GE295.out | refine below_set ?_ GE299.out | refine below_set ?_ GE339.out) | exact HB.out)) hb); clear HO342; clear BK290; clear BK291; clear BK295; clear BK299; clear BK339; clear HB; have HO342 := n0_; have HO346 := n1_; have BK290 := n2_; have BK291 := n3_; have BK295 := n4_; have BK299 := n5_; have BK339 := n6_; have HB := n7_; clear n0_ n1_ n2_ n3_ n4_ n5_ n6_ n7_; (try clear hb); (try clear hb2); (try clear hk); (try clear hi); (try clear ho0); have hcz260_0 : w259.cell? ⟨gb339, 0, none⟩ = some (.int .i64 t337) := (blk_cell BK339.out 0).trans rfl; have hcz260_1 : w259.cell? ⟨gb339, 1, none⟩ = some (.int .i64 t338) := (blk_cell BK339.out 1).trans rfl; have hfz260_0 := blk_frozen BK339.out 0; have hfz260_1 := blk_frozen BK339.out 1) | ((with_reducible refine gate_callee (f := 60) rfl ?_); refine goesLa (some 193) rfl Try.func60 #[.agg #[.int .i64 t337, .int .i64 t338]] rfl ?_; (with_reducible refine (impl_LowestOf.calls t337 t338 t348 t349 _ A244.out).mono ?_); rintro e w261 ⟨rfl, hb⟩; refine ⟨_, rfl, ?_⟩; have n0_ := Aside0.mk (Kd.R_below (by (with_reducible repeat (first | apply Kd.R_alloc | apply Kd.R_drewN | apply Kd.R_drew)); exact HO342.out) hb); have n1_ := Aside0.mk (Kd.R_below (by (with_reducible repeat (first | apply Kd.R_alloc | apply Kd.R_drewN | apply Kd.R_drew)); exact HO346.out) hb); have n2_ := Aside0.mk (blk_below (blkd BK290) hb); have n3_ := Aside0.mk (blk_below (blkd BK291) hb); have n4_ := Aside0.mk (blk_below (blkd BK295) hb); have n5_ := Aside0.mk (blk_below (blkd BK299) hb); have n6_ := Aside0.mk (blk_below (blkd BK339) hb); have n7_ := Aside0.mk (below_step (by repeat (first | (with_reducible first | exact HB.out | apply below_alloc | apply pw_below_drewN | apply below_drew1 | refine below_set ?_ GE290.out | refine below_set ?_ GE291.out | refine below_set ?_ GE295.out | refine below_set ?_ GE299.out | refine below_set ?_ GE339.out) | exact HB.out)) hb); clear HO342; clear HO346; clear BK290; clear BK291; clear BK295; clear BK299; clear BK339; clear HB; have HO342 := n0_; have HO346 := n1_; have BK290 := n2_; have BK291 := n3_; have BK295 := n4_; have BK299 := n5_; have BK339 := n6_; have HB := n7_; clear n0_ n1_ n2_ n3_ n4_ n5_ n6_ n7_; (try clear hb); (try clear hb2); (try clear hk); (try clear hi); have hcz262_0 : w261.cell? ⟨gb339, 0, none⟩ = some (.int .i64 t337) := (blk_cell BK339.out 0).trans rfl; have hcz262_1 : w261.cell? ⟨gb339, 1, none⟩ = some (.int .i64 t338) := (blk_cell BK339.out 1).trans rfl; have hfz262_0 := blk_frozen BK339.out 0; have hfz262_1 := blk_frozen BK339.out 1) | ((with_reducible refine gate_callee (f := 65) rfl ?_); refine goesLa (some 198) rfl Try.func65 #[.agg #[.int .i64 t337, .int .i64 t338]] rfl ?_; (with_reducible refine (spec_LowestOf.calls kj35 t337 t338 t350 t351 _ A245.out).mono ?_); rintro e w263 ⟨rfl, hb⟩; refine ⟨_, rfl, ?_⟩; have n0_ := Aside0.mk (Kd.R_below (by (with_reducible repeat (first | apply Kd.R_alloc | apply Kd.R_drewN | apply Kd.R_drew)); exact HO342.out) hb); have n1_ := Aside0.mk (Kd.R_below (by (with_reducible repeat (first | apply Kd.R_alloc | apply Kd.R_drewN | apply Kd.R_drew)); exact HO346.out) hb); have n2_ := Aside0.mk (blk_below (blkd BK290) hb); have n3_ := Aside0.mk (blk_below (blkd BK291) hb); have n4_ := Aside0.mk (blk_below (blkd BK295) hb); have n5_ := Aside0.mk (blk_below (blkd BK299) hb); have n6_ := Aside0.mk (blk_below (blkd BK339) hb); have n7_ := Aside0.mk (below_step (by repeat (first | (with_reducible first | exact HB.out | apply below_alloc | apply pw_below_drewN | apply below_drew1 | refine below_set ?_ GE290.out | refine below_set ?_ GE291.out | refine below_set ?_ GE295.out | refine below_set ?_ GE299.out | refine below_set ?_ GE339.out) | exact HB.out)) hb); clear HO342; clear HO346; clear BK290; clear BK291; clear BK295; clear BK299; clear BK339; clear HB; have HO342 := n0_; have HO346 := n1_; have BK290 := n2_; have BK291 := n3_; have BK295 := n4_; have BK299 := n5_; have BK339 := n6_; have HB := n7_; clear n0_ n1_ n2_ n3_ n4_ n5_ n6_ n7_; (try clear hb); (try clear hb2); (try clear hk); (try clear hi); obtain ⟨Ao264, co264, eo264⟩ := Kd.R_slice HO342.out; subst eo264; obtain ⟨Ao265, co265, eo265⟩ := Kd.R_slice HO346.out; subst eo265) | (go_at_call 55; (with_reducible refine (laws_sameInts.calls kj35 _ _ t340 _ _ t344 true _ ?side1 ?side2 ?side3 ?side4 A247.out).mono ?_); (case side1 => repeat (first | exact (Kd.R_reads' HO342.out).2.2 | (with_reducible refine Kd.C_alloc ?_ _) | (with_reducible refine Kd.C_drewN ?_ _) | (with_reducible refine Kd.C_drew ?_))); (case side2 => exact (Kd.R_reads' HO342.out).2.1); (case side3 => repeat (first | exact (Kd.R_reads' HO346.out).2.2 | (with_reducible refine Kd.C_alloc ?_ _) | (with_reducible refine Kd.C_drewN ?_ _) | (with_reducible refine Kd.C_drew ?_))); (case side4 => exact (Kd.R_reads' HO346.out).2.1); rintro e w' ⟨rfl, ⟨nd, rfl⟩⟩))
          go_ret
          exact ⟨by first | rfl | (simp [errW_none, errW_some] <;> rfl) | (simp [*, errW_none, errW_some] <;> rfl), by repeat (first | (with_reducible first | exact HB.out | apply below_alloc | apply pw_below_drewN | apply below_drew1 | refine below_set ?_ GE290.out | refine below_set ?_ GE291.out | refine below_set ?_ GE295.out | refine below_set ?_ GE299.out | refine below_set ?_ GE339.out) | exact HB.out)⟩
         ·rw [if_neg c249] at H
          have c249b0 : (t349 == t351) = false := by simpa using c249
          (try (have c249b1 : decide (t349 = t351) = false := by simpa using c249))
          (try (have c249b2 : (t349 == t351) = false := by simpa using c249))
          (try (have c249b3 : ¬ (t349 = t351) := by simpa using c249))
          clear c249
          exact absurd (H.trans (congrArg some hr_)) (by simp)
        ·replace c248 := Bool.eq_false_iff.mpr c248
         subst c248
         have H1 : (some false) = some r := by rw [if_neg (show ¬ (false = true) by decide)] at H; exact H
         clear H
         have H := H1
         clear H1
         exact absurd (H.trans (congrArg some hr_)) (by simp)
       ·rw [if_neg c246] at H
        have c246b0 : (t343 == t347) = false := by simpa using c246
        (try (have c246b1 : decide (t343 = t347) = false := by simpa using c246))
        (try (have c246b2 : (t343 == t347) = false := by simpa using c246))
        (try (have c246b3 : ¬ (t343 = t347) := by simpa using c246))
        clear c246
        exact absurd (H.trans (congrArg some hr_)) (by simp)

/-- THE ONE PURE STATEMENT of laws_FnJoined: yours. -/
def laws_FnJoined.Pure : Prop := ∀ (l0 : List Int) (l1 : List Int), l0.length ≤ maxLen → l0.length * 1 ≤ 140737488351232 → (∀ x ∈ l0, (Lit.int .u8 x).wf = true) → l1.length ≤ maxLen → l1.length * 1 ≤ 140737488351232 → (∀ x ∈ l1, (Lit.int .u8 x).wf = true) → ∃ k, laws_FnJoined.f k l0 l1 = some true
theorem laws_FnJoined.walk (P : laws_FnJoined.Pure) (a0 : Option Addr) (len0 cap0 : Nat) (z0 : List Int) (a1 : Option Addr) (len1 cap1 : Nat) (z1 : List Int) (w : World) (w0 : (a0 = none ∧ len0 = 0 ∧ cap0 = 0 ∧ z0 = []) ∨ ∃ x, a0 = some x ∧ len0 ≤ cap0 ∧ cap0 ≤ maxLen ∧ z0.length = cap0 ∧ (∀ i, i < z0.length → w.cell? (x.add i) = some (.int .u8 (z0.getD i 0))) ∧ ∀ n ∈ z0, (Lit.int .u8 n).wf = true) (y0 : len0 * 1 ≤ 140737488351232) (w1 : (a1 = none ∧ len1 = 0 ∧ cap1 = 0 ∧ z1 = []) ∨ ∃ x, a1 = some x ∧ len1 ≤ cap1 ∧ cap1 ≤ maxLen ∧ z1.length = cap1 ∧ (∀ i, i < z1.length → w.cell? (x.add i) = some (.int .u8 (z1.getD i 0))) ∧ ∀ n ∈ z1, (Lit.int .u8 n).wf = true) (y1 : len1 * 1 ≤ 140737488351232) :
  Calls Try.prog 9 #[.slice a0 len0 cap0, .slice a1 len1 cap1] w fun e w' => e = .returned (.bool true) ∧ Below w.heap.size w w' := by
 obtain ⟨l0, rfl, hr0, hm0, hw0, hc0⟩ := ReadsInt.ofRowC w0
 obtain ⟨l1, rfl, hr1, hm1, hw1, hc1⟩ := ReadsInt.ofRowC w1
 obtain ⟨k, h⟩ := P l0 l1 hm0 y0 hw0 hm1 y1 hw1
 refine (laws_FnJoined.calls k _ _ l0 _ _ l1 true w (Kd.C_of_reads (d := (0 : Int)) (h1 := fun _ => rfl) hr0) hc0 (Kd.C_of_reads (d := (0 : Int)) (h1 := fun _ => rfl) hr1) hc1 h rfl).mono ?_
 rintro e w' ⟨rfl, hd⟩
 exact ⟨rfl, hd⟩

end Go.Proofs.Ytonejnaanklfjaa.QFnJoined
