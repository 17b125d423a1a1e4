-- printed by this session's own program (wip/tools/pp.py: the kit's print.py with changes); Lean checks it
import Derived.Test.YtmhdjkbfghfajaaQFnExactInboxOfx0
import Derived.Test.YtmhdjkbfghfajaaQFnExactInboxOfx4
import Derived.Test.YtmhdjkbfghfajaaQFnExactInboxOfx5
namespace Go.Proofs.Ytmhdjkbfghfajaa.QFnExactInboxOf
open Go.RowKit Go.Proofs.YtmhdjkbfghfajaaW.PrintWords Go.Proofs.YtmhdjkbfghfajaaW.PrintLast Go.Proofs.YtmhdjkbfghfajaaW.PrintMore
attribute [local go_sem] max2_int min2_int max_two min_two max_three min_three max_four min_four strLss strGtr strLeq strGeq   -- for this text's walks alone
set_option linter.unusedVariables false
set_option linter.unusedSimpArgs false

/-! ### slices_symMergeCmpFunc_45_at_39: function 45 -/
mutual
def slices_symMergeCmpFunc_45_at_39.l0 : Nat → List ByteArray → Int → Int → Int → Option (List ByteArray)
  | 0, _, _, _, _ => none
  | k + 1, x0, x1, x10, x11 => if x10 < x11 then (if 0 ≤ (wrap64 ((IntKind.u64.wrap (wrap64 (x10 + x11))) / 2)) then (if (wrap64 ((IntKind.u64.wrap (wrap64 (x10 + x11))) / 2)) < (x0.length : Int) then (if 0 ≤ x1 then (if x1 < (x0.length : Int) then ((impl_Net_inbox_1.f (rdOf ByteArray.empty x0 (wrap64 ((IntKind.u64.wrap (wrap64 (x10 + x11))) / 2))) (rdOf ByteArray.empty x0 x1)).bind fun t242 => (if t242 < 0 then (slices_symMergeCmpFunc_45_at_39.l0 k x0 x1 (wrap64 ((wrap64 ((IntKind.u64.wrap (wrap64 (x10 + x11))) / 2)) + 1)) x11) else (slices_symMergeCmpFunc_45_at_39.l0 k x0 x1 x10 (wrap64 ((IntKind.u64.wrap (wrap64 (x10 + x11))) / 2))))) else (none)) else (none)) else (none)) else (none)) else (slices_symMergeCmpFunc_45_at_39.l1 k x0 x10 x1)
def slices_symMergeCmpFunc_45_at_39.l1 : Nat → List ByteArray → Int → Int → Option (List ByteArray)
  | 0, _, _, _ => none
  | k + 1, x0, x10, x13 => if x13 < (wrap64 (x10 - 1)) then (if 0 ≤ (wrap64 (x13 + 1)) then (if (wrap64 (x13 + 1)) < (x0.length : Int) then (if 0 ≤ x13 then (if x13 < (x0.length : Int) then (slices_symMergeCmpFunc_45_at_39.l1 k ((x0.set (x13 : Int).toNat (rdOf ByteArray.empty x0 (wrap64 (x13 + 1)))).set ((wrap64 (x13 + 1)) : Int).toNat (rdOf ByteArray.empty x0 x13)) x10 (wrap64 (x13 + 1))) else (none)) else (none)) else (none)) else (none)) else (some x0)
def slices_symMergeCmpFunc_45_at_39.l2 : Nat → List ByteArray → Int → Int → Int → Option (List ByteArray)
  | 0, _, _, _, _ => none
  | k + 1, x0, x2, x14, x15 => if x14 < x15 then (if 0 ≤ x2 then (if x2 < (x0.length : Int) then (if 0 ≤ (wrap64 ((IntKind.u64.wrap (wrap64 (x14 + x15))) / 2)) then (if (wrap64 ((IntKind.u64.wrap (wrap64 (x14 + x15))) / 2)) < (x0.length : Int) then ((impl_Net_inbox_1.f (rdOf ByteArray.empty x0 x2) (rdOf ByteArray.empty x0 (wrap64 ((IntKind.u64.wrap (wrap64 (x14 + x15))) / 2)))).bind fun t249 => (if t249 < 0 then (slices_symMergeCmpFunc_45_at_39.l2 k x0 x2 x14 (wrap64 ((IntKind.u64.wrap (wrap64 (x14 + x15))) / 2))) else (slices_symMergeCmpFunc_45_at_39.l2 k x0 x2 (wrap64 ((wrap64 ((IntKind.u64.wrap (wrap64 (x14 + x15))) / 2)) + 1)) x15))) else (none)) else (none)) else (none)) else (none)) else (slices_symMergeCmpFunc_45_at_39.l3 k x0 x14 x2)
def slices_symMergeCmpFunc_45_at_39.l3 : Nat → List ByteArray → Int → Int → Option (List ByteArray)
  | 0, _, _, _ => none
  | k + 1, x0, x14, x17 => if x17 > x14 then (if 0 ≤ (wrap64 (x17 - 1)) then (if (wrap64 (x17 - 1)) < (x0.length : Int) then (if 0 ≤ x17 then (if x17 < (x0.length : Int) then (slices_symMergeCmpFunc_45_at_39.l3 k ((x0.set (x17 : Int).toNat (rdOf ByteArray.empty x0 (wrap64 (x17 - 1)))).set ((wrap64 (x17 - 1)) : Int).toNat (rdOf ByteArray.empty x0 x17)) x14 (wrap64 (x17 - 1))) else (none)) else (none)) else (none)) else (none)) else (some x0)
def slices_symMergeCmpFunc_45_at_39.j4 : Nat → List ByteArray → Int → Int → Int → Int → Int → Int → Int → Option (List ByteArray)
  | 0, _, _, _, _, _, _, _, _ => none
  | k + 1, x0, x1, x2, x3, x18, x19, x20, x21 => slices_symMergeCmpFunc_45_at_39.l4 k x0 x1 x2 x3 x18 x19 x20 x21 (wrap64 (x19 - 1))
def slices_symMergeCmpFunc_45_at_39.l4 : Nat → List ByteArray → Int → Int → Int → Int → Int → Int → Int → Int → Option (List ByteArray)
  | 0, _, _, _, _, _, _, _, _, _ => none
  | k + 1, x0, x1, x2, x3, x18, x19, x20, x21, x22 => if x20 < x21 then (if 0 ≤ (wrap64 (x22 - (wrap64 ((IntKind.u64.wrap (wrap64 (x20 + x21))) / 2)))) then (if (wrap64 (x22 - (wrap64 ((IntKind.u64.wrap (wrap64 (x20 + x21))) / 2)))) < (x0.length : Int) then (if 0 ≤ (wrap64 ((IntKind.u64.wrap (wrap64 (x20 + x21))) / 2)) then (if (wrap64 ((IntKind.u64.wrap (wrap64 (x20 + x21))) / 2)) < (x0.length : Int) then ((impl_Net_inbox_1.f (rdOf ByteArray.empty x0 (wrap64 (x22 - (wrap64 ((IntKind.u64.wrap (wrap64 (x20 + x21))) / 2))))) (rdOf ByteArray.empty x0 (wrap64 ((IntKind.u64.wrap (wrap64 (x20 + x21))) / 2)))).bind fun t256 => (if t256 < 0 then (slices_symMergeCmpFunc_45_at_39.l4 k x0 x1 x2 x3 x18 x19 x20 (wrap64 ((IntKind.u64.wrap (wrap64 (x20 + x21))) / 2)) x22) else (slices_symMergeCmpFunc_45_at_39.l4 k x0 x1 x2 x3 x18 x19 (wrap64 ((wrap64 ((IntKind.u64.wrap (wrap64 (x20 + x21))) / 2)) + 1)) x21 x22))) else (none)) else (none)) else (none)) else (none)) else (if x20 < x2 then (slices_symMergeCmpFunc_45_at_39.j6 k x0 x1 x2 x3 x18 x20 (wrap64 (x19 - x20)) (decide (x2 < (wrap64 (x19 - x20))))) else (slices_symMergeCmpFunc_45_at_39.j6 k x0 x1 x2 x3 x18 x20 (wrap64 (x19 - x20)) false))
def slices_symMergeCmpFunc_45_at_39.j6 : Nat → List ByteArray → Int → Int → Int → Int → Int → Int → Bool → Option (List ByteArray)
  | 0, _, _, _, _, _, _, _, _ => none
  | k + 1, x0, x1, x2, x3, x18, x20, x24, x185 => if x185 = true then ((slices_rotateCmpFunc_46_at_39.f k x0 x20 x2 x24).bind fun t257 => (slices_symMergeCmpFunc_45_at_39.j7 k t257 x1 x3 x18 x20 x24)) else (slices_symMergeCmpFunc_45_at_39.j7 k x0 x1 x3 x18 x20 x24)
def slices_symMergeCmpFunc_45_at_39.j7 : Nat → List ByteArray → Int → Int → Int → Int → Int → Option (List ByteArray)
  | 0, _, _, _, _, _, _ => none
  | k + 1, x0, x1, x3, x18, x20, x24 => if x1 < x20 then (slices_symMergeCmpFunc_45_at_39.j8 k x0 x1 x3 x18 x20 x24 (decide (x20 < x18))) else (slices_symMergeCmpFunc_45_at_39.j8 k x0 x1 x3 x18 x20 x24 false)
def slices_symMergeCmpFunc_45_at_39.j8 : Nat → List ByteArray → Int → Int → Int → Int → Int → Bool → Option (List ByteArray)
  | 0, _, _, _, _, _, _, _ => none
  | k + 1, x0, x1, x3, x18, x20, x24, x199 => if x199 = true then ((slices_symMergeCmpFunc_45_at_39.f k x0 x1 x20 x18).bind fun t258 => (if x18 < x24 then (if x24 < x3 then ((slices_symMergeCmpFunc_45_at_39.f k t258 x18 x24 x3).bind fun t259 => (some t259)) else (some t258)) else (some t258))) else (if x18 < x24 then (if x24 < x3 then ((slices_symMergeCmpFunc_45_at_39.f k x0 x18 x24 x3).bind fun t260 => (some t260)) else (some x0)) else (some x0))
def slices_symMergeCmpFunc_45_at_39.f : Nat → List ByteArray → Int → Int → Int → Option (List ByteArray)
  | 0, _, _, _, _ => none
  | k + 1, l0, a1, a2, a3 => if (wrap64 (a2 - a1)) = 1 then (slices_symMergeCmpFunc_45_at_39.l0 k l0 a1 a2 a3) else (if (wrap64 (a3 - a2)) = 1 then (slices_symMergeCmpFunc_45_at_39.l2 k l0 a2 a1 a2) else (if a2 > (wrap64 ((IntKind.u64.wrap (wrap64 (a1 + a3))) / 2)) then (slices_symMergeCmpFunc_45_at_39.j4 k l0 a1 a2 a3 (wrap64 ((IntKind.u64.wrap (wrap64 (a1 + a3))) / 2)) (wrap64 ((wrap64 ((IntKind.u64.wrap (wrap64 (a1 + a3))) / 2)) + a2)) (wrap64 ((wrap64 ((wrap64 ((IntKind.u64.wrap (wrap64 (a1 + a3))) / 2)) + a2)) - a3)) (wrap64 ((IntKind.u64.wrap (wrap64 (a1 + a3))) / 2))) else (slices_symMergeCmpFunc_45_at_39.j4 k l0 a1 a2 a3 (wrap64 ((IntKind.u64.wrap (wrap64 (a1 + a3))) / 2)) (wrap64 ((wrap64 ((IntKind.u64.wrap (wrap64 (a1 + a3))) / 2)) + a2)) a1 a2)))
end
theorem slices_symMergeCmpFunc_45_at_39.mono_l : ∀ k, (∀ y0 y1 y2 y3, LeO (slices_symMergeCmpFunc_45_at_39.f k y0 y1 y2 y3) (slices_symMergeCmpFunc_45_at_39.f (k + 1) y0 y1 y2 y3)) ∧ (∀ y0 y1 y2 y3, LeO (slices_symMergeCmpFunc_45_at_39.l0 k y0 y1 y2 y3) (slices_symMergeCmpFunc_45_at_39.l0 (k + 1) y0 y1 y2 y3)) ∧ (∀ y0 y1 y2, LeO (slices_symMergeCmpFunc_45_at_39.l1 k y0 y1 y2) (slices_symMergeCmpFunc_45_at_39.l1 (k + 1) y0 y1 y2)) ∧ (∀ y0 y1 y2 y3, LeO (slices_symMergeCmpFunc_45_at_39.l2 k y0 y1 y2 y3) (slices_symMergeCmpFunc_45_at_39.l2 (k + 1) y0 y1 y2 y3)) ∧ (∀ y0 y1 y2, LeO (slices_symMergeCmpFunc_45_at_39.l3 k y0 y1 y2) (slices_symMergeCmpFunc_45_at_39.l3 (k + 1) y0 y1 y2)) ∧ (∀ y0 y1 y2 y3 y4 y5 y6 y7, LeO (slices_symMergeCmpFunc_45_at_39.j4 k y0 y1 y2 y3 y4 y5 y6 y7) (slices_symMergeCmpFunc_45_at_39.j4 (k + 1) y0 y1 y2 y3 y4 y5 y6 y7)) ∧ (∀ y0 y1 y2 y3 y4 y5 y6 y7 y8, LeO (slices_symMergeCmpFunc_45_at_39.l4 k y0 y1 y2 y3 y4 y5 y6 y7 y8) (slices_symMergeCmpFunc_45_at_39.l4 (k + 1) y0 y1 y2 y3 y4 y5 y6 y7 y8)) ∧ (∀ y0 y1 y2 y3 y4 y5 y6 y7, LeO (slices_symMergeCmpFunc_45_at_39.j6 k y0 y1 y2 y3 y4 y5 y6 y7) (slices_symMergeCmpFunc_45_at_39.j6 (k + 1) y0 y1 y2 y3 y4 y5 y6 y7)) ∧ (∀ y0 y1 y2 y3 y4 y5, LeO (slices_symMergeCmpFunc_45_at_39.j7 k y0 y1 y2 y3 y4 y5) (slices_symMergeCmpFunc_45_at_39.j7 (k + 1) y0 y1 y2 y3 y4 y5)) ∧ (∀ y0 y1 y2 y3 y4 y5 y6, LeO (slices_symMergeCmpFunc_45_at_39.j8 k y0 y1 y2 y3 y4 y5 y6) (slices_symMergeCmpFunc_45_at_39.j8 (k + 1) y0 y1 y2 y3 y4 y5 y6))
 | 0 => ⟨fun _ _ _ _ r h => by simp [slices_symMergeCmpFunc_45_at_39.f] at h, fun _ _ _ _ r h => by simp [slices_symMergeCmpFunc_45_at_39.l0] at h, fun _ _ _ r h => by simp [slices_symMergeCmpFunc_45_at_39.l1] at h, fun _ _ _ _ r h => by simp [slices_symMergeCmpFunc_45_at_39.l2] at h, fun _ _ _ r h => by simp [slices_symMergeCmpFunc_45_at_39.l3] at h, fun _ _ _ _ _ _ _ _ r h => by simp [slices_symMergeCmpFunc_45_at_39.j4] at h, fun _ _ _ _ _ _ _ _ _ r h => by simp [slices_symMergeCmpFunc_45_at_39.l4] at h, fun _ _ _ _ _ _ _ _ r h => by simp [slices_symMergeCmpFunc_45_at_39.j6] at h, fun _ _ _ _ _ _ r h => by simp [slices_symMergeCmpFunc_45_at_39.j7] at h, fun _ _ _ _ _ _ _ r h => by simp [slices_symMergeCmpFunc_45_at_39.j8] at h⟩
 | k + 1 => by
  obtain ⟨ih0, ih1, ih2, ih3, ih4, ih5, ih6, ih7, ih8, ih9⟩ := slices_symMergeCmpFunc_45_at_39.mono_l k
  refine ⟨?_, ?_, ?_, ?_, ?_, ?_, ?_, ?_, ?_, ?_⟩
  ·intro y0 y1 y2 y3
   unfold slices_symMergeCmpFunc_45_at_39.f
   repeat' (first | (with_reducible first | exact ih0 _ _ _ _ | exact ih1 _ _ _ _ | exact ih2 _ _ _ | exact ih3 _ _ _ _ | exact ih4 _ _ _ | exact ih5 _ _ _ _ _ _ _ _ | exact ih6 _ _ _ _ _ _ _ _ _ | exact ih7 _ _ _ _ _ _ _ _ | exact ih8 _ _ _ _ _ _ | exact ih9 _ _ _ _ _ _ _ | exact slices_rotateCmpFunc_46_at_39.mono _ _ _ _ _ | exact LeO.refl _ | exact LeO.none _ | refine LeO.ite ?_ ?_ | refine LeO.bind ?_ (fun _ => ?_)) | exact ih0 _ _ _ _ | exact ih1 _ _ _ _ | exact ih2 _ _ _ | exact ih3 _ _ _ _ | exact ih4 _ _ _ | exact ih5 _ _ _ _ _ _ _ _ | exact ih6 _ _ _ _ _ _ _ _ _ | exact ih7 _ _ _ _ _ _ _ _ | exact ih8 _ _ _ _ _ _ | exact ih9 _ _ _ _ _ _ _ | exact slices_rotateCmpFunc_46_at_39.mono _ _ _ _ _ | exact LeO.none _ | refine LeO.ite ?_ ?_ | refine LeO.bind ?_ (fun _ => ?_))
  ·intro y0 y1 y2 y3
   unfold slices_symMergeCmpFunc_45_at_39.l0
   repeat' (first | (with_reducible first | exact ih0 _ _ _ _ | exact ih1 _ _ _ _ | exact ih2 _ _ _ | exact ih3 _ _ _ _ | exact ih4 _ _ _ | exact ih5 _ _ _ _ _ _ _ _ | exact ih6 _ _ _ _ _ _ _ _ _ | exact ih7 _ _ _ _ _ _ _ _ | exact ih8 _ _ _ _ _ _ | exact ih9 _ _ _ _ _ _ _ | exact slices_rotateCmpFunc_46_at_39.mono _ _ _ _ _ | exact LeO.refl _ | exact LeO.none _ | refine LeO.ite ?_ ?_ | refine LeO.bind ?_ (fun _ => ?_)) | exact ih0 _ _ _ _ | exact ih1 _ _ _ _ | exact ih2 _ _ _ | exact ih3 _ _ _ _ | exact ih4 _ _ _ | exact ih5 _ _ _ _ _ _ _ _ | exact ih6 _ _ _ _ _ _ _ _ _ | exact ih7 _ _ _ _ _ _ _ _ | exact ih8 _ _ _ _ _ _ | exact ih9 _ _ _ _ _ _ _ | exact slices_rotateCmpFunc_46_at_39.mono _ _ _ _ _ | exact LeO.none _ | refine LeO.ite ?_ ?_ | refine LeO.bind ?_ (fun _ => ?_))
  ·intro y0 y1 y2
   unfold slices_symMergeCmpFunc_45_at_39.l1
   repeat' (first | (with_reducible first | exact ih0 _ _ _ _ | exact ih1 _ _ _ _ | exact ih2 _ _ _ | exact ih3 _ _ _ _ | exact ih4 _ _ _ | exact ih5 _ _ _ _ _ _ _ _ | exact ih6 _ _ _ _ _ _ _ _ _ | exact ih7 _ _ _ _ _ _ _ _ | exact ih8 _ _ _ _ _ _ | exact ih9 _ _ _ _ _ _ _ | exact slices_rotateCmpFunc_46_at_39.mono _ _ _ _ _ | exact LeO.refl _ | exact LeO.none _ | refine LeO.ite ?_ ?_ | refine LeO.bind ?_ (fun _ => ?_)) | exact ih0 _ _ _ _ | exact ih1 _ _ _ _ | exact ih2 _ _ _ | exact ih3 _ _ _ _ | exact ih4 _ _ _ | exact ih5 _ _ _ _ _ _ _ _ | exact ih6 _ _ _ _ _ _ _ _ _ | exact ih7 _ _ _ _ _ _ _ _ | exact ih8 _ _ _ _ _ _ | exact ih9 _ _ _ _ _ _ _ | exact slices_rotateCmpFunc_46_at_39.mono _ _ _ _ _ | exact LeO.none _ | refine LeO.ite ?_ ?_ | refine LeO.bind ?_ (fun _ => ?_))
  ·intro y0 y1 y2 y3
   unfold slices_symMergeCmpFunc_45_at_39.l2
   repeat' (first | (with_reducible first | exact ih0 _ _ _ _ | exact ih1 _ _ _ _ | exact ih2 _ _ _ | exact ih3 _ _ _ _ | exact ih4 _ _ _ | exact ih5 _ _ _ _ _ _ _ _ | exact ih6 _ _ _ _ _ _ _ _ _ | exact ih7 _ _ _ _ _ _ _ _ | exact ih8 _ _ _ _ _ _ | exact ih9 _ _ _ _ _ _ _ | exact slices_rotateCmpFunc_46_at_39.mono _ _ _ _ _ | exact LeO.refl _ | exact LeO.none _ | refine LeO.ite ?_ ?_ | refine LeO.bind ?_ (fun _ => ?_)) | exact ih0 _ _ _ _ | exact ih1 _ _ _ _ | exact ih2 _ _ _ | exact ih3 _ _ _ _ | exact ih4 _ _ _ | exact ih5 _ _ _ _ _ _ _ _ | exact ih6 _ _ _ _ _ _ _ _ _ | exact ih7 _ _ _ _ _ _ _ _ | exact ih8 _ _ _ _ _ _ | exact ih9 _ _ _ _ _ _ _ | exact slices_rotateCmpFunc_46_at_39.mono _ _ _ _ _ | exact LeO.none _ | refine LeO.ite ?_ ?_ | refine LeO.bind ?_ (fun _ => ?_))
  ·intro y0 y1 y2
   unfold slices_symMergeCmpFunc_45_at_39.l3
   repeat' (first | (with_reducible first | exact ih0 _ _ _ _ | exact ih1 _ _ _ _ | exact ih2 _ _ _ | exact ih3 _ _ _ _ | exact ih4 _ _ _ | exact ih5 _ _ _ _ _ _ _ _ | exact ih6 _ _ _ _ _ _ _ _ _ | exact ih7 _ _ _ _ _ _ _ _ | exact ih8 _ _ _ _ _ _ | exact ih9 _ _ _ _ _ _ _ | exact slices_rotateCmpFunc_46_at_39.mono _ _ _ _ _ | exact LeO.refl _ | exact LeO.none _ | refine LeO.ite ?_ ?_ | refine LeO.bind ?_ (fun _ => ?_)) | exact ih0 _ _ _ _ | exact ih1 _ _ _ _ | exact ih2 _ _ _ | exact ih3 _ _ _ _ | exact ih4 _ _ _ | exact ih5 _ _ _ _ _ _ _ _ | exact ih6 _ _ _ _ _ _ _ _ _ | exact ih7 _ _ _ _ _ _ _ _ | exact ih8 _ _ _ _ _ _ | exact ih9 _ _ _ _ _ _ _ | exact slices_rotateCmpFunc_46_at_39.mono _ _ _ _ _ | exact LeO.none _ | refine LeO.ite ?_ ?_ | refine LeO.bind ?_ (fun _ => ?_))
  ·intro y0 y1 y2 y3 y4 y5 y6 y7
   unfold slices_symMergeCmpFunc_45_at_39.j4
   repeat' (first | (with_reducible first | exact ih0 _ _ _ _ | exact ih1 _ _ _ _ | exact ih2 _ _ _ | exact ih3 _ _ _ _ | exact ih4 _ _ _ | exact ih5 _ _ _ _ _ _ _ _ | exact ih6 _ _ _ _ _ _ _ _ _ | exact ih7 _ _ _ _ _ _ _ _ | exact ih8 _ _ _ _ _ _ | exact ih9 _ _ _ _ _ _ _ | exact slices_rotateCmpFunc_46_at_39.mono _ _ _ _ _ | exact LeO.refl _ | exact LeO.none _ | refine LeO.ite ?_ ?_ | refine LeO.bind ?_ (fun _ => ?_)) | exact ih0 _ _ _ _ | exact ih1 _ _ _ _ | exact ih2 _ _ _ | exact ih3 _ _ _ _ | exact ih4 _ _ _ | exact ih5 _ _ _ _ _ _ _ _ | exact ih6 _ _ _ _ _ _ _ _ _ | exact ih7 _ _ _ _ _ _ _ _ | exact ih8 _ _ _ _ _ _ | exact ih9 _ _ _ _ _ _ _ | exact slices_rotateCmpFunc_46_at_39.mono _ _ _ _ _ | exact LeO.none _ | refine LeO.ite ?_ ?_ | refine LeO.bind ?_ (fun _ => ?_))
  ·intro y0 y1 y2 y3 y4 y5 y6 y7 y8
   unfold slices_symMergeCmpFunc_45_at_39.l4
   repeat' (first | (with_reducible first | exact ih0 _ _ _ _ | exact ih1 _ _ _ _ | exact ih2 _ _ _ | exact ih3 _ _ _ _ | exact ih4 _ _ _ | exact ih5 _ _ _ _ _ _ _ _ | exact ih6 _ _ _ _ _ _ _ _ _ | exact ih7 _ _ _ _ _ _ _ _ | exact ih8 _ _ _ _ _ _ | exact ih9 _ _ _ _ _ _ _ | exact slices_rotateCmpFunc_46_at_39.mono _ _ _ _ _ | exact LeO.refl _ | exact LeO.none _ | refine LeO.ite ?_ ?_ | refine LeO.bind ?_ (fun _ => ?_)) | exact ih0 _ _ _ _ | exact ih1 _ _ _ _ | exact ih2 _ _ _ | exact ih3 _ _ _ _ | exact ih4 _ _ _ | exact ih5 _ _ _ _ _ _ _ _ | exact ih6 _ _ _ _ _ _ _ _ _ | exact ih7 _ _ _ _ _ _ _ _ | exact ih8 _ _ _ _ _ _ | exact ih9 _ _ _ _ _ _ _ | exact slices_rotateCmpFunc_46_at_39.mono _ _ _ _ _ | exact LeO.none _ | refine LeO.ite ?_ ?_ | refine LeO.bind ?_ (fun _ => ?_))
  ·intro y0 y1 y2 y3 y4 y5 y6 y7
   unfold slices_symMergeCmpFunc_45_at_39.j6
   repeat' (first | (with_reducible first | exact ih0 _ _ _ _ | exact ih1 _ _ _ _ | exact ih2 _ _ _ | exact ih3 _ _ _ _ | exact ih4 _ _ _ | exact ih5 _ _ _ _ _ _ _ _ | exact ih6 _ _ _ _ _ _ _ _ _ | exact ih7 _ _ _ _ _ _ _ _ | exact ih8 _ _ _ _ _ _ | exact ih9 _ _ _ _ _ _ _ | exact slices_rotateCmpFunc_46_at_39.mono _ _ _ _ _ | exact LeO.refl _ | exact LeO.none _ | refine LeO.ite ?_ ?_ | refine LeO.bind ?_ (fun _ => ?_)) | exact ih0 _ _ _ _ | exact ih1 _ _ _ _ | exact ih2 _ _ _ | exact ih3 _ _ _ _ | exact ih4 _ _ _ | exact ih5 _ _ _ _ _ _ _ _ | exact ih6 _ _ _ _ _ _ _ _ _ | exact ih7 _ _ _ _ _ _ _ _ | exact ih8 _ _ _ _ _ _ | exact ih9 _ _ _ _ _ _ _ | exact slices_rotateCmpFunc_46_at_39.mono _ _ _ _ _ | exact LeO.none _ | refine LeO.ite ?_ ?_ | refine LeO.bind ?_ (fun _ => ?_))
  ·intro y0 y1 y2 y3 y4 y5
   unfold slices_symMergeCmpFunc_45_at_39.j7
   repeat' (first | (with_reducible first | exact ih0 _ _ _ _ | exact ih1 _ _ _ _ | exact ih2 _ _ _ | exact ih3 _ _ _ _ | exact ih4 _ _ _ | exact ih5 _ _ _ _ _ _ _ _ | exact ih6 _ _ _ _ _ _ _ _ _ | exact ih7 _ _ _ _ _ _ _ _ | exact ih8 _ _ _ _ _ _ | exact ih9 _ _ _ _ _ _ _ | exact slices_rotateCmpFunc_46_at_39.mono _ _ _ _ _ | exact LeO.refl _ | exact LeO.none _ | refine LeO.ite ?_ ?_ | refine LeO.bind ?_ (fun _ => ?_)) | exact ih0 _ _ _ _ | exact ih1 _ _ _ _ | exact ih2 _ _ _ | exact ih3 _ _ _ _ | exact ih4 _ _ _ | exact ih5 _ _ _ _ _ _ _ _ | exact ih6 _ _ _ _ _ _ _ _ _ | exact ih7 _ _ _ _ _ _ _ _ | exact ih8 _ _ _ _ _ _ | exact ih9 _ _ _ _ _ _ _ | exact slices_rotateCmpFunc_46_at_39.mono _ _ _ _ _ | exact LeO.none _ | refine LeO.ite ?_ ?_ | refine LeO.bind ?_ (fun _ => ?_))
  ·intro y0 y1 y2 y3 y4 y5 y6
   unfold slices_symMergeCmpFunc_45_at_39.j8
   repeat' (first | (with_reducible first | exact ih0 _ _ _ _ | exact ih1 _ _ _ _ | exact ih2 _ _ _ | exact ih3 _ _ _ _ | exact ih4 _ _ _ | exact ih5 _ _ _ _ _ _ _ _ | exact ih6 _ _ _ _ _ _ _ _ _ | exact ih7 _ _ _ _ _ _ _ _ | exact ih8 _ _ _ _ _ _ | exact ih9 _ _ _ _ _ _ _ | exact slices_rotateCmpFunc_46_at_39.mono _ _ _ _ _ | exact LeO.refl _ | exact LeO.none _ | refine LeO.ite ?_ ?_ | refine LeO.bind ?_ (fun _ => ?_)) | exact ih0 _ _ _ _ | exact ih1 _ _ _ _ | exact ih2 _ _ _ | exact ih3 _ _ _ _ | exact ih4 _ _ _ | exact ih5 _ _ _ _ _ _ _ _ | exact ih6 _ _ _ _ _ _ _ _ _ | exact ih7 _ _ _ _ _ _ _ _ | exact ih8 _ _ _ _ _ _ | exact ih9 _ _ _ _ _ _ _ | exact slices_rotateCmpFunc_46_at_39.mono _ _ _ _ _ | exact LeO.none _ | refine LeO.ite ?_ ?_ | refine LeO.bind ?_ (fun _ => ?_))
theorem slices_symMergeCmpFunc_45_at_39.mono : ∀ a0 a1 a2 a3 k, LeO (slices_symMergeCmpFunc_45_at_39.f k a0 a1 a2 a3) (slices_symMergeCmpFunc_45_at_39.f (k + 1) a0 a1 a2 a3) := by
 intro a0 a1 a2 a3 k
 obtain ⟨ih0, ih1, ih2, ih3, ih4, ih5, ih6, ih7, ih8, ih9⟩ := slices_symMergeCmpFunc_45_at_39.mono_l k
 exact ih0 a0 a1 a2 a3
def slices_symMergeCmpFunc_45_at_39.T5 : Bool × List (List Nat × List Nat) := (true, [([], []), ([], []), ([], []), ([1, 2], [1, 2]), ([3], [3]), ([], []), ([], []), ([5, 6], [5, 6]), ([7], [7]), ([0, 4, 8], [0, 4, 8]), ([9], [9])])
def slices_symMergeCmpFunc_45_at_39.B5 : List Nat := [0, 0, 0, 6, 14, 0, 0, 96, 224, 511, 1023]
theorem slices_symMergeCmpFunc_45_at_39.tab5 : rtab .any (opsOf Try.f45 5) = slices_symMergeCmpFunc_45_at_39.T5 := by kernel_rfl
theorem slices_symMergeCmpFunc_45_at_39.bits5 : waitsOk slices_symMergeCmpFunc_45_at_39.T5.2 slices_symMergeCmpFunc_45_at_39.B5 = true := by kernel_rfl
def slices_symMergeCmpFunc_45_at_39.T11 : Bool × List (List Nat × List Nat) := (true, [([], []), ([], []), ([], []), ([], []), ([3], [3]), ([], []), ([], []), ([6], [6]), ([5, 7], [5, 7]), ([8], [8]), ([], []), ([], []), ([10, 11], [10, 11]), ([12], [12]), ([0, 1, 0, 1, 5, 6, 7, 8, 9, 13], [0, 1]), ([14, 9, 0, 1, 5, 6, 7, 8, 9, 13], [9, 14]), ([2, 4, 0, 1, 2, 3, 4, 5, 6, 7, 8, 9, 10, 11, 12, 13, 14, 15], [2, 4]), ([16, 13, 15, 0, 1, 2, 3, 4, 5, 6, 7, 8, 9, 10, 11, 12, 13, 14, 15], [13, 16])])
def slices_symMergeCmpFunc_45_at_39.B11 : List Nat := [0, 0, 0, 0, 8, 0, 0, 64, 224, 480, 0, 0, 3072, 7168, 16355, 32739, 65535, 131071]
theorem slices_symMergeCmpFunc_45_at_39.tab11 : rtab .any (opsOf Try.f45 11) = slices_symMergeCmpFunc_45_at_39.T11 := by kernel_rfl
theorem slices_symMergeCmpFunc_45_at_39.bits11 : waitsOk slices_symMergeCmpFunc_45_at_39.T11.2 slices_symMergeCmpFunc_45_at_39.B11 = true := by kernel_rfl
def slices_symMergeCmpFunc_45_at_39.T17 : Bool × List (List Nat × List Nat) := (true, [([], []), ([], []), ([], []), ([1, 2], [1, 2]), ([3], [3]), ([], []), ([], []), ([5, 6], [5, 6]), ([7], [7]), ([0, 4, 8], [0, 4, 8]), ([9], [9]), ([10], [10])])
def slices_symMergeCmpFunc_45_at_39.B17 : List Nat := [0, 0, 0, 6, 14, 0, 0, 96, 224, 511, 1023, 2047]
theorem slices_symMergeCmpFunc_45_at_39.tab17 : rtab .any (opsOf Try.f45 17) = slices_symMergeCmpFunc_45_at_39.T17 := by kernel_rfl
theorem slices_symMergeCmpFunc_45_at_39.bits17 : waitsOk slices_symMergeCmpFunc_45_at_39.T17.2 slices_symMergeCmpFunc_45_at_39.B17 = true := by kernel_rfl
def slices_symMergeCmpFunc_45_at_39.T23 : Bool × List (List Nat × List Nat) := (true, [([], []), ([], []), ([], []), ([], []), ([3], [3]), ([], []), ([], []), ([6], [6]), ([5, 7], [5, 7]), ([8], [8]), ([], []), ([], []), ([10, 11], [10, 11]), ([12], [12]), ([0, 1, 0, 1, 5, 6, 7, 8, 9, 13], [0, 1]), ([14, 9, 0, 1, 5, 6, 7, 8, 9, 13], [9, 14]), ([2, 4, 0, 1, 2, 3, 4, 5, 6, 7, 8, 9, 10, 11, 12, 13, 14, 15], [2, 4]), ([16, 13, 15, 0, 1, 2, 3, 4, 5, 6, 7, 8, 9, 10, 11, 12, 13, 14, 15], [13, 16])])
def slices_symMergeCmpFunc_45_at_39.B23 : List Nat := [0, 0, 0, 0, 8, 0, 0, 64, 224, 480, 0, 0, 3072, 7168, 16355, 32739, 65535, 131071]
theorem slices_symMergeCmpFunc_45_at_39.tab23 : rtab .any (opsOf Try.f45 23) = slices_symMergeCmpFunc_45_at_39.T23 := by kernel_rfl
theorem slices_symMergeCmpFunc_45_at_39.bits23 : waitsOk slices_symMergeCmpFunc_45_at_39.T23.2 slices_symMergeCmpFunc_45_at_39.B23 = true := by kernel_rfl
def slices_symMergeCmpFunc_45_at_39.T35 : Bool × List (List Nat × List Nat) := (true, [([], []), ([], []), ([], []), ([], []), ([2, 3], [2, 3]), ([1, 4], [1, 4]), ([5], [5]), ([], []), ([], []), ([7, 8], [7, 8]), ([9], [9]), ([0, 6, 10], [0, 6, 10]), ([11], [11]), ([12], [12])])
def slices_symMergeCmpFunc_45_at_39.B35 : List Nat := [0, 0, 0, 0, 12, 30, 62, 0, 0, 384, 896, 2047, 4095, 8191]
theorem slices_symMergeCmpFunc_45_at_39.tab35 : rtab .any (opsOf Try.f45 35) = slices_symMergeCmpFunc_45_at_39.T35 := by kernel_rfl
theorem slices_symMergeCmpFunc_45_at_39.bits35 : waitsOk slices_symMergeCmpFunc_45_at_39.T35.2 slices_symMergeCmpFunc_45_at_39.B35 = true := by kernel_rfl
set_option maxHeartbeats 8000000 in
set_option maxRecDepth 100000 in
theorem slices_symMergeCmpFunc_45_at_39.calls (k : Nat) : ∀ (P0_ : Nat → Prop) (u9000_ : Value) (l0 : List ByteArray) (a1 : Int) (a2 : Int) (a3 : Int)  (r : List ByteArray) (w0 w : World) (hB : Below w0.heap.size w0 w) (ho0 : Kd.R Kd.string 9 w w0.heap.size P0_ u9000_ l0) (h : slices_symMergeCmpFunc_45_at_39.f k l0 a1 a2 a3 = some r),
  Calls Try.prog 45 #[u9000_, .int .i64 a1, .int .i64 a2, .int .i64 a3, .func (.func 39) #[] #[]] w fun e w' => e = .returned (.tuple #[]) ∧ Kd.R Kd.string 9 w' w0.heap.size (fun k_ => (P0_ k_ ∨ w.heap.size ≤ k_)) u9000_ r ∧ Below w0.heap.size w0 w' ∧ Kept w w' (fun k_ => P0_ k_) := by
 induction k using Nat.strongRecOn with
 | _ k ih =>
 intro P0_ u9000_ l0 a1 a2 a3 r w0 w hB ho0 h
 cases k with
 | zero => exact absurd h (by simp [slices_symMergeCmpFunc_45_at_39.f])
 | succ k =>
 simp only [slices_symMergeCmpFunc_45_at_39.f] at h
 have HO0 := Aside0.mk (show Kd.R Kd.string 9 w w0.heap.size (fun k_ => (P0_ k_ ∨ w.heap.size ≤ k_)) u9000_ l0 from Kd.R_mono ho0 (fun k_ hk => (.inl hk)))
 have HK := Aside0.mk (Kept.refl w (fun k_ => P0_ k_))
 have HW0 := Aside0.mk hB.size
 have HB := Aside0.mk hB; clear hB
 have H : (if (wrap64 (a2 - a1)) = 1 then (slices_symMergeCmpFunc_45_at_39.l0 k l0 a1 a2 a3) else (if (wrap64 (a3 - a2)) = 1 then (slices_symMergeCmpFunc_45_at_39.l2 k l0 a2 a1 a2) else (if a2 > (wrap64 ((IntKind.u64.wrap (wrap64 (a1 + a3))) / 2)) then (slices_symMergeCmpFunc_45_at_39.j4 k l0 a1 a2 a3 (wrap64 ((IntKind.u64.wrap (wrap64 (a1 + a3))) / 2)) (wrap64 ((wrap64 ((IntKind.u64.wrap (wrap64 (a1 + a3))) / 2)) + a2)) (wrap64 ((wrap64 ((wrap64 ((IntKind.u64.wrap (wrap64 (a1 + a3))) / 2)) + a2)) - a3)) (wrap64 ((IntKind.u64.wrap (wrap64 (a1 + a3))) / 2))) else (slices_symMergeCmpFunc_45_at_39.j4 k l0 a1 a2 a3 (wrap64 ((IntKind.u64.wrap (wrap64 (a1 + a3))) / 2)) (wrap64 ((wrap64 ((IntKind.u64.wrap (wrap64 (a1 + a3))) / 2)) + a2)) a1 a2)))) = some r := h
 clear h
 by_cases c6 : (wrap64 (a2 - a1)) = 1
 ·rw [if_pos c6] at H
  have c6b0 : ((wrap64 (a2 - a1)) == 1) = true := beq_iff_eq.mpr c6
  have c6b1 : ((wrap64 (a2 - a1)) != 1) = false := bne_eq_false_iff_eq.mpr c6
  clear c6
  have H' := Aside0.mk H
  clear H
  go_enter Try.func45, Try.ntmps45
  go_wp2
  go_loopg [10, 11] k (fun kq v10 v11 w' => ∃ (x10_1 : Int) (x11_1 : Int), v10 = .int .i64 x10_1 ∧ v11 = .int .i64 x11_1 ∧ Aside0 (slices_symMergeCmpFunc_45_at_39.l0 kq l0 a1 x10_1 x11_1 = some r) ∧ Aside0 (kq ≤ k) ∧ Aside0 (Kd.R Kd.string 9 w' w0.heap.size (fun k_ => (P0_ k_ ∨ w.heap.size ≤ k_)) u9000_ l0) ∧ Aside0 (Kept w w' (fun k_ => P0_ k_)) ∧ Aside0 (Below w0.heap.size w0 w'))
  case atStart => exact ⟨(a2), (a3), er, er, H', ⟨Nat.le_refl _⟩, ⟨rdl HO0⟩, ⟨by repeat (first | (with_reducible first | exact HK.out | apply Kept.alloc | apply Kept.drewN | apply Kept.drew) | exact HK.out)⟩, ⟨belowd HB⟩⟩
  case round => as_aux_lemma =>
   clear H'
   (try clear c6b0); (try clear c6b1)
   obtain ⟨x10_1, x11_1, rfl, rfl, HA, HK1, HO_0, HK, HB⟩ := hrel
   cases gk with
   | zero => exact absurd HA.out (by simp [slices_symMergeCmpFunc_45_at_39.l0])
   | succ k1 =>
    have H := HA.out; clear HA
    simp only [slices_symMergeCmpFunc_45_at_39.l0] at H
    by_cases c7 : x10_1 < x11_1
    ·rw [if_pos c7] at H
     have c7b0 : decide (x10_1 < x11_1) = true := decide_eq_true c7
     clear c7
     obtain ⟨ji8, hji8⟩ : ∃ j_ : Int, (wrap64 ((IntKind.u64.wrap (wrap64 (x10_1 + x11_1))) / 2)) = j_ := ⟨_, rfl⟩
     replace H : (if 0 ≤ (ji8) then (if (ji8) < (l0.length : Int) then (if 0 ≤ a1 then (if a1 < (l0.length : Int) then ((impl_Net_inbox_1.f (rdOf ByteArray.empty l0 (ji8)) (rdOf ByteArray.empty l0 a1)).bind fun t242 => (if t242 < 0 then (slices_symMergeCmpFunc_45_at_39.l0 k1 l0 a1 (wrap64 ((ji8) + 1)) x11_1) else (slices_symMergeCmpFunc_45_at_39.l0 k1 l0 a1 x10_1 ji8))) else (none)) else (none)) else (none)) else (none)) = some r := by first | (rw [hji8] at H; exact H) | (simp only [hji8] at H ⊢; exact H)
     have hji8w : (IntKind.i64.wrap ((IntKind.u64.wrap (wrap64 (x10_1 + x11_1))) / 2)) = ji8 := (i64_w _).trans hji8
     replace H := ifS H; obtain ⟨c9, H⟩ := H; have c9b0 := decide_eq_true c9; clear c9; replace H := ifS H; obtain ⟨c10, H⟩ := H; have c10b0 := decide_eq_true c10; clear c10; replace H := ifS H; obtain ⟨c11, H⟩ := H; have c11b0 := decide_eq_true c11; clear c11; replace H := ifS H; obtain ⟨c12, H⟩ := H; have c12b0 := decide_eq_true c12; clear c12; replace H := bS H; obtain ⟨t242, A13, H⟩ := H
     replace H : (if t242 < 0 then (slices_symMergeCmpFunc_45_at_39.l0 k1 l0 a1 (wrap64 ((ji8) + 1)) x11_1) else (slices_symMergeCmpFunc_45_at_39.l0 k1 l0 a1 x10_1 ji8)) = some r := H
     by_cases c14 : t242 < 0
     ·rw [if_pos c14] at H
      have c14b0 : decide (t242 < 0) = true := decide_eq_true c14
      clear c14
      have H' := Aside0.mk H
      clear H
      try go_wp2
      replace HO_0 := ak (Kd.R_drew HO_0.out)
      replace HK := ak (Kept.drew HK.out)
      replace HB := ak (below_drew1 HB.out)
      obtain ⟨Ao16, co16, eo16⟩ := Kd.R_slice HO_0.out
      (first | subst eo16 | (injection eo16 with f1_ f2_ f3_; have f4_ := f1_.symm; have f5_ := f3_.symm; clear f1_ f2_ f3_; subst f4_; subst f5_))
      have p240 : 0 ≤ ((ji8) : Int) := da
      have q240 : (ji8) < (l0.length : Int) := da
      obtain ⟨ad240, e240, hx240_0⟩ := Kd.at_string (Kd.R_reads' HO_0.out).2.2 (ji8) p240 q240
      cases e240
      replace p240 := eq_true p240; replace q240 := eq_true q240
      have p241 : 0 ≤ (a1 : Int) := da
      have q241 : a1 < (l0.length : Int) := da
      obtain ⟨ad241, e241, hx241_0⟩ := Kd.at_string (Kd.R_reads' HO_0.out).2.2 a1 p241 q241
      obtain rfl : ad240 = ad241 := (by injection e241)
      replace p241 := eq_true p241; replace q241 := eq_true q241
      refine start_ (n := 11) (S := fun w' => w'.cell? (ad240.add ((ji8)).toNat) = some (.string (rdOf ByteArray.empty l0 (ji8))) ∧ w'.cell? (ad240.add (a1).toNat) = some (.string (rdOf ByteArray.empty l0 a1))) (ds := []) (bl 11 0) (by kernel_rfl) rfl rfl ⟨hx240_0, hx241_0⟩ (fun hHeld => ?_); refine with_tabW slices_symMergeCmpFunc_45_at_39.tab5 slices_symMergeCmpFunc_45_at_39.bits5 (fun HT_ HW_ => ?_)
      generalize wr.drew = w15 at HO_0 HK HB hx240_0 hx241_0 hHeld ⊢
      refine pureA 0 (some 40) 11 1 HT_ ?_
      refine pureA 1 (some 41) 11 3 HT_ ?_
      refine pureA 2 (some 42) 11 7 HT_ ?_
      refine pureA 3 (some 43) 11 15 HT_ ?_
      refine pureA 5 (some 45) 11 47 HT_ ?_
      refine pureA 6 (some 46) 11 111 HT_ ?_
      refine pureA 7 (some 47) 11 239 HT_ ?_
      refine takeA 4 (some 44) 11 255 HT_ HW_ hHeld ?_ (hy := by rintro w' ⟨s0, s1⟩; go_simp; with_reducible rfl)
      refine takeA 8 (some 48) 11 511 HT_ HW_ hHeld ?_ (hy := by rintro w' ⟨s0, s1⟩; go_simp; with_reducible rfl)
      refine oneA 9 (some 49) 11 1023 HT_ (fun K hK => ?_)
      refine goesVs_ Try.func39 (by kernel_rfl) rfl #[.string (rdOf ByteArray.empty l0 (ji8)), .string (rdOf ByteArray.empty l0 a1)] (by rfl) rfl rfl rfl (by (try simp only [List.map_toArray, List.map_cons, List.map_nil]); first | done | (simp only [hji8]; rfl) | rfl | (simp only [List.length_drop, List.length_take]; rfl)) ?_
      with_reducible refine (impl_Net_inbox_1.calls (rdOf ByteArray.empty l0 (ji8)) (rdOf ByteArray.empty l0 a1) t242 _ A13.out).mono ?_
      rintro e w' ⟨rfl, ⟨nd, rfl⟩⟩
      refine ⟨_, rfl, ?_⟩
      refine hK.out _ _ ⟨hHeld.1, hHeld.2⟩ (fun hHeld => ?_)
      clear hK K
      refine norm_ (a' := ?_) ?_ ?_
      rotate_left
      ·show Act.put _ (some 49) _ = _
       simp only [Act.put, List.setIfInBounds_toArray, List.set_cons_zero, List.set_cons_succ, i64_w, i32_w]
       rfl
      refine pureA 10 (some 50) 11 2047 HT_ ?_
      refine done_ (done_of HT_.out (by kernel_rfl)) ?_
      try go_wp2
      go_roundg k1
      case measure => have := HK1.out; omega
      case rel => exact ⟨(wrap64 ((ji8) + 1)), (x11_1), (by first | rfl | (simp; done) | (simp only [← hji8] <;> (first | rfl | simp)) | (simp [*]; done)), er, H', ⟨by have := HK1.out; omega⟩, ⟨rdl HO_0⟩, ⟨by repeat (first | (with_reducible first | exact HK.out | apply Kept.alloc | apply Kept.drewN | apply Kept.drew) | exact HK.out)⟩, ⟨belowd HB⟩⟩
     ·rw [if_neg c14] at H
      have c14b0 : decide (t242 < 0) = false := decide_eq_false c14
      clear c14
      have H' := Aside0.mk H
      clear H
      try go_wp2
      replace HO_0 := ak (Kd.R_drew HO_0.out)
      replace HK := ak (Kept.drew HK.out)
      replace HB := ak (below_drew1 HB.out)
      obtain ⟨Ao18, co18, eo18⟩ := Kd.R_slice HO_0.out
      (first | subst eo18 | (injection eo18 with f1_ f2_ f3_; have f4_ := f1_.symm; have f5_ := f3_.symm; clear f1_ f2_ f3_; subst f4_; subst f5_))
      have p240 : 0 ≤ ((ji8) : Int) := da
      have q240 : (ji8) < (l0.length : Int) := da
      obtain ⟨ad240, e240, hx240_0⟩ := Kd.at_string (Kd.R_reads' HO_0.out).2.2 (ji8) p240 q240
      cases e240
      replace p240 := eq_true p240; replace q240 := eq_true q240
      have p241 : 0 ≤ (a1 : Int) := da
      have q241 : a1 < (l0.length : Int) := da
      obtain ⟨ad241, e241, hx241_0⟩ := Kd.at_string (Kd.R_reads' HO_0.out).2.2 a1 p241 q241
      obtain rfl : ad240 = ad241 := (by injection e241)
      replace p241 := eq_true p241; replace q241 := eq_true q241
      refine start_ (n := 11) (S := fun w' => w'.cell? (ad240.add ((ji8)).toNat) = some (.string (rdOf ByteArray.empty l0 (ji8))) ∧ w'.cell? (ad240.add (a1).toNat) = some (.string (rdOf ByteArray.empty l0 a1))) (ds := []) (bl 11 0) (by kernel_rfl) rfl rfl ⟨hx240_0, hx241_0⟩ (fun hHeld => ?_); refine with_tabW slices_symMergeCmpFunc_45_at_39.tab5 slices_symMergeCmpFunc_45_at_39.bits5 (fun HT_ HW_ => ?_)
      generalize wr.drew = w17 at HO_0 HK HB hx240_0 hx241_0 hHeld ⊢
      refine pureA 0 (some 40) 11 1 HT_ ?_
      refine pureA 1 (some 41) 11 3 HT_ ?_
      refine pureA 2 (some 42) 11 7 HT_ ?_
      refine pureA 3 (some 43) 11 15 HT_ ?_
      refine pureA 5 (some 45) 11 47 HT_ ?_
      refine pureA 6 (some 46) 11 111 HT_ ?_
      refine pureA 7 (some 47) 11 239 HT_ ?_
      refine takeA 4 (some 44) 11 255 HT_ HW_ hHeld ?_ (hy := by rintro w' ⟨s0, s1⟩; go_simp; with_reducible rfl)
      refine takeA 8 (some 48) 11 511 HT_ HW_ hHeld ?_ (hy := by rintro w' ⟨s0, s1⟩; go_simp; with_reducible rfl)
      refine oneA 9 (some 49) 11 1023 HT_ (fun K hK => ?_)
      refine goesVs_ Try.func39 (by kernel_rfl) rfl #[.string (rdOf ByteArray.empty l0 (ji8)), .string (rdOf ByteArray.empty l0 a1)] (by rfl) rfl rfl rfl (by (try simp only [List.map_toArray, List.map_cons, List.map_nil]); first | done | (simp only [hji8]; rfl) | rfl | (simp only [List.length_drop, List.length_take]; rfl)) ?_
      with_reducible refine (impl_Net_inbox_1.calls (rdOf ByteArray.empty l0 (ji8)) (rdOf ByteArray.empty l0 a1) t242 _ A13.out).mono ?_
      rintro e w' ⟨rfl, ⟨nd, rfl⟩⟩
      refine ⟨_, rfl, ?_⟩
      refine hK.out _ _ ⟨hHeld.1, hHeld.2⟩ (fun hHeld => ?_)
      clear hK K
      refine norm_ (a' := ?_) ?_ ?_
      rotate_left
      ·show Act.put _ (some 49) _ = _
       simp only [Act.put, List.setIfInBounds_toArray, List.set_cons_zero, List.set_cons_succ, i64_w, i32_w]
       rfl
      refine pureA 10 (some 50) 11 2047 HT_ ?_
      refine done_ (done_of HT_.out (by kernel_rfl)) ?_
      try go_wp2
      go_roundg k1
      case measure => have := HK1.out; omega
      case rel => exact ⟨(x10_1), (ji8), er, (by first | rfl | (simp; done) | (simp only [← hji8] <;> (first | rfl | simp)) | (simp [*]; done)), H', ⟨by have := HK1.out; omega⟩, ⟨rdl HO_0⟩, ⟨by repeat (first | (with_reducible first | exact HK.out | apply Kept.alloc | apply Kept.drewN | apply Kept.drew) | exact HK.out)⟩, ⟨belowd HB⟩⟩
    ·rw [if_neg c7] at H
     have c7b0 : decide (x10_1 < x11_1) = false := decide_eq_false c7
     clear c7
     have H' := Aside0.mk H
     clear H; go_wp2
     go_loopg [13] k1 (fun kq v13 w' => ∃ (x0_2 : List ByteArray) (x13_2 : Int), v13 = .int .i64 x13_2 ∧ Aside0 (slices_symMergeCmpFunc_45_at_39.l1 kq x0_2 x10_1 x13_2 = some r) ∧ Aside0 (kq ≤ k1) ∧ Aside0 (Kd.R Kd.string 9 w' w0.heap.size (fun k_ => (P0_ k_ ∨ w.heap.size ≤ k_)) u9000_ x0_2) ∧ Aside0 (Kept w w' (fun k_ => P0_ k_)) ∧ Aside0 (Below w0.heap.size w0 w'))
     case atStart => exact ⟨(l0), (a1), er, H', ⟨Nat.le_refl _⟩, ⟨rdl HO_0⟩, ⟨by repeat (first | (with_reducible first | exact HK.out | apply Kept.alloc | apply Kept.drewN | apply Kept.drew) | exact HK.out)⟩, ⟨belowd HB⟩⟩
     case round => as_aux_lemma =>
      clear H'
      (try clear c7b0)
      obtain ⟨x0_2, x13_2, rfl, HA, HK2, HO_0, HK, HB⟩ := hrel
      cases gk with
      | zero => exact absurd HA.out (by simp [slices_symMergeCmpFunc_45_at_39.l1])
      | succ k2 =>
       have H := HA.out; clear HA
       simp only [slices_symMergeCmpFunc_45_at_39.l1] at H
       by_cases c19 : x13_2 < (wrap64 (x10_1 - 1))
       ·rw [if_pos c19] at H
        have c19b0 : decide (x13_2 < (wrap64 (x10_1 - 1))) = true := decide_eq_true c19
        clear c19
        obtain ⟨ji20, hji20⟩ : ∃ j_ : Int, (wrap64 (x13_2 + 1)) = j_ := ⟨_, rfl⟩
        replace H : (if 0 ≤ (ji20) then (if (ji20) < (x0_2.length : Int) then (if 0 ≤ x13_2 then (if x13_2 < (x0_2.length : Int) then (slices_symMergeCmpFunc_45_at_39.l1 k2 ((x0_2.set (x13_2 : Int).toNat (rdOf ByteArray.empty x0_2 (ji20))).set ((ji20) : Int).toNat (rdOf ByteArray.empty x0_2 x13_2)) x10_1 ji20) else (none)) else (none)) else (none)) else (none)) = some r := by first | (rw [hji20] at H; exact H) | (simp only [hji20] at H ⊢; exact H)
        have hji20w : (IntKind.i64.wrap (x13_2 + 1)) = ji20 := (i64_w _).trans hji20
        replace H := ifS H; obtain ⟨c21, H⟩ := H; have c21b0 := decide_eq_true c21; clear c21; replace H := ifS H; obtain ⟨c22, H⟩ := H; have c22b0 := decide_eq_true c22; clear c22; replace H := ifS H; obtain ⟨c23, H⟩ := H; have c23b0 := decide_eq_true c23; clear c23; replace H := ifS H; obtain ⟨c24, H⟩ := H; have c24b0 := decide_eq_true c24; clear c24
        obtain ⟨y245, hy_⟩ : ∃ y_ : List ByteArray, y_ = (x0_2.set (x13_2 : Int).toNat (rdOf ByteArray.empty x0_2 (ji20))) := ⟨_, rfl⟩
        replace H : (slices_symMergeCmpFunc_45_at_39.l1 k2 (y245.set ((ji20) : Int).toNat (rdOf ByteArray.empty x0_2 x13_2)) x10_1 ji20) = some r := yH
        have Ny245 := ak hy_; clear hy_
        obtain ⟨y246, hy_⟩ : ∃ y_ : List ByteArray, y_ = (y245.set ((ji20) : Int).toNat (rdOf ByteArray.empty x0_2 x13_2)) := ⟨_, rfl⟩
        replace H : (slices_symMergeCmpFunc_45_at_39.l1 k2 y246 x10_1 ji20) = some r := yH
        have Ny246 := ak hy_; clear hy_
        have H' := Aside0.mk H
        clear H
        try go_wp2
        replace HO_0 := ak (Kd.R_drew HO_0.out)
        replace HK := ak (Kept.drew HK.out)
        replace HB := ak (below_drew1 HB.out)
        obtain ⟨Ao28, co28, eo28⟩ := Kd.R_slice HO_0.out
        (first | subst eo28 | (injection eo28 with f1_ f2_ f3_; have f4_ := f1_.symm; have f5_ := f3_.symm; clear f1_ f2_ f3_; subst f4_; subst f5_))
        have p243 : 0 ≤ ((ji20) : Int) := da
        have q243 : (ji20) < (x0_2.length : Int) := da
        obtain ⟨ad243, e243, hx243_0⟩ := Kd.at_string (Kd.R_reads' HO_0.out).2.2 (ji20) p243 q243
        cases e243
        replace p243 := eq_true p243; replace q243 := eq_true q243
        have p244 : 0 ≤ (x13_2 : Int) := da
        have q244 : x13_2 < (x0_2.length : Int) := da
        obtain ⟨ad244, e244, hx244_0⟩ := Kd.at_string (Kd.R_reads' HO_0.out).2.2 x13_2 p244 q244
        obtain rfl : ad243 = ad244 := (by injection e244)
        replace p244 := eq_true p244; replace q244 := eq_true q244
        have p25 : 0 ≤ (x13_2 : Int) := da
        have q25 : (x13_2 : Int) < ((x0_2.length : Int) : Int) := da
        obtain ⟨go25, co25, eo25, gb25, gl25, cl25, HG25⟩ := Kd.R_form HO_0.out (by omega)
        (first | cases eo25 | (injection eo25 with ea_ en_ ec_; (first | subst ea_ | (injection ea_ with ea_; subst ea_)); subst ec_; clear en_))
        have GB25 := Aside0.mk gb25; have GG25 := Aside0.mk HG25; clear gb25 gl25 HG25
        have HMgo25 := Aside0.mk (show (P0_ go25 ∨ w.heap.size ≤ go25) from (HO_0.out.1 _ rfl))
        (first | simp only [add_plain] at hx243_0 | skip)
        (first | simp only [add_plain] at hx244_0 | skip)
        obtain ⟨hx25_0, hf25_0⟩ := Kd.R_celln (⟨#[]⟩ : ByteArray) HO_0.out (x13_2 : Int) p25 q25
        replace p25 := eq_true p25; replace q25 := eq_true q25
        have HP29 := Kd.R_putn HO_0.out (x13_2 : Int) (rdOf ByteArray.empty x0_2 (ji20))
        rw [← Ny245.out] at HP29
        have HQ29 := Aside0.mk HP29; clear HP29
        have p26 : 0 ≤ ((ji20) : Int) := da
        have q26 : ((ji20) : Int) < ((x0_2.length : Int) : Int) := da
        obtain ⟨hx26_0, hf26_0⟩ := Kd.R_celln (⟨#[]⟩ : ByteArray) HQ29.out ((ji20) : Int) p26 q26
        replace p26 := eq_true p26; replace q26 := eq_true q26
        have HP30 := Kd.R_putn HQ29.out ((ji20) : Int) (rdOf ByteArray.empty x0_2 x13_2)
        rw [← Ny246.out] at HP30
        have HQ30 := Aside0.mk HP30; clear HP30
        refine start_ (n := 18) (S := fun w' => w'.cell? ⟨go25, ((ji20)).toNat, none⟩ = some (.string (rdOf ByteArray.empty x0_2 (ji20))) ∧ w'.cell? ⟨go25, (x13_2).toNat, none⟩ = some (.string (rdOf ByteArray.empty x0_2 x13_2))) (ds := [15, 17]) (bl 18 0) (by kernel_rfl) rfl rfl ⟨hx243_0, hx244_0⟩ (fun hHeld => ?_); refine with_tabW slices_symMergeCmpFunc_45_at_39.tab11 slices_symMergeCmpFunc_45_at_39.bits11 (fun HT_ HW_ => ?_)
        generalize wr.drew = w27 at HO_0 HK HB GG25 HQ29 HQ30 hf25_0 hf26_0 hx243_0 hx244_0 hx25_0 hx26_0 hHeld ⊢
        refine pureA 0 (some 61) 18 1 HT_ ?_
        refine pureA 1 (some 62) 18 3 HT_ ?_
        refine pureA 2 (some 63) 18 7 HT_ ?_
        refine pureA 3 (some 64) 18 15 HT_ ?_
        refine pureA 4 (some 65) 18 31 HT_ ?_
        refine pureA 5 (some 66) 18 63 HT_ ?_
        refine pureA 6 (some 67) 18 127 HT_ ?_
        refine pureA 7 (some 68) 18 255 HT_ ?_
        refine pureA 8 (some 69) 18 511 HT_ ?_
        refine pureA 10 (some 71) 18 1535 HT_ ?_
        refine pureA 11 (some 72) 18 3583 HT_ ?_
        refine pureA 12 (some 73) 18 7679 HT_ ?_
        refine takeA 9 (some 70) 18 8191 HT_ HW_ hHeld ?_ (hy := by rintro w' ⟨s0, s1⟩; go_simp; with_reducible rfl)
        refine takeA 13 (some 74) 18 16383 HT_ HW_ hHeld ?_ (hy := by rintro w' ⟨s0, s1⟩; go_simp; with_reducible rfl)
        refine pureA 14 (some 75) 18 32767 HT_ ?_
        refine last_ (i := 15) (N := none) (bl 18 65535) rfl rfl (one_of HT_.out (by kernel_rfl)) (by decide) (fun K hK => ?_)
        refine skip_ (w1 := ?_) (by rfl) rfl ?_ ?_
        rotate_left
        ·go_simp
         rfl
        refine hK.out _ _ ?_
        clear hK K
        refine pureA 16 (some 76) 18 131071 HT_ ?_
        refine last_ (i := 17) (N := none) (bl 18 262143) rfl rfl (one_of HT_.out (by kernel_rfl)) (by decide) (fun K hK => ?_)
        refine skip_ (w1 := ?_) (by rfl) rfl ?_ ?_
        rotate_left
        ·go_simp
         rfl
        refine hK.out _ _ ?_
        clear hK K
        refine done_ (done_of HT_.out (by kernel_rfl)) ?_
        try go_wp2
        (first | go_roundg k2 | ((try rw [← add_plain go25 ((ji20) : Int).toNat]); (try rw [← add_plain go25 (x13_2 : Int).toNat]); go_roundg k2))
        case measure => have := HK1.out; have := HK2.out; omega
        case rel => exact ⟨(y246), (ji20), (by first | rfl | (simp; done) | (simp only [← hji20] <;> (first | rfl | simp)) | (simp [*]; done)), H', ⟨by have := HK1.out; have := HK2.out; omega⟩, ⟨rdl HQ30⟩, ⟨by repeat (first | (with_reducible first | exact HK.out | apply Kept.alloc | apply Kept.drewN | apply Kept.drew | refine Kept.setCell ?_ HMgo25.out _ | refine Kept.setCell ?_ HMgo25.out _) | exact HK.out)⟩, ⟨by repeat (first | (with_reducible first | exact HB.out | apply below_alloc | apply pw_below_drewN | apply below_drew1 | refine below_set ?_ GB25.out | refine below_set ?_ GB25.out) | exact HB.out)⟩⟩
       ·rw [if_neg c19] at H
        have c19b0 : decide (x13_2 < (wrap64 (x10_1 - 1))) = false := decide_eq_false c19
        clear c19
        obtain rfl := Option.some.inj H
        go_wp2
        first | go_end0 | ((try simp only [Exit.inBlock, Exit.then]); refine bodyPost_ret (results_none rfl _ _ _) rfl ?_)
        exact ⟨er2, by (with_reducible repeat (first | apply Kd.R_alloc | apply Kd.R_drewN | apply Kd.R_drew)); exact HO_0.out, belowd HB, by repeat (first | (with_reducible first | exact HK.out | apply Kept.alloc | apply Kept.drewN | apply Kept.drew) | exact HK.out)⟩
 ·rw [if_neg c6] at H
  have c6b0 : ((wrap64 (a2 - a1)) == 1) = false := beq_eq_false_iff_ne.mpr c6
  have c6b1 : ((wrap64 (a2 - a1)) != 1) = true := bne_iff_ne.mpr c6
  by_cases c31 : (wrap64 (a3 - a2)) = 1
  ·rw [if_pos c31] at H
   have c31b0 : ((wrap64 (a3 - a2)) == 1) = true := beq_iff_eq.mpr c31
   have c31b1 : ((wrap64 (a3 - a2)) != 1) = false := bne_eq_false_iff_eq.mpr c31
   clear c31
   have H' := Aside0.mk H
   clear H
   go_enter Try.func45, Try.ntmps45
   go_wp2
   go_loopg [14, 15] k (fun kq v14 v15 w' => ∃ (x14_1 : Int) (x15_1 : Int), v14 = .int .i64 x14_1 ∧ v15 = .int .i64 x15_1 ∧ Aside0 (slices_symMergeCmpFunc_45_at_39.l2 kq l0 a2 x14_1 x15_1 = some r) ∧ Aside0 (kq ≤ k) ∧ Aside0 (Kd.R Kd.string 9 w' w0.heap.size (fun k_ => (P0_ k_ ∨ w.heap.size ≤ k_)) u9000_ l0) ∧ Aside0 (Kept w w' (fun k_ => P0_ k_)) ∧ Aside0 (Below w0.heap.size w0 w'))
   case atStart => exact ⟨(a1), (a2), er, er, H', ⟨Nat.le_refl _⟩, ⟨rdl HO0⟩, ⟨by repeat (first | (with_reducible first | exact HK.out | apply Kept.alloc | apply Kept.drewN | apply Kept.drew) | exact HK.out)⟩, ⟨belowd HB⟩⟩
   case round => as_aux_lemma =>
    clear H'
    (try clear c6); (try clear c6b0); (try clear c6b1); (try clear c31b0); (try clear c31b1)
    obtain ⟨x14_1, x15_1, rfl, rfl, HA, HK1, HO_0, HK, HB⟩ := hrel
    cases gk with
    | zero => exact absurd HA.out (by simp [slices_symMergeCmpFunc_45_at_39.l2])
    | succ k1 =>
     have H := HA.out; clear HA
     simp only [slices_symMergeCmpFunc_45_at_39.l2] at H
     by_cases c32 : x14_1 < x15_1
     ·rw [if_pos c32] at H
      have c32b0 : decide (x14_1 < x15_1) = true := decide_eq_true c32
      clear c32; replace H := ifS H; obtain ⟨c33, H⟩ := H; have c33b0 := decide_eq_true c33; clear c33; replace H := ifS H; obtain ⟨c34, H⟩ := H; have c34b0 := decide_eq_true c34; clear c34
      obtain ⟨ji35, hji35⟩ : ∃ j_ : Int, (wrap64 ((IntKind.u64.wrap (wrap64 (x14_1 + x15_1))) / 2)) = j_ := ⟨_, rfl⟩
      replace H : (if 0 ≤ (ji35) then (if (ji35) < (l0.length : Int) then ((impl_Net_inbox_1.f (rdOf ByteArray.empty l0 a2) (rdOf ByteArray.empty l0 (ji35))).bind fun t249 => (if t249 < 0 then (slices_symMergeCmpFunc_45_at_39.l2 k1 l0 a2 x14_1 ji35) else (slices_symMergeCmpFunc_45_at_39.l2 k1 l0 a2 (wrap64 ((ji35) + 1)) x15_1))) else (none)) else (none)) = some r := by first | (rw [hji35] at H; exact H) | (simp only [hji35] at H ⊢; exact H)
      have hji35w : (IntKind.i64.wrap ((IntKind.u64.wrap (wrap64 (x14_1 + x15_1))) / 2)) = ji35 := (i64_w _).trans hji35
      replace H := ifS H; obtain ⟨c36, H⟩ := H; have c36b0 := decide_eq_true c36; clear c36; replace H := ifS H; obtain ⟨c37, H⟩ := H; have c37b0 := decide_eq_true c37; clear c37; replace H := bS H; obtain ⟨t249, A38, H⟩ := H
      replace H : (if t249 < 0 then (slices_symMergeCmpFunc_45_at_39.l2 k1 l0 a2 x14_1 ji35) else (slices_symMergeCmpFunc_45_at_39.l2 k1 l0 a2 (wrap64 ((ji35) + 1)) x15_1)) = some r := H
      by_cases c39 : t249 < 0
      ·rw [if_pos c39] at H
       have c39b0 : decide (t249 < 0) = true := decide_eq_true c39
       clear c39
       have H' := Aside0.mk H
       clear H
       try go_wp2
       replace HO_0 := ak (Kd.R_drew HO_0.out)
       replace HK := ak (Kept.drew HK.out)
       replace HB := ak (below_drew1 HB.out)
       obtain ⟨Ao41, co41, eo41⟩ := Kd.R_slice HO_0.out
       (first | subst eo41 | (injection eo41 with f1_ f2_ f3_; have f4_ := f1_.symm; have f5_ := f3_.symm; clear f1_ f2_ f3_; subst f4_; subst f5_))
       have p247 : 0 ≤ (a2 : Int) := da
       have q247 : a2 < (l0.length : Int) := da
       obtain ⟨ad247, e247, hx247_0⟩ := Kd.at_string (Kd.R_reads' HO_0.out).2.2 a2 p247 q247
       cases e247
       replace p247 := eq_true p247; replace q247 := eq_true q247
       have p248 : 0 ≤ ((ji35) : Int) := da
       have q248 : (ji35) < (l0.length : Int) := da
       obtain ⟨ad248, e248, hx248_0⟩ := Kd.at_string (Kd.R_reads' HO_0.out).2.2 (ji35) p248 q248
       obtain rfl : ad247 = ad248 := (by injection e248)
       replace p248 := eq_true p248; replace q248 := eq_true q248
       refine start_ (n := 12) (S := fun w' => w'.cell? (ad247.add (a2).toNat) = some (.string (rdOf ByteArray.empty l0 a2)) ∧ w'.cell? (ad247.add ((ji35)).toNat) = some (.string (rdOf ByteArray.empty l0 (ji35)))) (ds := []) (bl 12 0) (by kernel_rfl) rfl rfl ⟨hx247_0, hx248_0⟩ (fun hHeld => ?_); refine with_tabW slices_symMergeCmpFunc_45_at_39.tab17 slices_symMergeCmpFunc_45_at_39.bits17 (fun HT_ HW_ => ?_)
       generalize wr.drew = w40 at HO_0 HK HB hx247_0 hx248_0 hHeld ⊢
       refine pureA 0 (some 92) 12 1 HT_ ?_
       refine pureA 1 (some 93) 12 3 HT_ ?_
       refine pureA 2 (some 94) 12 7 HT_ ?_
       refine pureA 3 (some 95) 12 15 HT_ ?_
       refine pureA 5 (some 97) 12 47 HT_ ?_
       refine pureA 6 (some 98) 12 111 HT_ ?_
       refine pureA 7 (some 99) 12 239 HT_ ?_
       refine takeA 4 (some 96) 12 255 HT_ HW_ hHeld ?_ (hy := by rintro w' ⟨s0, s1⟩; go_simp; with_reducible rfl)
       refine takeA 8 (some 100) 12 511 HT_ HW_ hHeld ?_ (hy := by rintro w' ⟨s0, s1⟩; go_simp; with_reducible rfl)
       refine oneA 9 (some 101) 12 1023 HT_ (fun K hK => ?_)
       refine goesVs_ Try.func39 (by kernel_rfl) rfl #[.string (rdOf ByteArray.empty l0 a2), .string (rdOf ByteArray.empty l0 (ji35))] (by rfl) rfl rfl rfl (by (try simp only [List.map_toArray, List.map_cons, List.map_nil]); first | done | (simp only [hji35]; rfl) | rfl | (simp only [List.length_drop, List.length_take]; rfl)) ?_
       with_reducible refine (impl_Net_inbox_1.calls (rdOf ByteArray.empty l0 a2) (rdOf ByteArray.empty l0 (ji35)) t249 _ A38.out).mono ?_
       rintro e w' ⟨rfl, ⟨nd, rfl⟩⟩
       refine ⟨_, rfl, ?_⟩
       refine hK.out _ _ ⟨hHeld.1, hHeld.2⟩ (fun hHeld => ?_)
       clear hK K
       refine norm_ (a' := ?_) ?_ ?_
       rotate_left
       ·show Act.put _ (some 101) _ = _
        simp only [Act.put, List.setIfInBounds_toArray, List.set_cons_zero, List.set_cons_succ, i64_w, i32_w]
        rfl
       refine pureA 10 (some 102) 12 2047 HT_ ?_
       refine pureA 11 (some 103) 12 4095 HT_ ?_
       refine done_ (done_of HT_.out (by kernel_rfl)) ?_
       try go_wp2
       go_roundg k1
       case measure => have := HK1.out; omega
       case rel => exact ⟨(x14_1), (ji35), er, (by first | rfl | (simp; done) | (simp only [← hji35] <;> (first | rfl | simp)) | (simp [*]; done)), H', ⟨by have := HK1.out; omega⟩, ⟨rdl HO_0⟩, ⟨by repeat (first | (with_reducible first | exact HK.out | apply Kept.alloc | apply Kept.drewN | apply Kept.drew) | exact HK.out)⟩, ⟨belowd HB⟩⟩
      ·rw [if_neg c39] at H
       have c39b0 : decide (t249 < 0) = false := decide_eq_false c39
       clear c39
       have H' := Aside0.mk H
       clear H
       try go_wp2
       replace HO_0 := ak (Kd.R_drew HO_0.out)
       replace HK := ak (Kept.drew HK.out)
       replace HB := ak (below_drew1 HB.out)
       obtain ⟨Ao43, co43, eo43⟩ := Kd.R_slice HO_0.out
       (first | subst eo43 | (injection eo43 with f1_ f2_ f3_; have f4_ := f1_.symm; have f5_ := f3_.symm; clear f1_ f2_ f3_; subst f4_; subst f5_))
       have p247 : 0 ≤ (a2 : Int) := da
       have q247 : a2 < (l0.length : Int) := da
       obtain ⟨ad247, e247, hx247_0⟩ := Kd.at_string (Kd.R_reads' HO_0.out).2.2 a2 p247 q247
       cases e247
       replace p247 := eq_true p247; replace q247 := eq_true q247
       have p248 : 0 ≤ ((ji35) : Int) := da
       have q248 : (ji35) < (l0.length : Int) := da
       obtain ⟨ad248, e248, hx248_0⟩ := Kd.at_string (Kd.R_reads' HO_0.out).2.2 (ji35) p248 q248
       obtain rfl : ad247 = ad248 := (by injection e248)
       replace p248 := eq_true p248; replace q248 := eq_true q248
       refine start_ (n := 12) (S := fun w' => w'.cell? (ad247.add (a2).toNat) = some (.string (rdOf ByteArray.empty l0 a2)) ∧ w'.cell? (ad247.add ((ji35)).toNat) = some (.string (rdOf ByteArray.empty l0 (ji35)))) (ds := []) (bl 12 0) (by kernel_rfl) rfl rfl ⟨hx247_0, hx248_0⟩ (fun hHeld => ?_); refine with_tabW slices_symMergeCmpFunc_45_at_39.tab17 slices_symMergeCmpFunc_45_at_39.bits17 (fun HT_ HW_ => ?_)
       generalize wr.drew = w42 at HO_0 HK HB hx247_0 hx248_0 hHeld ⊢
       refine pureA 0 (some 92) 12 1 HT_ ?_
       refine pureA 1 (some 93) 12 3 HT_ ?_
       refine pureA 2 (some 94) 12 7 HT_ ?_
       refine pureA 3 (some 95) 12 15 HT_ ?_
       refine pureA 5 (some 97) 12 47 HT_ ?_
       refine pureA 6 (some 98) 12 111 HT_ ?_
       refine pureA 7 (some 99) 12 239 HT_ ?_
       refine takeA 4 (some 96) 12 255 HT_ HW_ hHeld ?_ (hy := by rintro w' ⟨s0, s1⟩; go_simp; with_reducible rfl)
       refine takeA 8 (some 100) 12 511 HT_ HW_ hHeld ?_ (hy := by rintro w' ⟨s0, s1⟩; go_simp; with_reducible rfl)
       refine oneA 9 (some 101) 12 1023 HT_ (fun K hK => ?_)
       refine goesVs_ Try.func39 (by kernel_rfl) rfl #[.string (rdOf ByteArray.empty l0 a2), .string (rdOf ByteArray.empty l0 (ji35))] (by rfl) rfl rfl rfl (by (try simp only [List.map_toArray, List.map_cons, List.map_nil]); first | done | (simp only [hji35]; rfl) | rfl | (simp only [List.length_drop, List.length_take]; rfl)) ?_
       with_reducible refine (impl_Net_inbox_1.calls (rdOf ByteArray.empty l0 a2) (rdOf ByteArray.empty l0 (ji35)) t249 _ A38.out).mono ?_
       rintro e w' ⟨rfl, ⟨nd, rfl⟩⟩
       refine ⟨_, rfl, ?_⟩
       refine hK.out _ _ ⟨hHeld.1, hHeld.2⟩ (fun hHeld => ?_)
       clear hK K
       refine norm_ (a' := ?_) ?_ ?_
       rotate_left
       ·show Act.put _ (some 101) _ = _
        simp only [Act.put, List.setIfInBounds_toArray, List.set_cons_zero, List.set_cons_succ, i64_w, i32_w]
        rfl
       refine pureA 10 (some 102) 12 2047 HT_ ?_
       refine pureA 11 (some 103) 12 4095 HT_ ?_
       refine done_ (done_of HT_.out (by kernel_rfl)) ?_
       try go_wp2
       go_roundg k1
       case measure => have := HK1.out; omega
       case rel => exact ⟨(wrap64 ((ji35) + 1)), (x15_1), (by first | rfl | (simp; done) | (simp only [← hji35] <;> (first | rfl | simp)) | (simp [*]; done)), er, H', ⟨by have := HK1.out; omega⟩, ⟨rdl HO_0⟩, ⟨by repeat (first | (with_reducible first | exact HK.out | apply Kept.alloc | apply Kept.drewN | apply Kept.drew) | exact HK.out)⟩, ⟨belowd HB⟩⟩
     ·rw [if_neg c32] at H
      have c32b0 : decide (x14_1 < x15_1) = false := decide_eq_false c32
      clear c32
      have H' := Aside0.mk H
      clear H; go_wp2
      go_loopg [17] k1 (fun kq v17 w' => ∃ (x0_2 : List ByteArray) (x17_2 : Int), v17 = .int .i64 x17_2 ∧ Aside0 (slices_symMergeCmpFunc_45_at_39.l3 kq x0_2 x14_1 x17_2 = some r) ∧ Aside0 (kq ≤ k1) ∧ Aside0 (Kd.R Kd.string 9 w' w0.heap.size (fun k_ => (P0_ k_ ∨ w.heap.size ≤ k_)) u9000_ x0_2) ∧ Aside0 (Kept w w' (fun k_ => P0_ k_)) ∧ Aside0 (Below w0.heap.size w0 w'))
      case atStart => exact ⟨(l0), (a2), er, H', ⟨Nat.le_refl _⟩, ⟨rdl HO_0⟩, ⟨by repeat (first | (with_reducible first | exact HK.out | apply Kept.alloc | apply Kept.drewN | apply Kept.drew) | exact HK.out)⟩, ⟨belowd HB⟩⟩
      case round => as_aux_lemma =>
       clear H'
       (try clear c32b0)
       obtain ⟨x0_2, x17_2, rfl, HA, HK2, HO_0, HK, HB⟩ := hrel
       cases gk with
       | zero => exact absurd HA.out (by simp [slices_symMergeCmpFunc_45_at_39.l3])
       | succ k2 =>
        have H := HA.out; clear HA
        simp only [slices_symMergeCmpFunc_45_at_39.l3] at H
        by_cases c44 : x17_2 > x14_1
        ·rw [if_pos c44] at H
         have c44b0 : decide (x14_1 < x17_2) = true := decide_eq_true c44
         clear c44
         obtain ⟨ji45, hji45⟩ : ∃ j_ : Int, (wrap64 (x17_2 - 1)) = j_ := ⟨_, rfl⟩
         replace H : (if 0 ≤ (ji45) then (if (ji45) < (x0_2.length : Int) then (if 0 ≤ x17_2 then (if x17_2 < (x0_2.length : Int) then (slices_symMergeCmpFunc_45_at_39.l3 k2 ((x0_2.set (x17_2 : Int).toNat (rdOf ByteArray.empty x0_2 (ji45))).set ((ji45) : Int).toNat (rdOf ByteArray.empty x0_2 x17_2)) x14_1 ji45) else (none)) else (none)) else (none)) else (none)) = some r := by first | (rw [hji45] at H; exact H) | (simp only [hji45] at H ⊢; exact H)
         have hji45w : (IntKind.i64.wrap (x17_2 - 1)) = ji45 := (i64_w _).trans hji45
         replace H := ifS H; obtain ⟨c46, H⟩ := H; have c46b0 := decide_eq_true c46; clear c46; replace H := ifS H; obtain ⟨c47, H⟩ := H; have c47b0 := decide_eq_true c47; clear c47; replace H := ifS H; obtain ⟨c48, H⟩ := H; have c48b0 := decide_eq_true c48; clear c48; replace H := ifS H; obtain ⟨c49, H⟩ := H; have c49b0 := decide_eq_true c49; clear c49
         obtain ⟨y252, hy_⟩ : ∃ y_ : List ByteArray, y_ = (x0_2.set (x17_2 : Int).toNat (rdOf ByteArray.empty x0_2 (ji45))) := ⟨_, rfl⟩
         replace H : (slices_symMergeCmpFunc_45_at_39.l3 k2 (y252.set ((ji45) : Int).toNat (rdOf ByteArray.empty x0_2 x17_2)) x14_1 ji45) = some r := yH
         have Ny252 := ak hy_; clear hy_
         obtain ⟨y253, hy_⟩ : ∃ y_ : List ByteArray, y_ = (y252.set ((ji45) : Int).toNat (rdOf ByteArray.empty x0_2 x17_2)) := ⟨_, rfl⟩
         replace H : (slices_symMergeCmpFunc_45_at_39.l3 k2 y253 x14_1 ji45) = some r := yH
         have Ny253 := ak hy_; clear hy_
         have H' := Aside0.mk H
         clear H
         try go_wp2
         replace HO_0 := ak (Kd.R_drew HO_0.out)
         replace HK := ak (Kept.drew HK.out)
         replace HB := ak (below_drew1 HB.out)
         obtain ⟨Ao53, co53, eo53⟩ := Kd.R_slice HO_0.out
         (first | subst eo53 | (injection eo53 with f1_ f2_ f3_; have f4_ := f1_.symm; have f5_ := f3_.symm; clear f1_ f2_ f3_; subst f4_; subst f5_))
         have p250 : 0 ≤ ((ji45) : Int) := da
         have q250 : (ji45) < (x0_2.length : Int) := da
         obtain ⟨ad250, e250, hx250_0⟩ := Kd.at_string (Kd.R_reads' HO_0.out).2.2 (ji45) p250 q250
         cases e250
         replace p250 := eq_true p250; replace q250 := eq_true q250
         have p251 : 0 ≤ (x17_2 : Int) := da
         have q251 : x17_2 < (x0_2.length : Int) := da
         obtain ⟨ad251, e251, hx251_0⟩ := Kd.at_string (Kd.R_reads' HO_0.out).2.2 x17_2 p251 q251
         obtain rfl : ad250 = ad251 := (by injection e251)
         replace p251 := eq_true p251; replace q251 := eq_true q251
         have p50 : 0 ≤ (x17_2 : Int) := da
         have q50 : (x17_2 : Int) < ((x0_2.length : Int) : Int) := da
         obtain ⟨go50, co50, eo50, gb50, gl50, cl50, HG50⟩ := Kd.R_form HO_0.out (by omega)
         (first | cases eo50 | (injection eo50 with ea_ en_ ec_; (first | subst ea_ | (injection ea_ with ea_; subst ea_)); subst ec_; clear en_))
         have GB50 := Aside0.mk gb50; have GG50 := Aside0.mk HG50; clear gb50 gl50 HG50
         have HMgo50 := Aside0.mk (show (P0_ go50 ∨ w.heap.size ≤ go50) from (HO_0.out.1 _ rfl))
         (first | simp only [add_plain] at hx250_0 | skip)
         (first | simp only [add_plain] at hx251_0 | skip)
         obtain ⟨hx50_0, hf50_0⟩ := Kd.R_celln (⟨#[]⟩ : ByteArray) HO_0.out (x17_2 : Int) p50 q50
         replace p50 := eq_true p50; replace q50 := eq_true q50
         have HP54 := Kd.R_putn HO_0.out (x17_2 : Int) (rdOf ByteArray.empty x0_2 (ji45))
         rw [← Ny252.out] at HP54
         have HQ54 := Aside0.mk HP54; clear HP54
         have p51 : 0 ≤ ((ji45) : Int) := da
         have q51 : ((ji45) : Int) < ((x0_2.length : Int) : Int) := da
         obtain ⟨hx51_0, hf51_0⟩ := Kd.R_celln (⟨#[]⟩ : ByteArray) HQ54.out ((ji45) : Int) p51 q51
         replace p51 := eq_true p51; replace q51 := eq_true q51
         have HP55 := Kd.R_putn HQ54.out ((ji45) : Int) (rdOf ByteArray.empty x0_2 x17_2)
         rw [← Ny253.out] at HP55
         have HQ55 := Aside0.mk HP55; clear HP55
         refine start_ (n := 18) (S := fun w' => w'.cell? ⟨go50, ((ji45)).toNat, none⟩ = some (.string (rdOf ByteArray.empty x0_2 (ji45))) ∧ w'.cell? ⟨go50, (x17_2).toNat, none⟩ = some (.string (rdOf ByteArray.empty x0_2 x17_2))) (ds := [15, 17]) (bl 18 0) (by kernel_rfl) rfl rfl ⟨hx250_0, hx251_0⟩ (fun hHeld => ?_); refine with_tabW slices_symMergeCmpFunc_45_at_39.tab23 slices_symMergeCmpFunc_45_at_39.bits23 (fun HT_ HW_ => ?_)
         generalize wr.drew = w52 at HO_0 HK HB GG50 HQ54 HQ55 hf50_0 hf51_0 hx250_0 hx251_0 hx50_0 hx51_0 hHeld ⊢
         refine pureA 0 (some 113) 18 1 HT_ ?_
         refine pureA 1 (some 114) 18 3 HT_ ?_
         refine pureA 2 (some 115) 18 7 HT_ ?_
         refine pureA 3 (some 116) 18 15 HT_ ?_
         refine pureA 4 (some 117) 18 31 HT_ ?_
         refine pureA 5 (some 118) 18 63 HT_ ?_
         refine pureA 6 (some 119) 18 127 HT_ ?_
         refine pureA 7 (some 120) 18 255 HT_ ?_
         refine pureA 8 (some 121) 18 511 HT_ ?_
         refine pureA 10 (some 123) 18 1535 HT_ ?_
         refine pureA 11 (some 124) 18 3583 HT_ ?_
         refine pureA 12 (some 125) 18 7679 HT_ ?_
         refine takeA 9 (some 122) 18 8191 HT_ HW_ hHeld ?_ (hy := by rintro w' ⟨s0, s1⟩; go_simp; with_reducible rfl)
         refine takeA 13 (some 126) 18 16383 HT_ HW_ hHeld ?_ (hy := by rintro w' ⟨s0, s1⟩; go_simp; with_reducible rfl)
         refine pureA 14 (some 127) 18 32767 HT_ ?_
         refine last_ (i := 15) (N := none) (bl 18 65535) rfl rfl (one_of HT_.out (by kernel_rfl)) (by decide) (fun K hK => ?_)
         refine skip_ (w1 := ?_) (by rfl) rfl ?_ ?_
         rotate_left
         ·go_simp
          rfl
         refine hK.out _ _ ?_
         clear hK K
         refine pureA 16 (some 128) 18 131071 HT_ ?_
         refine last_ (i := 17) (N := none) (bl 18 262143) rfl rfl (one_of HT_.out (by kernel_rfl)) (by decide) (fun K hK => ?_)
         refine skip_ (w1 := ?_) (by rfl) rfl ?_ ?_
         rotate_left
         ·go_simp
          rfl
         refine hK.out _ _ ?_
         clear hK K
         refine done_ (done_of HT_.out (by kernel_rfl)) ?_
         try go_wp2
         (first | go_roundg k2 | ((try rw [← add_plain go50 ((ji45) : Int).toNat]); (try rw [← add_plain go50 (x17_2 : Int).toNat]); go_roundg k2))
         case measure => have := HK1.out; have := HK2.out; omega
         case rel => exact ⟨(y253), (ji45), (by first | rfl | (simp; done) | (simp only [← hji45] <;> (first | rfl | simp)) | (simp [*]; done)), H', ⟨by have := HK1.out; have := HK2.out; omega⟩, ⟨rdl HQ55⟩, ⟨by repeat (first | (with_reducible first | exact HK.out | apply Kept.alloc | apply Kept.drewN | apply Kept.drew | refine Kept.setCell ?_ HMgo50.out _ | refine Kept.setCell ?_ HMgo50.out _) | exact HK.out)⟩, ⟨by repeat (first | (with_reducible first | exact HB.out | apply below_alloc | apply pw_below_drewN | apply below_drew1 | refine below_set ?_ GB50.out | refine below_set ?_ GB50.out) | exact HB.out)⟩⟩
        ·rw [if_neg c44] at H
         have c44b0 : decide (x14_1 < x17_2) = false := decide_eq_false c44
         clear c44
         obtain rfl := Option.some.inj H
         go_wp2
         first | go_end0 | ((try simp only [Exit.inBlock, Exit.then]); refine bodyPost_ret (results_none rfl _ _ _) rfl ?_)
         exact ⟨er2, by (with_reducible repeat (first | apply Kd.R_alloc | apply Kd.R_drewN | apply Kd.R_drew)); exact HO_0.out, belowd HB, by repeat (first | (with_reducible first | exact HK.out | apply Kept.alloc | apply Kept.drewN | apply Kept.drew) | exact HK.out)⟩
  ·rw [if_neg c31] at H
   have c31b0 : ((wrap64 (a3 - a2)) == 1) = false := beq_eq_false_iff_ne.mpr c31
   have c31b1 : ((wrap64 (a3 - a2)) != 1) = true := bne_iff_ne.mpr c31
   have HC56 := Aside0.mk H; clear H
   go_enter Try.func45, Try.ntmps45
   go_upto_if 140 with (fail)
   go_cut [20, 21] (fun v20 v21 wc => ∃ (kq : Nat) (x20_55 : Int) (x21_55 : Int), v20 = .int .i64 x20_55 ∧ v21 = .int .i64 x21_55 ∧ Aside0 (slices_symMergeCmpFunc_45_at_39.j4 kq l0 a1 a2 a3 (wrap64 ((IntKind.u64.wrap (wrap64 (a1 + a3))) / 2)) (wrap64 ((wrap64 ((IntKind.u64.wrap (wrap64 (a1 + a3))) / 2)) + a2)) x20_55 x21_55 = some r) ∧ Aside0 (kq ≤ k) ∧ Aside0 (Kd.R Kd.string 9 wc w0.heap.size (fun k_ => (P0_ k_ ∨ w.heap.size ≤ k_)) u9000_ l0) ∧ Aside0 (Kept w wc (fun k_ => P0_ k_)) ∧ Aside0 (Below w0.heap.size w0 wc))
   case first =>
    have H := HC56.out; clear HC56
    by_cases c57 : a2 > (wrap64 ((IntKind.u64.wrap (wrap64 (a1 + a3))) / 2))
    ·rw [if_pos c57] at H
     have c57b0 : decide ((wrap64 ((IntKind.u64.wrap (wrap64 (a1 + a3))) / 2)) < a2) = true := decide_eq_true c57
     clear c57
     (first | rw [c57b0] | (simp only [i64_w, i32_w]; rw [c57b0]) | skip)
     have H' := Aside0.mk H
     clear H; go_wp2
     go_meet
     case rel => exact ⟨_, (wrap64 ((wrap64 ((wrap64 ((IntKind.u64.wrap (wrap64 (a1 + a3))) / 2)) + a2)) - a3)), (wrap64 ((IntKind.u64.wrap (wrap64 (a1 + a3))) / 2)), er, er, H', ⟨by first | omega | exact Nat.le_refl _⟩, ⟨rdl HO0⟩, ⟨by repeat (first | (with_reducible first | exact HK.out | apply Kept.alloc | apply Kept.drewN | apply Kept.drew) | exact HK.out)⟩, ⟨belowd HB⟩⟩
    ·rw [if_neg c57] at H
     have c57b0 : decide ((wrap64 ((IntKind.u64.wrap (wrap64 (a1 + a3))) / 2)) < a2) = false := decide_eq_false c57
     clear c57
     (first | rw [c57b0] | (simp only [i64_w, i32_w]; rw [c57b0]) | skip)
     have H' := Aside0.mk H
     clear H; go_wp2
     go_meet
     case rel => exact ⟨_, (a1), (a2), er, er, H', ⟨by first | omega | exact Nat.le_refl _⟩, ⟨rdl HO0⟩, ⟨by repeat (first | (with_reducible first | exact HK.out | apply Kept.alloc | apply Kept.drewN | apply Kept.drew) | exact HK.out)⟩, ⟨belowd HB⟩⟩
   case rest => as_aux_lemma =>
    clear HC56; (try clear c6); (try clear c6b0); (try clear c6b1); (try clear c31); (try clear c31b0); (try clear c31b1)
    obtain ⟨kq, x20_55, x21_55, rfl, rfl, HA, HJ55, HO_0, HK, HB⟩ := hcut
    cases kq with
    | zero => exact absurd HA.out (by simp [slices_symMergeCmpFunc_45_at_39.j4])
    | succ kj55 =>
     have H := HA.out; clear HA
     simp only [slices_symMergeCmpFunc_45_at_39.j4] at H
     have H' := Aside0.mk H
     clear H; go_wp2
     go_loopg [20, 21] kj55 (fun kq v20 v21 w' => ∃ (x20_2 : Int) (x21_2 : Int), v20 = .int .i64 x20_2 ∧ v21 = .int .i64 x21_2 ∧ Aside0 (slices_symMergeCmpFunc_45_at_39.l4 kq l0 a1 a2 a3 (wrap64 ((IntKind.u64.wrap (wrap64 (a1 + a3))) / 2)) (wrap64 ((wrap64 ((IntKind.u64.wrap (wrap64 (a1 + a3))) / 2)) + a2)) x20_2 x21_2 (wrap64 ((wrap64 ((wrap64 ((IntKind.u64.wrap (wrap64 (a1 + a3))) / 2)) + a2)) - 1)) = some r) ∧ Aside0 (kq ≤ kj55) ∧ Aside0 (Kd.R Kd.string 9 w' w0.heap.size (fun k_ => (P0_ k_ ∨ w.heap.size ≤ k_)) u9000_ l0) ∧ Aside0 (Kept w w' (fun k_ => P0_ k_)) ∧ Aside0 (Below w0.heap.size w0 w'))
     case atStart => exact ⟨(x20_55), (x21_55), er, er, H', ⟨Nat.le_refl _⟩, ⟨rdl HO_0⟩, ⟨by repeat (first | (with_reducible first | exact HK.out | apply Kept.alloc | apply Kept.drewN | apply Kept.drew) | exact HK.out)⟩, ⟨belowd HB⟩⟩
     case round => as_aux_lemma =>
      clear H'
      obtain ⟨x20_2, x21_2, rfl, rfl, HA, HK2, HO_0, HK, HB⟩ := hrel
      cases gk with
      | zero => exact absurd HA.out (by simp [slices_symMergeCmpFunc_45_at_39.l4])
      | succ k2 =>
       have H := HA.out; clear HA
       simp only [slices_symMergeCmpFunc_45_at_39.l4] at H
       by_cases c58 : x20_2 < x21_2
       ·rw [if_pos c58] at H
        have c58b0 : decide (x20_2 < x21_2) = true := decide_eq_true c58
        clear c58
        obtain ⟨ji59, hji59⟩ : ∃ j_ : Int, (wrap64 ((wrap64 ((wrap64 ((wrap64 ((IntKind.u64.wrap (wrap64 (a1 + a3))) / 2)) + a2)) - 1)) - (wrap64 ((IntKind.u64.wrap (wrap64 (x20_2 + x21_2))) / 2)))) = j_ := ⟨_, rfl⟩
        replace H : (if 0 ≤ (ji59) then (if (ji59) < (l0.length : Int) then (if 0 ≤ (wrap64 ((IntKind.u64.wrap (wrap64 (x20_2 + x21_2))) / 2)) then (if (wrap64 ((IntKind.u64.wrap (wrap64 (x20_2 + x21_2))) / 2)) < (l0.length : Int) then ((impl_Net_inbox_1.f (rdOf ByteArray.empty l0 (ji59)) (rdOf ByteArray.empty l0 (wrap64 ((IntKind.u64.wrap (wrap64 (x20_2 + x21_2))) / 2)))).bind fun t256 => (if t256 < 0 then (slices_symMergeCmpFunc_45_at_39.l4 k2 l0 a1 a2 a3 (wrap64 ((IntKind.u64.wrap (wrap64 (a1 + a3))) / 2)) (wrap64 ((wrap64 ((IntKind.u64.wrap (wrap64 (a1 + a3))) / 2)) + a2)) x20_2 (wrap64 ((IntKind.u64.wrap (wrap64 (x20_2 + x21_2))) / 2)) (wrap64 ((wrap64 ((wrap64 ((IntKind.u64.wrap (wrap64 (a1 + a3))) / 2)) + a2)) - 1))) else (slices_symMergeCmpFunc_45_at_39.l4 k2 l0 a1 a2 a3 (wrap64 ((IntKind.u64.wrap (wrap64 (a1 + a3))) / 2)) (wrap64 ((wrap64 ((IntKind.u64.wrap (wrap64 (a1 + a3))) / 2)) + a2)) (wrap64 ((wrap64 ((IntKind.u64.wrap (wrap64 (x20_2 + x21_2))) / 2)) + 1)) x21_2 (wrap64 ((wrap64 ((wrap64 ((IntKind.u64.wrap (wrap64 (a1 + a3))) / 2)) + a2)) - 1))))) else (none)) else (none)) else (none)) else (none)) = some r := by first | (rw [hji59] at H; exact H) | (simp only [hji59] at H ⊢; exact H)
        have hji59w : (IntKind.i64.wrap ((wrap64 ((wrap64 ((wrap64 ((IntKind.u64.wrap (wrap64 (a1 + a3))) / 2)) + a2)) - 1)) - (wrap64 ((IntKind.u64.wrap (wrap64 (x20_2 + x21_2))) / 2)))) = ji59 := (i64_w _).trans hji59
        replace H := ifS H; obtain ⟨c60, H⟩ := H; have c60b0 := decide_eq_true c60; clear c60; replace H := ifS H; obtain ⟨c61, H⟩ := H; have c61b0 := decide_eq_true c61; clear c61
        obtain ⟨ji62, hji62⟩ : ∃ j_ : Int, (wrap64 ((IntKind.u64.wrap (wrap64 (x20_2 + x21_2))) / 2)) = j_ := ⟨_, rfl⟩
        replace H : (if 0 ≤ (ji62) then (if (ji62) < (l0.length : Int) then ((impl_Net_inbox_1.f (rdOf ByteArray.empty l0 (ji59)) (rdOf ByteArray.empty l0 (ji62))).bind fun t256 => (if t256 < 0 then (slices_symMergeCmpFunc_45_at_39.l4 k2 l0 a1 a2 a3 (wrap64 ((IntKind.u64.wrap (wrap64 (a1 + a3))) / 2)) (wrap64 ((wrap64 ((IntKind.u64.wrap (wrap64 (a1 + a3))) / 2)) + a2)) x20_2 ji62 (wrap64 ((wrap64 ((wrap64 ((IntKind.u64.wrap (wrap64 (a1 + a3))) / 2)) + a2)) - 1))) else (slices_symMergeCmpFunc_45_at_39.l4 k2 l0 a1 a2 a3 (wrap64 ((IntKind.u64.wrap (wrap64 (a1 + a3))) / 2)) (wrap64 ((wrap64 ((IntKind.u64.wrap (wrap64 (a1 + a3))) / 2)) + a2)) (wrap64 ((ji62) + 1)) x21_2 (wrap64 ((wrap64 ((wrap64 ((IntKind.u64.wrap (wrap64 (a1 + a3))) / 2)) + a2)) - 1))))) else (none)) else (none)) = some r := by first | (rw [hji62] at H; exact H) | (simp only [hji62] at H ⊢; exact H)
        have hji62w : (IntKind.i64.wrap ((IntKind.u64.wrap (wrap64 (x20_2 + x21_2))) / 2)) = ji62 := (i64_w _).trans hji62
        (try rw [hji62] at hji59)
        (try rw [hji62] at hji59w)
        replace H := ifS H; obtain ⟨c63, H⟩ := H; have c63b0 := decide_eq_true c63; clear c63; replace H := ifS H; obtain ⟨c64, H⟩ := H; have c64b0 := decide_eq_true c64; clear c64; replace H := bS H; obtain ⟨t256, A65, H⟩ := H
        replace H : (if t256 < 0 then (slices_symMergeCmpFunc_45_at_39.l4 k2 l0 a1 a2 a3 (wrap64 ((IntKind.u64.wrap (wrap64 (a1 + a3))) / 2)) (wrap64 ((wrap64 ((IntKind.u64.wrap (wrap64 (a1 + a3))) / 2)) + a2)) x20_2 ji62 (wrap64 ((wrap64 ((wrap64 ((IntKind.u64.wrap (wrap64 (a1 + a3))) / 2)) + a2)) - 1))) else (slices_symMergeCmpFunc_45_at_39.l4 k2 l0 a1 a2 a3 (wrap64 ((IntKind.u64.wrap (wrap64 (a1 + a3))) / 2)) (wrap64 ((wrap64 ((IntKind.u64.wrap (wrap64 (a1 + a3))) / 2)) + a2)) (wrap64 ((ji62) + 1)) x21_2 (wrap64 ((wrap64 ((wrap64 ((IntKind.u64.wrap (wrap64 (a1 + a3))) / 2)) + a2)) - 1)))) = some r := H
        by_cases c66 : t256 < 0
        ·rw [if_pos c66] at H
         have c66b0 : decide (t256 < 0) = true := decide_eq_true c66
         clear c66
         have H' := Aside0.mk H
         clear H
         try go_wp2
         replace HO_0 := ak (Kd.R_drew HO_0.out)
         replace HK := ak (Kept.drew HK.out)
         replace HB := ak (below_drew1 HB.out)
         obtain ⟨Ao68, co68, eo68⟩ := Kd.R_slice HO_0.out
         (first | subst eo68 | (injection eo68 with f1_ f2_ f3_; have f4_ := f1_.symm; have f5_ := f3_.symm; clear f1_ f2_ f3_; subst f4_; subst f5_))
         have p254 : 0 ≤ ((ji59) : Int) := da
         have q254 : (ji59) < (l0.length : Int) := da
         obtain ⟨ad254, e254, hx254_0⟩ := Kd.at_string (Kd.R_reads' HO_0.out).2.2 (ji59) p254 q254
         cases e254
         replace p254 := eq_true p254; replace q254 := eq_true q254
         have p255 : 0 ≤ ((ji62) : Int) := da
         have q255 : (ji62) < (l0.length : Int) := da
         obtain ⟨ad255, e255, hx255_0⟩ := Kd.at_string (Kd.R_reads' HO_0.out).2.2 (ji62) p255 q255
         obtain rfl : ad254 = ad255 := (by injection e255)
         replace p255 := eq_true p255; replace q255 := eq_true q255
         refine start_ (n := 14) (S := fun w' => w'.cell? (ad254.add ((ji59)).toNat) = some (.string (rdOf ByteArray.empty l0 (ji59))) ∧ w'.cell? (ad254.add ((ji62)).toNat) = some (.string (rdOf ByteArray.empty l0 (ji62)))) (ds := []) (bl 14 0) (by kernel_rfl) rfl rfl ⟨hx254_0, hx255_0⟩ (fun hHeld => ?_); refine with_tabW slices_symMergeCmpFunc_45_at_39.tab35 slices_symMergeCmpFunc_45_at_39.bits35 (fun HT_ HW_ => ?_)
         generalize wr.drew = w67 at HO_0 HK HB hx254_0 hx255_0 hHeld ⊢
         refine pureA 0 (some 158) 14 1 HT_ ?_
         refine pureA 1 (some 159) 14 3 HT_ ?_
         refine pureA 2 (some 160) 14 7 HT_ ?_
         refine pureA 3 (some 161) 14 15 HT_ ?_
         refine pureA 4 (some 162) 14 31 HT_ ?_
         refine pureA 5 (some 163) 14 63 HT_ ?_
         refine pureA 7 (some 165) 14 191 HT_ ?_
         refine pureA 8 (some 166) 14 447 HT_ ?_
         refine pureA 9 (some 167) 14 959 HT_ ?_
         refine takeA 6 (some 164) 14 1023 HT_ HW_ hHeld ?_ (hy := by rintro w' ⟨s0, s1⟩; go_simp; with_reducible rfl)
         refine takeA 10 (some 168) 14 2047 HT_ HW_ hHeld ?_ (hy := by rintro w' ⟨s0, s1⟩; go_simp; with_reducible rfl)
         refine oneA 11 (some 169) 14 4095 HT_ (fun K hK => ?_)
         refine goesVs_ Try.func39 (by kernel_rfl) rfl #[.string (rdOf ByteArray.empty l0 (ji59)), .string (rdOf ByteArray.empty l0 (ji62))] (by rfl) rfl rfl rfl (by (try simp only [List.map_toArray, List.map_cons, List.map_nil]); first | done | (simp only [hji59, hji62]; rfl) | rfl | (simp only [List.length_drop, List.length_take]; rfl)) ?_
         with_reducible refine (impl_Net_inbox_1.calls (rdOf ByteArray.empty l0 (ji59)) (rdOf ByteArray.empty l0 (ji62)) t256 _ A65.out).mono ?_
         rintro e w' ⟨rfl, ⟨nd, rfl⟩⟩
         refine ⟨_, rfl, ?_⟩
         refine hK.out _ _ ⟨hHeld.1, hHeld.2⟩ (fun hHeld => ?_)
         clear hK K
         refine norm_ (a' := ?_) ?_ ?_
         rotate_left
         ·show Act.put _ (some 169) _ = _
          simp only [Act.put, List.setIfInBounds_toArray, List.set_cons_zero, List.set_cons_succ, i64_w, i32_w]
          rfl
         refine pureA 12 (some 170) 14 8191 HT_ ?_
         refine pureA 13 (some 171) 14 16383 HT_ ?_
         refine done_ (done_of HT_.out (by kernel_rfl)) ?_
         try go_wp2
         go_roundg k2
         case measure => have := HJ55.out; have := HK2.out; omega
         case rel => exact ⟨(x20_2), (ji62), er, (by first | rfl | (simp; done) | (simp only [← hji62] <;> (first | rfl | simp)) | (simp [*]; done)), H', ⟨by have := HJ55.out; have := HK2.out; omega⟩, ⟨rdl HO_0⟩, ⟨by repeat (first | (with_reducible first | exact HK.out | apply Kept.alloc | apply Kept.drewN | apply Kept.drew) | exact HK.out)⟩, ⟨belowd HB⟩⟩
        ·rw [if_neg c66] at H
         have c66b0 : decide (t256 < 0) = false := decide_eq_false c66
         clear c66
         have H' := Aside0.mk H
         clear H
         try go_wp2
         replace HO_0 := ak (Kd.R_drew HO_0.out)
         replace HK := ak (Kept.drew HK.out)
         replace HB := ak (below_drew1 HB.out)
         obtain ⟨Ao70, co70, eo70⟩ := Kd.R_slice HO_0.out
         (first | subst eo70 | (injection eo70 with f1_ f2_ f3_; have f4_ := f1_.symm; have f5_ := f3_.symm; clear f1_ f2_ f3_; subst f4_; subst f5_))
         have p254 : 0 ≤ ((ji59) : Int) := da
         have q254 : (ji59) < (l0.length : Int) := da
         obtain ⟨ad254, e254, hx254_0⟩ := Kd.at_string (Kd.R_reads' HO_0.out).2.2 (ji59) p254 q254
         cases e254
         replace p254 := eq_true p254; replace q254 := eq_true q254
         have p255 : 0 ≤ ((ji62) : Int) := da
         have q255 : (ji62) < (l0.length : Int) := da
         obtain ⟨ad255, e255, hx255_0⟩ := Kd.at_string (Kd.R_reads' HO_0.out).2.2 (ji62) p255 q255
         obtain rfl : ad254 = ad255 := (by injection e255)
         replace p255 := eq_true p255; replace q255 := eq_true q255
         refine start_ (n := 14) (S := fun w' => w'.cell? (ad254.add ((ji59)).toNat) = some (.string (rdOf ByteArray.empty l0 (ji59))) ∧ w'.cell? (ad254.add ((ji62)).toNat) = some (.string (rdOf ByteArray.empty l0 (ji62)))) (ds := []) (bl 14 0) (by kernel_rfl) rfl rfl ⟨hx254_0, hx255_0⟩ (fun hHeld => ?_); refine with_tabW slices_symMergeCmpFunc_45_at_39.tab35 slices_symMergeCmpFunc_45_at_39.bits35 (fun HT_ HW_ => ?_)
         generalize wr.drew = w69 at HO_0 HK HB hx254_0 hx255_0 hHeld ⊢
         refine pureA 0 (some 158) 14 1 HT_ ?_
         refine pureA 1 (some 159) 14 3 HT_ ?_
         refine pureA 2 (some 160) 14 7 HT_ ?_
         refine pureA 3 (some 161) 14 15 HT_ ?_
         refine pureA 4 (some 162) 14 31 HT_ ?_
         refine pureA 5 (some 163) 14 63 HT_ ?_
         refine pureA 7 (some 165) 14 191 HT_ ?_
         refine pureA 8 (some 166) 14 447 HT_ ?_
         refine pureA 9 (some 167) 14 959 HT_ ?_
         refine takeA 6 (some 164) 14 1023 HT_ HW_ hHeld ?_ (hy := by rintro w' ⟨s0, s1⟩; go_simp; with_reducible rfl)
         refine takeA 10 (some 168) 14 2047 HT_ HW_ hHeld ?_ (hy := by rintro w' ⟨s0, s1⟩; go_simp; with_reducible rfl)
         refine oneA 11 (some 169) 14 4095 HT_ (fun K hK => ?_)
         refine goesVs_ Try.func39 (by kernel_rfl) rfl #[.string (rdOf ByteArray.empty l0 (ji59)), .string (rdOf ByteArray.empty l0 (ji62))] (by rfl) rfl rfl rfl (by (try simp only [List.map_toArray, List.map_cons, List.map_nil]); first | done | (simp only [hji59, hji62]; rfl) | rfl | (simp only [List.length_drop, List.length_take]; rfl)) ?_
         with_reducible refine (impl_Net_inbox_1.calls (rdOf ByteArray.empty l0 (ji59)) (rdOf ByteArray.empty l0 (ji62)) t256 _ A65.out).mono ?_
         rintro e w' ⟨rfl, ⟨nd, rfl⟩⟩
         refine ⟨_, rfl, ?_⟩
         refine hK.out _ _ ⟨hHeld.1, hHeld.2⟩ (fun hHeld => ?_)
         clear hK K
         refine norm_ (a' := ?_) ?_ ?_
         rotate_left
         ·show Act.put _ (some 169) _ = _
          simp only [Act.put, List.setIfInBounds_toArray, List.set_cons_zero, List.set_cons_succ, i64_w, i32_w]
          rfl
         refine pureA 12 (some 170) 14 8191 HT_ ?_
         refine pureA 13 (some 171) 14 16383 HT_ ?_
         refine done_ (done_of HT_.out (by kernel_rfl)) ?_
         try go_wp2
         go_roundg k2
         case measure => have := HJ55.out; have := HK2.out; omega
         case rel => exact ⟨(wrap64 ((ji62) + 1)), (x21_2), (by first | rfl | (simp; done) | (simp only [← hji62] <;> (first | rfl | simp)) | (simp [*]; done)), er, H', ⟨by have := HJ55.out; have := HK2.out; omega⟩, ⟨rdl HO_0⟩, ⟨by repeat (first | (with_reducible first | exact HK.out | apply Kept.alloc | apply Kept.drewN | apply Kept.drew) | exact HK.out)⟩, ⟨belowd HB⟩⟩
       ·rw [if_neg c58] at H
        have c58b0 : decide (x20_2 < x21_2) = false := decide_eq_false c58
        clear c58; have HC71 := Aside0.mk H; clear H
        go_upto_region 39 with (fail)
        go_cut [185] (fun v185 wc => ∃ (kq : Nat) (x185_70 : Bool), v185 = .bool x185_70 ∧ Aside0 (slices_symMergeCmpFunc_45_at_39.j6 kq l0 a1 a2 a3 (wrap64 ((IntKind.u64.wrap (wrap64 (a1 + a3))) / 2)) x20_2 (wrap64 ((wrap64 ((wrap64 ((IntKind.u64.wrap (wrap64 (a1 + a3))) / 2)) + a2)) - x20_2)) x185_70 = some r) ∧ Aside0 (kq ≤ k2) ∧ Aside0 (Kd.R Kd.string 9 wc w0.heap.size (fun k_ => (P0_ k_ ∨ w.heap.size ≤ k_)) u9000_ l0) ∧ Aside0 (Kept w wc (fun k_ => P0_ k_)) ∧ Aside0 (Below w0.heap.size w0 wc))
        case first =>
         have H := HC71.out; clear HC71
         by_cases c72 : x20_2 < a2
         ·rw [if_pos c72] at H
          have c72b0 : decide (x20_2 < a2) = true := decide_eq_true c72
          clear c72
          (first | rw [c72b0] | (simp only [i64_w, i32_w]; rw [c72b0]) | skip)
          have H' := Aside0.mk H
          clear H; go_wp2
          go_meet
          case rel => exact ⟨_, (decide (a2 < (wrap64 ((wrap64 ((wrap64 ((IntKind.u64.wrap (wrap64 (a1 + a3))) / 2)) + a2)) - x20_2)))), er, H', ⟨by have := HJ55.out; have := HK2.out; first | omega | exact Nat.le_refl _⟩, ⟨rdl HO_0⟩, ⟨by repeat (first | (with_reducible first | exact HK.out | apply Kept.alloc | apply Kept.drewN | apply Kept.drew) | exact HK.out)⟩, ⟨belowd HB⟩⟩
         ·rw [if_neg c72] at H
          have c72b0 : decide (x20_2 < a2) = false := decide_eq_false c72
          clear c72
          (first | rw [c72b0] | (simp only [i64_w, i32_w]; rw [c72b0]) | skip)
          have H' := Aside0.mk H
          clear H; go_wp2
          go_meet
          case rel => exact ⟨_, (false), er, H', ⟨by have := HJ55.out; have := HK2.out; first | omega | exact Nat.le_refl _⟩, ⟨rdl HO_0⟩, ⟨by repeat (first | (with_reducible first | exact HK.out | apply Kept.alloc | apply Kept.drewN | apply Kept.drew) | exact HK.out)⟩, ⟨belowd HB⟩⟩
        case rest => as_aux_lemma =>
         clear HC71; (try clear c58b0)
         obtain ⟨kq, x185_70, rfl, HA, HJ70, HO_0, HK, HB⟩ := hcut
         cases kq with
         | zero => exact absurd HA.out (by simp [slices_symMergeCmpFunc_45_at_39.j6])
         | succ kj70 =>
          have H := HA.out; clear HA
          simp only [slices_symMergeCmpFunc_45_at_39.j6] at H
          have HC73 := Aside0.mk H; clear H
          go_upto_if 185 with (fail)
          go_cut [] (fun wc => ∃ (kq : Nat) (x0_72 : List ByteArray), Aside0 (slices_symMergeCmpFunc_45_at_39.j7 kq x0_72 a1 a3 (wrap64 ((IntKind.u64.wrap (wrap64 (a1 + a3))) / 2)) x20_2 (wrap64 ((wrap64 ((wrap64 ((IntKind.u64.wrap (wrap64 (a1 + a3))) / 2)) + a2)) - x20_2)) = some r) ∧ Aside0 (kq ≤ kj70) ∧ Aside0 (Kd.R Kd.string 9 wc w0.heap.size (fun k_ => (P0_ k_ ∨ w.heap.size ≤ k_)) u9000_ x0_72) ∧ Aside0 (Kept w wc (fun k_ => P0_ k_)) ∧ Aside0 (Below w0.heap.size w0 wc))
          case first =>
           have H := HC73.out; clear HC73
           by_cases c74 : x185_70 = true
           ·subst c74
            have H1 : ((slices_rotateCmpFunc_46_at_39.f kj70 l0 x20_2 a2 (wrap64 ((wrap64 ((wrap64 ((IntKind.u64.wrap (wrap64 (a1 + a3))) / 2)) + a2)) - x20_2))).bind fun t257 => (slices_symMergeCmpFunc_45_at_39.j7 kj70 t257 a1 a3 (wrap64 ((IntKind.u64.wrap (wrap64 (a1 + a3))) / 2)) x20_2 (wrap64 ((wrap64 ((wrap64 ((IntKind.u64.wrap (wrap64 (a1 + a3))) / 2)) + a2)) - x20_2)))) = some r := by rw [if_pos rfl] at H; exact H
            clear H
            have H := H1
            clear H1; replace H := bS H; obtain ⟨t257, A75, H⟩ := H
            replace H : (slices_symMergeCmpFunc_45_at_39.j7 kj70 t257 a1 a3 (wrap64 ((IntKind.u64.wrap (wrap64 (a1 + a3))) / 2)) x20_2 (wrap64 ((wrap64 ((wrap64 ((IntKind.u64.wrap (wrap64 (a1 + a3))) / 2)) + a2)) - x20_2))) = some r := H
            have H' := Aside0.mk H
            clear H
            obtain ⟨Ao76, co76, eo76⟩ := Kd.R_slice HO_0.out
            subst eo76
            go_wp2_with (first | ((with_reducible refine gate_callee (f := 46) rfl ?_); refine goesLa (some 191) rfl Try.func46 #[.slice Ao76 l0.length co76, .int .i64 x20_2, .int .i64 a2, .int .i64 (wrap64 ((wrap64 ((wrap64 ((IntKind.u64.wrap (wrap64 (a1 + a3))) / 2)) + a2)) - x20_2)), .func (.func 39) #[] #[]] rfl ?_; (with_reducible refine (slices_rotateCmpFunc_46_at_39.calls kj70 (fun k_ => some k_ = (.slice Ao76 l0.length co76 : Value).ownBlock) (.slice Ao76 l0.length co76) l0 x20_2 a2 (wrap64 ((wrap64 ((wrap64 ((IntKind.u64.wrap (wrap64 (a1 + a3))) / 2)) + a2)) - x20_2))  t257 w0 _ ?side1 ?side2 A75.out).mono ?_); (case side1 => repeat (first | (with_reducible first | exact HB.out | apply below_alloc | apply pw_below_drewN | apply below_drew1) | exact HB.out)); (case side2 => exact Kd.R_tight rfl HO_0.out); rintro e w77 ⟨rfl, hy0, hb, hkp⟩; refine ⟨_, rfl, ?_⟩; replace HK := ak (Kept.then_ (S := (fun k_ => P0_ k_)) (by repeat (first | (with_reducible first | exact HK.out | apply Kept.alloc | apply Kept.drewN | apply Kept.drew) | exact HK.out)) hkp (fun k_ hs_ => (fun e_ => (HO_0.out.1 k_ e_.symm)) hs_)); replace HO_0 := ak (Kd.R_reok rfl hy0 (fun k_ e_ => HO_0.out.1 k_ e_)); replace HB := ak (hb); (try clear hb); (try clear hkp); (try clear hy0)))
            go_meet
            case rel => exact ⟨_, (t257), H', ⟨by have := HJ55.out; have := HK2.out; have := HJ70.out; first | omega | exact Nat.le_refl _⟩, ⟨rdl HO_0⟩, ⟨by repeat (first | (with_reducible first | exact HK.out | apply Kept.alloc | apply Kept.drewN | apply Kept.drew) | exact HK.out)⟩, ⟨belowd HB⟩⟩
           ·replace c74 := Bool.eq_false_iff.mpr c74
            subst c74
            have H1 : (slices_symMergeCmpFunc_45_at_39.j7 kj70 l0 a1 a3 (wrap64 ((IntKind.u64.wrap (wrap64 (a1 + a3))) / 2)) x20_2 (wrap64 ((wrap64 ((wrap64 ((IntKind.u64.wrap (wrap64 (a1 + a3))) / 2)) + a2)) - x20_2))) = some r := by rw [if_neg (show ¬ (false = true) by decide)] at H; exact H
            clear H
            have H := H1
            clear H1
            have H' := Aside0.mk H
            clear H; go_wp2
            go_meet
            case rel => exact ⟨_, (l0), H', ⟨by have := HJ55.out; have := HK2.out; have := HJ70.out; first | omega | exact Nat.le_refl _⟩, ⟨rdl HO_0⟩, ⟨by repeat (first | (with_reducible first | exact HK.out | apply Kept.alloc | apply Kept.drewN | apply Kept.drew) | exact HK.out)⟩, ⟨belowd HB⟩⟩
          case rest => as_aux_lemma =>
           clear HC73
           obtain ⟨kq, x0_72, HA, HJ72, HO_0, HK, HB⟩ := hcut
           cases kq with
           | zero => exact absurd HA.out (by simp [slices_symMergeCmpFunc_45_at_39.j7])
           | succ kj72 =>
            have H := HA.out; clear HA
            simp only [slices_symMergeCmpFunc_45_at_39.j7] at H
            have HC78 := Aside0.mk H; clear H
            go_upto_region 41 with (fail)
            go_cut [199] (fun v199 wc => ∃ (kq : Nat) (x199_77 : Bool), v199 = .bool x199_77 ∧ Aside0 (slices_symMergeCmpFunc_45_at_39.j8 kq x0_72 a1 a3 (wrap64 ((IntKind.u64.wrap (wrap64 (a1 + a3))) / 2)) x20_2 (wrap64 ((wrap64 ((wrap64 ((IntKind.u64.wrap (wrap64 (a1 + a3))) / 2)) + a2)) - x20_2)) x199_77 = some r) ∧ Aside0 (kq ≤ kj72) ∧ Aside0 (Kd.R Kd.string 9 wc w0.heap.size (fun k_ => (P0_ k_ ∨ w.heap.size ≤ k_)) u9000_ x0_72) ∧ Aside0 (Kept w wc (fun k_ => P0_ k_)) ∧ Aside0 (Below w0.heap.size w0 wc))
            case first =>
             have H := HC78.out; clear HC78
             by_cases c79 : a1 < x20_2
             ·rw [if_pos c79] at H
              have c79b0 : decide (a1 < x20_2) = true := decide_eq_true c79
              clear c79
              (first | rw [c79b0] | (simp only [i64_w, i32_w]; rw [c79b0]) | skip)
              have H' := Aside0.mk H
              clear H; go_wp2
              go_meet
              case rel => exact ⟨_, (decide (x20_2 < (wrap64 ((IntKind.u64.wrap (wrap64 (a1 + a3))) / 2)))), er, H', ⟨by have := HJ55.out; have := HK2.out; have := HJ70.out; have := HJ72.out; first | omega | exact Nat.le_refl _⟩, ⟨rdl HO_0⟩, ⟨by repeat (first | (with_reducible first | exact HK.out | apply Kept.alloc | apply Kept.drewN | apply Kept.drew) | exact HK.out)⟩, ⟨belowd HB⟩⟩
             ·rw [if_neg c79] at H
              have c79b0 : decide (a1 < x20_2) = false := decide_eq_false c79
              clear c79
              (first | rw [c79b0] | (simp only [i64_w, i32_w]; rw [c79b0]) | skip)
              have H' := Aside0.mk H
              clear H; go_wp2
              go_meet
              case rel => exact ⟨_, (false), er, H', ⟨by have := HJ55.out; have := HK2.out; have := HJ70.out; have := HJ72.out; first | omega | exact Nat.le_refl _⟩, ⟨rdl HO_0⟩, ⟨by repeat (first | (with_reducible first | exact HK.out | apply Kept.alloc | apply Kept.drewN | apply Kept.drew) | exact HK.out)⟩, ⟨belowd HB⟩⟩
            case rest => as_aux_lemma =>
             clear HC78
             obtain ⟨kq, x199_77, rfl, HA, HJ77, HO_0, HK, HB⟩ := hcut
             cases kq with
             | zero => exact absurd HA.out (by simp [slices_symMergeCmpFunc_45_at_39.j8])
             | succ kj77 =>
              have H := HA.out; clear HA
              simp only [slices_symMergeCmpFunc_45_at_39.j8] at H
              by_cases c80 : x199_77 = true
              ·subst c80
               have H1 : ((slices_symMergeCmpFunc_45_at_39.f kj77 x0_72 a1 x20_2 (wrap64 ((IntKind.u64.wrap (wrap64 (a1 + a3))) / 2))).bind fun t258 => (if (wrap64 ((IntKind.u64.wrap (wrap64 (a1 + a3))) / 2)) < (wrap64 ((wrap64 ((wrap64 ((IntKind.u64.wrap (wrap64 (a1 + a3))) / 2)) + a2)) - x20_2)) then (if (wrap64 ((wrap64 ((wrap64 ((IntKind.u64.wrap (wrap64 (a1 + a3))) / 2)) + a2)) - x20_2)) < a3 then ((slices_symMergeCmpFunc_45_at_39.f kj77 t258 (wrap64 ((IntKind.u64.wrap (wrap64 (a1 + a3))) / 2)) (wrap64 ((wrap64 ((wrap64 ((IntKind.u64.wrap (wrap64 (a1 + a3))) / 2)) + a2)) - x20_2)) a3).bind fun t259 => (some t259)) else (some t258)) else (some t258))) = some r := by rw [if_pos rfl] at H; exact H
               clear H
               have H := H1
               clear H1; replace H := bS H; obtain ⟨t258, A81, H⟩ := H
               replace H : (if (wrap64 ((IntKind.u64.wrap (wrap64 (a1 + a3))) / 2)) < (wrap64 ((wrap64 ((wrap64 ((IntKind.u64.wrap (wrap64 (a1 + a3))) / 2)) + a2)) - x20_2)) then (if (wrap64 ((wrap64 ((wrap64 ((IntKind.u64.wrap (wrap64 (a1 + a3))) / 2)) + a2)) - x20_2)) < a3 then ((slices_symMergeCmpFunc_45_at_39.f kj77 t258 (wrap64 ((IntKind.u64.wrap (wrap64 (a1 + a3))) / 2)) (wrap64 ((wrap64 ((wrap64 ((IntKind.u64.wrap (wrap64 (a1 + a3))) / 2)) + a2)) - x20_2)) a3).bind fun t259 => (some t259)) else (some t258)) else (some t258)) = some r := H
               by_cases c82 : (wrap64 ((IntKind.u64.wrap (wrap64 (a1 + a3))) / 2)) < (wrap64 ((wrap64 ((wrap64 ((IntKind.u64.wrap (wrap64 (a1 + a3))) / 2)) + a2)) - x20_2))
               ·rw [if_pos c82] at H
                have c82b0 : decide ((wrap64 ((IntKind.u64.wrap (wrap64 (a1 + a3))) / 2)) < (wrap64 ((wrap64 ((wrap64 ((IntKind.u64.wrap (wrap64 (a1 + a3))) / 2)) + a2)) - x20_2))) = true := decide_eq_true c82
                clear c82
                by_cases c83 : (wrap64 ((wrap64 ((wrap64 ((IntKind.u64.wrap (wrap64 (a1 + a3))) / 2)) + a2)) - x20_2)) < a3
                ·rw [if_pos c83] at H
                 have c83b0 : decide ((wrap64 ((wrap64 ((wrap64 ((IntKind.u64.wrap (wrap64 (a1 + a3))) / 2)) + a2)) - x20_2)) < a3) = true := decide_eq_true c83
                 clear c83; replace H := bS H; obtain ⟨t259, A84, H⟩ := H
                 replace H : (some t259) = some r := H
                 obtain rfl := Option.some.inj H
                 obtain ⟨Ao85, co85, eo85⟩ := Kd.R_slice HO_0.out
                 subst eo85
                 go_wp2_with (first | ((with_reducible refine gate_callee (f := 45) rfl ?_); refine goesLa (some 205) rfl Try.func45 #[.slice Ao85 x0_72.length co85, .int .i64 a1, .int .i64 x20_2, .int .i64 (wrap64 ((IntKind.u64.wrap (wrap64 (a1 + a3))) / 2)), .func (.func 39) #[] #[]] rfl ?_; (with_reducible refine (ih kj77 (by have := HJ55.out; have := HK2.out; have := HJ70.out; have := HJ72.out; have := HJ77.out; omega) (fun k_ => some k_ = (.slice Ao85 x0_72.length co85 : Value).ownBlock) (.slice Ao85 x0_72.length co85) x0_72 a1 x20_2 (wrap64 ((IntKind.u64.wrap (wrap64 (a1 + a3))) / 2))  t258 w0 _ ?side1 ?side2 A81.out).mono ?_); (case side1 => repeat (first | (with_reducible first | exact HB.out | apply below_alloc | apply pw_below_drewN | apply below_drew1) | exact HB.out)); (case side2 => exact Kd.R_tight rfl HO_0.out); rintro e w86 ⟨rfl, hy0, hb, hkp⟩; refine ⟨_, rfl, ?_⟩; replace HK := ak (Kept.then_ (S := (fun k_ => P0_ k_)) (by repeat (first | (with_reducible first | exact HK.out | apply Kept.alloc | apply Kept.drewN | apply Kept.drew) | exact HK.out)) hkp (fun k_ hs_ => (fun e_ => (HO_0.out.1 k_ e_.symm)) hs_)); replace HO_0 := ak (Kd.R_reok rfl hy0 (fun k_ e_ => HO_0.out.1 k_ e_)); replace HB := ak (hb); (try clear hb); (try clear hkp); (try clear hy0)) | ((with_reducible refine gate_callee (f := 45) rfl ?_); refine goesLa (some 219) rfl Try.func45 #[.slice Ao85 x0_72.length co85, .int .i64 (wrap64 ((IntKind.u64.wrap (wrap64 (a1 + a3))) / 2)), .int .i64 (wrap64 ((wrap64 ((wrap64 ((IntKind.u64.wrap (wrap64 (a1 + a3))) / 2)) + a2)) - x20_2)), .int .i64 a3, .func (.func 39) #[] #[]] rfl ?_; (with_reducible refine (ih kj77 (by have := HJ55.out; have := HK2.out; have := HJ70.out; have := HJ72.out; have := HJ77.out; omega) (fun k_ => some k_ = (.slice Ao85 x0_72.length co85 : Value).ownBlock) (.slice Ao85 x0_72.length co85) t258 (wrap64 ((IntKind.u64.wrap (wrap64 (a1 + a3))) / 2)) (wrap64 ((wrap64 ((wrap64 ((IntKind.u64.wrap (wrap64 (a1 + a3))) / 2)) + a2)) - x20_2)) a3  t259 w0 _ ?side1 ?side2 A84.out).mono ?_); (case side1 => repeat (first | (with_reducible first | exact HB.out | apply below_alloc | apply pw_below_drewN | apply below_drew1) | exact HB.out)); (case side2 => exact Kd.R_tight rfl HO_0.out); rintro e w87 ⟨rfl, hy0, hb, hkp⟩; refine ⟨_, rfl, ?_⟩; replace HK := ak (Kept.then_ (S := (fun k_ => P0_ k_)) (by repeat (first | (with_reducible first | exact HK.out | apply Kept.alloc | apply Kept.drewN | apply Kept.drew) | exact HK.out)) hkp (fun k_ hs_ => (fun e_ => (HO_0.out.1 k_ e_.symm)) hs_)); replace HO_0 := ak (Kd.R_reok rfl hy0 (fun k_ e_ => HO_0.out.1 k_ e_)); replace HB := ak (hb); (try clear hb); (try clear hkp); (try clear hy0)))
                 first | go_end0 | ((try simp only [Exit.inBlock, Exit.then]); refine bodyPost_ret (results_none rfl _ _ _) rfl ?_)
                 exact ⟨er2, by (with_reducible repeat (first | apply Kd.R_alloc | apply Kd.R_drewN | apply Kd.R_drew)); exact HO_0.out, belowd HB, by repeat (first | (with_reducible first | exact HK.out | apply Kept.alloc | apply Kept.drewN | apply Kept.drew) | exact HK.out)⟩
                ·rw [if_neg c83] at H
                 have c83b0 : decide ((wrap64 ((wrap64 ((wrap64 ((IntKind.u64.wrap (wrap64 (a1 + a3))) / 2)) + a2)) - x20_2)) < a3) = false := decide_eq_false c83
                 clear c83
                 obtain rfl := Option.some.inj H
                 obtain ⟨Ao88, co88, eo88⟩ := Kd.R_slice HO_0.out
                 subst eo88
                 go_wp2_with (first | ((with_reducible refine gate_callee (f := 45) rfl ?_); refine goesLa (some 205) rfl Try.func45 #[.slice Ao88 x0_72.length co88, .int .i64 a1, .int .i64 x20_2, .int .i64 (wrap64 ((IntKind.u64.wrap (wrap64 (a1 + a3))) / 2)), .func (.func 39) #[] #[]] rfl ?_; (with_reducible refine (ih kj77 (by have := HJ55.out; have := HK2.out; have := HJ70.out; have := HJ72.out; have := HJ77.out; omega) (fun k_ => some k_ = (.slice Ao88 x0_72.length co88 : Value).ownBlock) (.slice Ao88 x0_72.length co88) x0_72 a1 x20_2 (wrap64 ((IntKind.u64.wrap (wrap64 (a1 + a3))) / 2))  t258 w0 _ ?side1 ?side2 A81.out).mono ?_); (case side1 => repeat (first | (with_reducible first | exact HB.out | apply below_alloc | apply pw_below_drewN | apply below_drew1) | exact HB.out)); (case side2 => exact Kd.R_tight rfl HO_0.out); rintro e w89 ⟨rfl, hy0, hb, hkp⟩; refine ⟨_, rfl, ?_⟩; replace HK := ak (Kept.then_ (S := (fun k_ => P0_ k_)) (by repeat (first | (with_reducible first | exact HK.out | apply Kept.alloc | apply Kept.drewN | apply Kept.drew) | exact HK.out)) hkp (fun k_ hs_ => (fun e_ => (HO_0.out.1 k_ e_.symm)) hs_)); replace HO_0 := ak (Kd.R_reok rfl hy0 (fun k_ e_ => HO_0.out.1 k_ e_)); replace HB := ak (hb); (try clear hb); (try clear hkp); (try clear hy0)))
                 first | go_end0 | ((try simp only [Exit.inBlock, Exit.then]); refine bodyPost_ret (results_none rfl _ _ _) rfl ?_)
                 exact ⟨er2, by (with_reducible repeat (first | apply Kd.R_alloc | apply Kd.R_drewN | apply Kd.R_drew)); exact HO_0.out, belowd HB, by repeat (first | (with_reducible first | exact HK.out | apply Kept.alloc | apply Kept.drewN | apply Kept.drew) | exact HK.out)⟩
               ·rw [if_neg c82] at H
                have c82b0 : decide ((wrap64 ((IntKind.u64.wrap (wrap64 (a1 + a3))) / 2)) < (wrap64 ((wrap64 ((wrap64 ((IntKind.u64.wrap (wrap64 (a1 + a3))) / 2)) + a2)) - x20_2))) = false := decide_eq_false c82
                clear c82
                obtain rfl := Option.some.inj H
                obtain ⟨Ao90, co90, eo90⟩ := Kd.R_slice HO_0.out
                subst eo90
                go_wp2_with (first | ((with_reducible refine gate_callee (f := 45) rfl ?_); refine goesLa (some 205) rfl Try.func45 #[.slice Ao90 x0_72.length co90, .int .i64 a1, .int .i64 x20_2, .int .i64 (wrap64 ((IntKind.u64.wrap (wrap64 (a1 + a3))) / 2)), .func (.func 39) #[] #[]] rfl ?_; (with_reducible refine (ih kj77 (by have := HJ55.out; have := HK2.out; have := HJ70.out; have := HJ72.out; have := HJ77.out; omega) (fun k_ => some k_ = (.slice Ao90 x0_72.length co90 : Value).ownBlock) (.slice Ao90 x0_72.length co90) x0_72 a1 x20_2 (wrap64 ((IntKind.u64.wrap (wrap64 (a1 + a3))) / 2))  t258 w0 _ ?side1 ?side2 A81.out).mono ?_); (case side1 => repeat (first | (with_reducible first | exact HB.out | apply below_alloc | apply pw_below_drewN | apply below_drew1) | exact HB.out)); (case side2 => exact Kd.R_tight rfl HO_0.out); rintro e w91 ⟨rfl, hy0, hb, hkp⟩; refine ⟨_, rfl, ?_⟩; replace HK := ak (Kept.then_ (S := (fun k_ => P0_ k_)) (by repeat (first | (with_reducible first | exact HK.out | apply Kept.alloc | apply Kept.drewN | apply Kept.drew) | exact HK.out)) hkp (fun k_ hs_ => (fun e_ => (HO_0.out.1 k_ e_.symm)) hs_)); replace HO_0 := ak (Kd.R_reok rfl hy0 (fun k_ e_ => HO_0.out.1 k_ e_)); replace HB := ak (hb); (try clear hb); (try clear hkp); (try clear hy0)))
                first | go_end0 | ((try simp only [Exit.inBlock, Exit.then]); refine bodyPost_ret (results_none rfl _ _ _) rfl ?_)
                exact ⟨er2, by (with_reducible repeat (first | apply Kd.R_alloc | apply Kd.R_drewN | apply Kd.R_drew)); exact HO_0.out, belowd HB, by repeat (first | (with_reducible first | exact HK.out | apply Kept.alloc | apply Kept.drewN | apply Kept.drew) | exact HK.out)⟩
              ·replace c80 := Bool.eq_false_iff.mpr c80
               subst c80
               have H1 : (if (wrap64 ((IntKind.u64.wrap (wrap64 (a1 + a3))) / 2)) < (wrap64 ((wrap64 ((wrap64 ((IntKind.u64.wrap (wrap64 (a1 + a3))) / 2)) + a2)) - x20_2)) then (if (wrap64 ((wrap64 ((wrap64 ((IntKind.u64.wrap (wrap64 (a1 + a3))) / 2)) + a2)) - x20_2)) < a3 then ((slices_symMergeCmpFunc_45_at_39.f kj77 x0_72 (wrap64 ((IntKind.u64.wrap (wrap64 (a1 + a3))) / 2)) (wrap64 ((wrap64 ((wrap64 ((IntKind.u64.wrap (wrap64 (a1 + a3))) / 2)) + a2)) - x20_2)) a3).bind fun t260 => (some t260)) else (some x0_72)) else (some x0_72)) = some r := by rw [if_neg (show ¬ (false = true) by decide)] at H; exact H
               clear H
               have H := H1
               clear H1
               by_cases c92 : (wrap64 ((IntKind.u64.wrap (wrap64 (a1 + a3))) / 2)) < (wrap64 ((wrap64 ((wrap64 ((IntKind.u64.wrap (wrap64 (a1 + a3))) / 2)) + a2)) - x20_2))
               ·rw [if_pos c92] at H
                have c92b0 : decide ((wrap64 ((IntKind.u64.wrap (wrap64 (a1 + a3))) / 2)) < (wrap64 ((wrap64 ((wrap64 ((IntKind.u64.wrap (wrap64 (a1 + a3))) / 2)) + a2)) - x20_2))) = true := decide_eq_true c92
                clear c92
                by_cases c93 : (wrap64 ((wrap64 ((wrap64 ((IntKind.u64.wrap (wrap64 (a1 + a3))) / 2)) + a2)) - x20_2)) < a3
                ·rw [if_pos c93] at H
                 have c93b0 : decide ((wrap64 ((wrap64 ((wrap64 ((IntKind.u64.wrap (wrap64 (a1 + a3))) / 2)) + a2)) - x20_2)) < a3) = true := decide_eq_true c93
                 clear c93; replace H := bS H; obtain ⟨t260, A94, H⟩ := H
                 replace H : (some t260) = some r := H
                 obtain rfl := Option.some.inj H
                 obtain ⟨Ao95, co95, eo95⟩ := Kd.R_slice HO_0.out
                 subst eo95
                 go_wp2_with (first | ((with_reducible refine gate_callee (f := 45) rfl ?_); refine goesLa (some 219) rfl Try.func45 #[.slice Ao95 x0_72.length co95, .int .i64 (wrap64 ((IntKind.u64.wrap (wrap64 (a1 + a3))) / 2)), .int .i64 (wrap64 ((wrap64 ((wrap64 ((IntKind.u64.wrap (wrap64 (a1 + a3))) / 2)) + a2)) - x20_2)), .int .i64 a3, .func (.func 39) #[] #[]] rfl ?_; (with_reducible refine (ih kj77 (by have := HJ55.out; have := HK2.out; have := HJ70.out; have := HJ72.out; have := HJ77.out; omega) (fun k_ => some k_ = (.slice Ao95 x0_72.length co95 : Value).ownBlock) (.slice Ao95 x0_72.length co95) x0_72 (wrap64 ((IntKind.u64.wrap (wrap64 (a1 + a3))) / 2)) (wrap64 ((wrap64 ((wrap64 ((IntKind.u64.wrap (wrap64 (a1 + a3))) / 2)) + a2)) - x20_2)) a3  t260 w0 _ ?side1 ?side2 A94.out).mono ?_); (case side1 => repeat (first | (with_reducible first | exact HB.out | apply below_alloc | apply pw_below_drewN | apply below_drew1) | exact HB.out)); (case side2 => exact Kd.R_tight rfl HO_0.out); rintro e w96 ⟨rfl, hy0, hb, hkp⟩; refine ⟨_, rfl, ?_⟩; replace HK := ak (Kept.then_ (S := (fun k_ => P0_ k_)) (by repeat (first | (with_reducible first | exact HK.out | apply Kept.alloc | apply Kept.drewN | apply Kept.drew) | exact HK.out)) hkp (fun k_ hs_ => (fun e_ => (HO_0.out.1 k_ e_.symm)) hs_)); replace HO_0 := ak (Kd.R_reok rfl hy0 (fun k_ e_ => HO_0.out.1 k_ e_)); replace HB := ak (hb); (try clear hb); (try clear hkp); (try clear hy0)))
                 first | go_end0 | ((try simp only [Exit.inBlock, Exit.then]); refine bodyPost_ret (results_none rfl _ _ _) rfl ?_)
                 exact ⟨er2, by (with_reducible repeat (first | apply Kd.R_alloc | apply Kd.R_drewN | apply Kd.R_drew)); exact HO_0.out, belowd HB, by repeat (first | (with_reducible first | exact HK.out | apply Kept.alloc | apply Kept.drewN | apply Kept.drew) | exact HK.out)⟩
                ·rw [if_neg c93] at H
                 have c93b0 : decide ((wrap64 ((wrap64 ((wrap64 ((IntKind.u64.wrap (wrap64 (a1 + a3))) / 2)) + a2)) - x20_2)) < a3) = false := decide_eq_false c93
                 clear c93
                 obtain rfl := Option.some.inj H
                 go_wp2
                 first | go_end0 | ((try simp only [Exit.inBlock, Exit.then]); refine bodyPost_ret (results_none rfl _ _ _) rfl ?_)
                 exact ⟨er2, by (with_reducible repeat (first | apply Kd.R_alloc | apply Kd.R_drewN | apply Kd.R_drew)); exact HO_0.out, belowd HB, by repeat (first | (with_reducible first | exact HK.out | apply Kept.alloc | apply Kept.drewN | apply Kept.drew) | exact HK.out)⟩
               ·rw [if_neg c92] at H
                have c92b0 : decide ((wrap64 ((IntKind.u64.wrap (wrap64 (a1 + a3))) / 2)) < (wrap64 ((wrap64 ((wrap64 ((IntKind.u64.wrap (wrap64 (a1 + a3))) / 2)) + a2)) - x20_2))) = false := decide_eq_false c92
                clear c92
                obtain rfl := Option.some.inj H
                go_wp2
                first | go_end0 | ((try simp only [Exit.inBlock, Exit.then]); refine bodyPost_ret (results_none rfl _ _ _) rfl ?_)
                exact ⟨er2, by (with_reducible repeat (first | apply Kd.R_alloc | apply Kd.R_drewN | apply Kd.R_drew)); exact HO_0.out, belowd HB, by repeat (first | (with_reducible first | exact HK.out | apply Kept.alloc | apply Kept.drewN | apply Kept.drew) | exact HK.out)⟩

end Go.Proofs.Ytmhdjkbfghfajaa.QFnExactInboxOf
