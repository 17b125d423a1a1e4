-- printed by this session's own program (wip/tools/pp.py: the kit's print.py with changes); Lean checks it
import Derived.Test.YtkgogglnipdcfaaQFnBoardx0
import Derived.Test.YtkgogglnipdcfaaQFnBoardx2
namespace Go.Proofs.Ytkgogglnipdcfaa.QFnBoard
open Go.RowKit Go.Proofs.YtkgogglnipdcfaaW.PrintWords Go.Proofs.YtkgogglnipdcfaaW.PrintLast Go.Proofs.YtkgogglnipdcfaaW.PrintMore
attribute [local go_sem] max2_int min2_int max_two min_two max_three min_three max_four min_four strLss strGtr strLeq strGeq   -- for this text's walks alone
set_option linter.unusedVariables false
set_option linter.unusedSimpArgs false

/-! ### impl_GoodBoard: function 32 -/
mutual
def impl_GoodBoard.j0 : Nat → Bool → Int → Int → List (List Int) → List Int → List Int → Option (Bool)
  | 0, _, _, _, _, _, _ => none
  | k + 1, x45, x282000, x282001, x282002, x282003, x282004 => if x45 = true then (some false) else (impl_GoodBoard.l0 k x282002 (x282002.length : Int) 0 x282000 x282001 x282002 x282003 x282004)
def impl_GoodBoard.l0 : Nat → List (List Int) → Int → Int → Int → Int → List (List Int) → List Int → List Int → Option (Bool)
  | 0, _, _, _, _, _, _, _, _ => none
  | k + 1, x47, x48, x49, x282000, x282001, x282002, x282003, x282004 => if x49 < x48 then (if 0 ≤ x49 then (if x49 < (x47.length : Int) then ((impl_Board_isSigned.f x282000 x282001 x282002 x282003 x282004 (rd_L3 x47 x49)).bind fun t287 => (if t287 = true then (if x49 > 0 then (if 0 ≤ (wrap64 (x49 - 1)) then (if (wrap64 (x49 - 1)) < (x282002.length : Int) then (if 0 < ((rd_L3 x282002 (wrap64 (x49 - 1))).length : Int) then (if 0 < ((rd_L3 x47 x49).length : Int) then (impl_GoodBoard.j2 k x49 (rd_L3 x47 x49) x47 x48 x49 (decide ((rd (rd_L3 x282002 (wrap64 (x49 - 1))) 0) > (rd (rd_L3 x47 x49) 0))) x282000 x282001 x282002 x282003 x282004) else (none)) else (none)) else (none)) else (none)) else (impl_GoodBoard.j2 k x49 (rd_L3 x47 x49) x47 x48 x49 false x282000 x282001 x282002 x282003 x282004)) else (impl_GoodBoard.j2 k x49 (rd_L3 x47 x49) x47 x48 x49 true x282000 x282001 x282002 x282003 x282004))) else (none)) else (none)) else (some true)
def impl_GoodBoard.j2 : Nat → Int → List Int → List (List Int) → Int → Int → Bool → Int → Int → List (List Int) → List Int → List Int → Option (Bool)
  | 0, _, _, _, _, _, _, _, _, _, _, _ => none
  | k + 1, x3, x4, x47, x48, x49, x75, x282000, x282001, x282002, x282003, x282004 => if x75 = true then (some false) else (if 0 ≤ x3 then (if x3 ≤ (x282002.length : Int) then ((some (x282002.take (x3 : Int).toNat : List (List Int))).bind fun y291 => (impl_GoodBoard.l1 k x4 x47 x48 x49 y291 (y291.length : Int) 0 x282000 x282001 x282002 x282003 x282004)) else (none)) else (none))
def impl_GoodBoard.l1 : Nat → List Int → List (List Int) → Int → Int → List (List Int) → Int → Int → Int → Int → List (List Int) → List Int → List Int → Option (Bool)
  | 0, _, _, _, _, _, _, _, _, _, _, _, _ => none
  | k + 1, x4, x47, x48, x49, x79, x80, x81, x282000, x282001, x282002, x282003, x282004 => if x81 < x80 then (if 0 ≤ x81 then (if x81 < (x79.length : Int) then (if 2 ≤ ((rd_L3 x79 x81).length : Int) then (if 2 ≤ (x4.length : Int) then ((slices_Equal_int_int.f k ((rd_L3 x79 x81).take 2) (x4.take 2)).bind fun t298 => (if t298 = true then (if 2 < ((rd_L3 x79 x81).length : Int) then (if 2 < (x4.length : Int) then (if (rd (rd_L3 x79 x81) 2) = (rd x4 2) then (some false) else (if 1 < (x4.length : Int) then ((slices_Contains_int_int.f k x282003 (rd x4 1)).bind fun t302 => (if t302 = true then (impl_GoodBoard.l1 k x4 x47 x48 x49 x79 x80 (wrap64 (x81 + 1)) x282000 x282001 x282002 x282003 x282004) else (some false))) else (none))) else (none)) else (none)) else (impl_GoodBoard.l1 k x4 x47 x48 x49 x79 x80 (wrap64 (x81 + 1)) x282000 x282001 x282002 x282003 x282004))) else (none)) else (none)) else (none)) else (none)) else (impl_GoodBoard.l0 k x47 x48 (wrap64 (x49 + 1)) x282000 x282001 x282002 x282003 x282004)
end
def impl_GoodBoard.f (k : Nat) (a0_0 : Int) (a0_1 : Int) (l0_2 : List (List Int)) (l0_3 : List Int) (l0_4 : List Int) : Option (Bool) := (impl_areFaults.f a0_0).bind fun t282 => (if t282 = true then ((impl_within.f a0_1 0 20).bind fun t283 => (if t283 = true then (if (l0_3.length : Int) > a0_0 then (impl_GoodBoard.j0 k true a0_0 a0_1 l0_2 l0_3 l0_4) else ((impl_isRising.f k l0_3 0 (wrap64 (3 * a0_0))).bind fun t284 => (if t284 = true then ((impl_isRising.f k l0_4 0 9).bind fun t285 => (if t285 = true then (impl_GoodBoard.j0 k (decide ((l0_2.length : Int) > 200)) a0_0 a0_1 l0_2 l0_3 l0_4) else (impl_GoodBoard.j0 k true a0_0 a0_1 l0_2 l0_3 l0_4))) else (impl_GoodBoard.j0 k true a0_0 a0_1 l0_2 l0_3 l0_4)))) else (impl_GoodBoard.j0 k true a0_0 a0_1 l0_2 l0_3 l0_4))) else (impl_GoodBoard.j0 k true a0_0 a0_1 l0_2 l0_3 l0_4))
theorem impl_GoodBoard.mono_l : ∀ k, (∀ y0 y1 y2 y3 y4 y5, LeO (impl_GoodBoard.j0 k y0 y1 y2 y3 y4 y5) (impl_GoodBoard.j0 (k + 1) y0 y1 y2 y3 y4 y5)) ∧ (∀ y0 y1 y2 y3 y4 y5 y6 y7, LeO (impl_GoodBoard.l0 k y0 y1 y2 y3 y4 y5 y6 y7) (impl_GoodBoard.l0 (k + 1) y0 y1 y2 y3 y4 y5 y6 y7)) ∧ (∀ y0 y1 y2 y3 y4 y5 y6 y7 y8 y9 y10, LeO (impl_GoodBoard.j2 k y0 y1 y2 y3 y4 y5 y6 y7 y8 y9 y10) (impl_GoodBoard.j2 (k + 1) y0 y1 y2 y3 y4 y5 y6 y7 y8 y9 y10)) ∧ (∀ y0 y1 y2 y3 y4 y5 y6 y7 y8 y9 y10 y11, LeO (impl_GoodBoard.l1 k y0 y1 y2 y3 y4 y5 y6 y7 y8 y9 y10 y11) (impl_GoodBoard.l1 (k + 1) y0 y1 y2 y3 y4 y5 y6 y7 y8 y9 y10 y11))
 | 0 => ⟨fun _ _ _ _ _ _ r h => by simp [impl_GoodBoard.j0] at h, fun _ _ _ _ _ _ _ _ r h => by simp [impl_GoodBoard.l0] at h, fun _ _ _ _ _ _ _ _ _ _ _ r h => by simp [impl_GoodBoard.j2] at h, fun _ _ _ _ _ _ _ _ _ _ _ _ r h => by simp [impl_GoodBoard.l1] at h⟩
 | k + 1 => by
  obtain ⟨ih0, ih1, ih2, ih3⟩ := impl_GoodBoard.mono_l k
  refine ⟨?_, ?_, ?_, ?_⟩
  ·intro y0 y1 y2 y3 y4 y5
   unfold impl_GoodBoard.j0
   repeat' (first | (with_reducible first | exact ih0 _ _ _ _ _ _ | exact ih1 _ _ _ _ _ _ _ _ | exact ih2 _ _ _ _ _ _ _ _ _ _ _ | exact ih3 _ _ _ _ _ _ _ _ _ _ _ _ | exact impl_isRising.mono _ _ _ _ | exact slices_Contains_int_int.mono _ _ _ | exact slices_Equal_int_int.mono _ _ _ | exact LeO.refl _ | exact LeO.none _ | refine LeO.ite ?_ ?_ | refine LeO.bind ?_ (fun _ => ?_)) | exact ih0 _ _ _ _ _ _ | exact ih1 _ _ _ _ _ _ _ _ | exact ih2 _ _ _ _ _ _ _ _ _ _ _ | exact ih3 _ _ _ _ _ _ _ _ _ _ _ _ | exact impl_isRising.mono _ _ _ _ | exact slices_Contains_int_int.mono _ _ _ | exact slices_Equal_int_int.mono _ _ _ | exact LeO.none _ | refine LeO.ite ?_ ?_ | refine LeO.bind ?_ (fun _ => ?_))
  ·intro y0 y1 y2 y3 y4 y5 y6 y7
   unfold impl_GoodBoard.l0
   repeat' (first | (with_reducible first | exact ih0 _ _ _ _ _ _ | exact ih1 _ _ _ _ _ _ _ _ | exact ih2 _ _ _ _ _ _ _ _ _ _ _ | exact ih3 _ _ _ _ _ _ _ _ _ _ _ _ | exact impl_isRising.mono _ _ _ _ | exact slices_Contains_int_int.mono _ _ _ | exact slices_Equal_int_int.mono _ _ _ | exact LeO.refl _ | exact LeO.none _ | refine LeO.ite ?_ ?_ | refine LeO.bind ?_ (fun _ => ?_)) | exact ih0 _ _ _ _ _ _ | exact ih1 _ _ _ _ _ _ _ _ | exact ih2 _ _ _ _ _ _ _ _ _ _ _ | exact ih3 _ _ _ _ _ _ _ _ _ _ _ _ | exact impl_isRising.mono _ _ _ _ | exact slices_Contains_int_int.mono _ _ _ | exact slices_Equal_int_int.mono _ _ _ | exact LeO.none _ | refine LeO.ite ?_ ?_ | refine LeO.bind ?_ (fun _ => ?_))
  ·intro y0 y1 y2 y3 y4 y5 y6 y7 y8 y9 y10
   unfold impl_GoodBoard.j2
   repeat' (first | (with_reducible first | exact ih0 _ _ _ _ _ _ | exact ih1 _ _ _ _ _ _ _ _ | exact ih2 _ _ _ _ _ _ _ _ _ _ _ | exact ih3 _ _ _ _ _ _ _ _ _ _ _ _ | exact impl_isRising.mono _ _ _ _ | exact slices_Contains_int_int.mono _ _ _ | exact slices_Equal_int_int.mono _ _ _ | exact LeO.refl _ | exact LeO.none _ | refine LeO.ite ?_ ?_ | refine LeO.bind ?_ (fun _ => ?_)) | exact ih0 _ _ _ _ _ _ | exact ih1 _ _ _ _ _ _ _ _ | exact ih2 _ _ _ _ _ _ _ _ _ _ _ | exact ih3 _ _ _ _ _ _ _ _ _ _ _ _ | exact impl_isRising.mono _ _ _ _ | exact slices_Contains_int_int.mono _ _ _ | exact slices_Equal_int_int.mono _ _ _ | exact LeO.none _ | refine LeO.ite ?_ ?_ | refine LeO.bind ?_ (fun _ => ?_))
  ·intro y0 y1 y2 y3 y4 y5 y6 y7 y8 y9 y10 y11
   unfold impl_GoodBoard.l1
   repeat' (first | (with_reducible first | exact ih0 _ _ _ _ _ _ | exact ih1 _ _ _ _ _ _ _ _ | exact ih2 _ _ _ _ _ _ _ _ _ _ _ | exact ih3 _ _ _ _ _ _ _ _ _ _ _ _ | exact impl_isRising.mono _ _ _ _ | exact slices_Contains_int_int.mono _ _ _ | exact slices_Equal_int_int.mono _ _ _ | exact LeO.refl _ | exact LeO.none _ | refine LeO.ite ?_ ?_ | refine LeO.bind ?_ (fun _ => ?_)) | exact ih0 _ _ _ _ _ _ | exact ih1 _ _ _ _ _ _ _ _ | exact ih2 _ _ _ _ _ _ _ _ _ _ _ | exact ih3 _ _ _ _ _ _ _ _ _ _ _ _ | exact impl_isRising.mono _ _ _ _ | exact slices_Contains_int_int.mono _ _ _ | exact slices_Equal_int_int.mono _ _ _ | exact LeO.none _ | refine LeO.ite ?_ ?_ | refine LeO.bind ?_ (fun _ => ?_))
theorem impl_GoodBoard.mono : ∀ a0 a1 a2 a3 a4 k, LeO (impl_GoodBoard.f k a0 a1 a2 a3 a4) (impl_GoodBoard.f (k + 1) a0 a1 a2 a3 a4) := by
 intro a0 a1 a2 a3 a4 k
 obtain ⟨ih0, ih1, ih2, ih3⟩ := impl_GoodBoard.mono_l k
 unfold impl_GoodBoard.f
 repeat' (first | (with_reducible first | exact ih0 _ _ _ _ _ _ | exact ih1 _ _ _ _ _ _ _ _ | exact ih2 _ _ _ _ _ _ _ _ _ _ _ | exact ih3 _ _ _ _ _ _ _ _ _ _ _ _ | exact impl_isRising.mono _ _ _ _ | exact slices_Contains_int_int.mono _ _ _ | exact slices_Equal_int_int.mono _ _ _ | exact LeO.refl _ | exact LeO.none _ | refine LeO.ite ?_ ?_ | refine LeO.bind ?_ (fun _ => ?_)) | exact ih0 _ _ _ _ _ _ | exact ih1 _ _ _ _ _ _ _ _ | exact ih2 _ _ _ _ _ _ _ _ _ _ _ | exact ih3 _ _ _ _ _ _ _ _ _ _ _ _ | exact impl_isRising.mono _ _ _ _ | exact slices_Contains_int_int.mono _ _ _ | exact slices_Equal_int_int.mono _ _ _ | exact LeO.none _ | refine LeO.ite ?_ ?_ | refine LeO.bind ?_ (fun _ => ?_))
def impl_GoodBoard.T6 : Bool × List (List Nat × List Nat) := (true, [([], []), ([], []), ([0, 1], [0, 1]), ([2], [2]), ([3, 2], [3]), ([4], [4]), ([5, 4], [4, 5]), ([6, 4, 4], [4, 6]), ([7], [7]), ([8, 7], [7, 8]), ([7], [7]), ([10, 7], [7, 10]), ([9, 11, 7], [7, 9, 11]), ([12, 7], [7, 12]), ([13, 7], [7, 13]), ([14, 7], [7, 14]), ([7], [7]), ([16, 7], [7, 16]), ([17, 7], [7, 17]), ([15, 18, 7], [7, 15, 18]), ([7, 19, 4], [4, 7, 19]), ([4, 20], [4, 20])])
def impl_GoodBoard.B6 : List Nat := [0, 0, 3, 7, 15, 31, 63, 127, 255, 511, 255, 1279, 4095, 8191, 16383, 32767, 255, 65791, 196863, 524287, 1048575, 2097151]
theorem impl_GoodBoard.tab6 : rtab .any (opsOf Try.f32 6) = impl_GoodBoard.T6 := by kernel_rfl
theorem impl_GoodBoard.bits6 : waitsOk impl_GoodBoard.T6.2 impl_GoodBoard.B6 = true := by kernel_rfl
def impl_GoodBoard.T11 : Bool × List (List Nat × List Nat) := (true, [([], []), ([0], [0]), ([], []), ([2], [2]), ([1, 3], [1, 3]), ([4, 4], [4]), ([5], [5]), ([6, 5], [5, 6]), ([7, 5], [5, 7]), ([5], [5]), ([9, 5], [5, 9]), ([10, 5], [5, 10]), ([8, 11, 5], [5, 8, 11]), ([12, 5, 5], [5, 12]), ([13], [13]), ([14, 13], [13, 14]), ([13], [13]), ([16, 13], [13, 16]), ([17, 13], [13, 17]), ([15, 18, 13, 13], [13, 15, 18]), ([19, 13], [13, 19]), ([13, 20, 5], [5, 13, 20]), ([5, 21], [5, 21])])
def impl_GoodBoard.B11 : List Nat := [0, 1, 0, 4, 15, 31, 63, 127, 255, 63, 575, 1599, 4095, 8191, 16383, 32767, 16383, 81919, 212991, 524287, 1048575, 2097151, 4194303]
theorem impl_GoodBoard.tab11 : rtab .any (opsOf Try.f32 11) = impl_GoodBoard.T11 := by kernel_rfl
theorem impl_GoodBoard.bits11 : waitsOk impl_GoodBoard.T11.2 impl_GoodBoard.B11 = true := by kernel_rfl
set_option maxHeartbeats 8000000 in
set_option maxRecDepth 100000 in
theorem impl_GoodBoard.calls (k : Nat) (a0_0 : Int) (a0_1 : Int) (A0_2 : Option Addr) (c0_2 : Nat) (l0_2 : List (List Int)) (A0_3 : Option Addr) (c0_3 : Nat) (l0_3 : List Int) (A0_4 : Option Addr) (c0_4 : Nat) (l0_4 : List Int) (r : Bool) (w : World) (hr0_2 : Kd.C (Kd.slice 3 (Kd.int .i64)) w A0_2 l0_2.length l0_2) (hc0_2 : l0_2.length ≤ c0_2) (hr0_3 : Kd.C (Kd.int .i64) w A0_3 l0_3.length l0_3) (hc0_3 : l0_3.length ≤ c0_3) (hr0_4 : Kd.C (Kd.int .i64) w A0_4 l0_4.length l0_4) (hc0_4 : l0_4.length ≤ c0_4) (h : impl_GoodBoard.f k a0_0 a0_1 l0_2 l0_3 l0_4 = some r) :
  Calls Try.prog 32 #[.agg #[.int .i64 a0_0, .int .i64 a0_1, .slice A0_2 l0_2.length c0_2, .slice A0_3 l0_3.length c0_3, .slice A0_4 l0_4.length c0_4]] w fun e w' => e = .returned (.bool r) ∧ Below w.heap.size w w' := by
 have hu47 := Try.underlying47
 have HR0_2 := Aside0.mk hr0_2; have HC0_2 := Aside0.mk hc0_2; clear hr0_2 hc0_2; have HR0_3 := Aside0.mk hr0_3; have HC0_3 := Aside0.mk hc0_3; clear hr0_3 hc0_3; have HR0_4 := Aside0.mk hr0_4; have HC0_4 := Aside0.mk hc0_4; clear hr0_4 hc0_4
 have HB := Aside0.mk (Below.refl w.heap.size w)
 have H : ((impl_areFaults.f a0_0).bind fun t282 => (if t282 = true then ((impl_within.f a0_1 0 20).bind fun t283 => (if t283 = true then (if (l0_3.length : Int) > a0_0 then (impl_GoodBoard.j0 k true a0_0 a0_1 l0_2 l0_3 l0_4) else ((impl_isRising.f k l0_3 0 (wrap64 (3 * a0_0))).bind fun t284 => (if t284 = true then ((impl_isRising.f k l0_4 0 9).bind fun t285 => (if t285 = true then (impl_GoodBoard.j0 k (decide ((l0_2.length : Int) > 200)) a0_0 a0_1 l0_2 l0_3 l0_4) else (impl_GoodBoard.j0 k true a0_0 a0_1 l0_2 l0_3 l0_4))) else (impl_GoodBoard.j0 k true a0_0 a0_1 l0_2 l0_3 l0_4)))) else (impl_GoodBoard.j0 k true a0_0 a0_1 l0_2 l0_3 l0_4))) else (impl_GoodBoard.j0 k true a0_0 a0_1 l0_2 l0_3 l0_4))) = some r := h
 clear h; have HC2 := Aside0.mk H; clear H
 go_enter Try.func32, Try.ntmps32
 go_upto_region 1 with (first | ((with_reducible refine gate_dst (N := 1) rfl ?_); (try (refine gate_guard (by rfl) ?_; dsimp only)); refine boxev 1 #[.int .i64 a0_0, .int .i64 a0_1, .slice A0_2 l0_2.length c0_2, .slice A0_3 l0_3.length c0_3, .slice A0_4 l0_4.length c0_4] 47 ?_; intro gb281 hg w3 hbox hb; have BK281 := ak (hbox); have GW281 := ak (hgl hg (belowd HB)); have GE281 := ak (hgl hg (belowd HB)); replace HB := ak (below_step (belowd HB) hb); clear hb hbox hg))
 (try simp only [Act.put, List.setIfInBounds_toArray, List.set_cons_zero, List.set_cons_succ])
 go_cut [45] (fun v45 wc => ∃ (kq : Nat) (x45_1 : Bool), v45 = .bool x45_1 ∧ Aside0 (impl_GoodBoard.j0 kq x45_1 a0_0 a0_1 l0_2 l0_3 l0_4 = some r) ∧ Aside0 (kq ≤ k) ∧ Aside0 (wc.heap[gb281]? = some (.cells #[.int .i64 a0_0, .int .i64 a0_1, (.slice A0_2 l0_2.length c0_2), (.slice A0_3 l0_3.length c0_3), (.slice A0_4 l0_4.length c0_4)] 47 (0, 0))) ∧ Aside0 (Below w.heap.size w wc))
 case first =>
  have H := HC2.out; clear HC2; replace H := bS H; obtain ⟨t282, A4, H⟩ := H
  replace H : (if t282 = true then ((impl_within.f a0_1 0 20).bind fun t283 => (if t283 = true then (if (l0_3.length : Int) > a0_0 then (impl_GoodBoard.j0 k true a0_0 a0_1 l0_2 l0_3 l0_4) else ((impl_isRising.f k l0_3 0 (wrap64 (3 * a0_0))).bind fun t284 => (if t284 = true then ((impl_isRising.f k l0_4 0 9).bind fun t285 => (if t285 = true then (impl_GoodBoard.j0 k (decide ((l0_2.length : Int) > 200)) a0_0 a0_1 l0_2 l0_3 l0_4) else (impl_GoodBoard.j0 k true a0_0 a0_1 l0_2 l0_3 l0_4))) else (impl_GoodBoard.j0 k true a0_0 a0_1 l0_2 l0_3 l0_4)))) else (impl_GoodBoard.j0 k true a0_0 a0_1 l0_2 l0_3 l0_4))) else (impl_GoodBoard.j0 k true a0_0 a0_1 l0_2 l0_3 l0_4)) = some r := H
  by_cases c5 : t282 = true
  ·subst c5
   have H1 : ((impl_within.f a0_1 0 20).bind fun t283 => (if t283 = true then (if (l0_3.length : Int) > a0_0 then (impl_GoodBoard.j0 k true a0_0 a0_1 l0_2 l0_3 l0_4) else ((impl_isRising.f k l0_3 0 (wrap64 (3 * a0_0))).bind fun t284 => (if t284 = true then ((impl_isRising.f k l0_4 0 9).bind fun t285 => (if t285 = true then (impl_GoodBoard.j0 k (decide ((l0_2.length : Int) > 200)) a0_0 a0_1 l0_2 l0_3 l0_4) else (impl_GoodBoard.j0 k true a0_0 a0_1 l0_2 l0_3 l0_4))) else (impl_GoodBoard.j0 k true a0_0 a0_1 l0_2 l0_3 l0_4)))) else (impl_GoodBoard.j0 k true a0_0 a0_1 l0_2 l0_3 l0_4))) = some r := by rw [if_pos rfl] at H; exact H
   clear H
   have H := H1
   clear H1; replace H := bS H; obtain ⟨t283, A6, H⟩ := H
   replace H : (if t283 = true then (if (l0_3.length : Int) > a0_0 then (impl_GoodBoard.j0 k true a0_0 a0_1 l0_2 l0_3 l0_4) else ((impl_isRising.f k l0_3 0 (wrap64 (3 * a0_0))).bind fun t284 => (if t284 = true then ((impl_isRising.f k l0_4 0 9).bind fun t285 => (if t285 = true then (impl_GoodBoard.j0 k (decide ((l0_2.length : Int) > 200)) a0_0 a0_1 l0_2 l0_3 l0_4) else (impl_GoodBoard.j0 k true a0_0 a0_1 l0_2 l0_3 l0_4))) else (impl_GoodBoard.j0 k true a0_0 a0_1 l0_2 l0_3 l0_4)))) else (impl_GoodBoard.j0 k true a0_0 a0_1 l0_2 l0_3 l0_4)) = some r := H
   by_cases c7 : t283 = true
   ·subst c7
    have H1 : (if (l0_3.length : Int) > a0_0 then (impl_GoodBoard.j0 k true a0_0 a0_1 l0_2 l0_3 l0_4) else ((impl_isRising.f k l0_3 0 (wrap64 (3 * a0_0))).bind fun t284 => (if t284 = true then ((impl_isRising.f k l0_4 0 9).bind fun t285 => (if t285 = true then (impl_GoodBoard.j0 k (decide ((l0_2.length : Int) > 200)) a0_0 a0_1 l0_2 l0_3 l0_4) else (impl_GoodBoard.j0 k true a0_0 a0_1 l0_2 l0_3 l0_4))) else (impl_GoodBoard.j0 k true a0_0 a0_1 l0_2 l0_3 l0_4)))) = some r := by rw [if_pos rfl] at H; exact H
    clear H
    have H := H1
    clear H1
    by_cases c8 : (l0_3.length : Int) > a0_0
    ·rw [if_pos c8] at H
     have c8b0 : decide (a0_0 < (l0_3.length : Int)) = true := decide_eq_true c8
     clear c8
     (first | rw [c8b0] | (simp only [i64_w, i32_w]; rw [c8b0]) | skip)
     have H' := Aside0.mk H
     clear H; obtain ⟨hcz9_0, hcz9_1, hcz9_2, hcz9_3, hcz9_4, hfz9_0, hfz9_1, hfz9_2, hfz9_3, hfz9_4⟩ := box5 BK281
     go_wp2_with (first | ((with_reducible refine gate_callee (f := 124) rfl ?_); refine goesLa (some 9) rfl Try.func124 #[.int .i64 a0_0] rfl ?_; (with_reducible refine (impl_areFaults.calls a0_0 true _ A4.out).mono ?_); rintro e w' ⟨rfl, ⟨nd, rfl⟩⟩; refine ⟨_, rfl, ?_⟩) | (go_at_call 125; (with_reducible refine (impl_within.calls a0_1 0 20 true _ A6.out).mono ?_); rintro e w' ⟨rfl, ⟨nd, rfl⟩⟩))
     go_meet
     case rel => exact ⟨_, (true), er, H', ⟨by first | omega | exact Nat.le_refl _⟩, ⟨blkd BK281⟩, ⟨belowg1 HB GE281⟩⟩
    ·rw [if_neg c8] at H
     have c8b0 : decide (a0_0 < (l0_3.length : Int)) = false := decide_eq_false c8
     clear c8
     (first | rw [c8b0] | (simp only [i64_w, i32_w]; rw [c8b0]) | skip)
     replace H := bS H; obtain ⟨t284, A10, H⟩ := H
     replace H : (if t284 = true then ((impl_isRising.f k l0_4 0 9).bind fun t285 => (if t285 = true then (impl_GoodBoard.j0 k (decide ((l0_2.length : Int) > 200)) a0_0 a0_1 l0_2 l0_3 l0_4) else (impl_GoodBoard.j0 k true a0_0 a0_1 l0_2 l0_3 l0_4))) else (impl_GoodBoard.j0 k true a0_0 a0_1 l0_2 l0_3 l0_4)) = some r := H
     by_cases c11 : t284 = true
     ·subst c11
      have H1 : ((impl_isRising.f k l0_4 0 9).bind fun t285 => (if t285 = true then (impl_GoodBoard.j0 k (decide ((l0_2.length : Int) > 200)) a0_0 a0_1 l0_2 l0_3 l0_4) else (impl_GoodBoard.j0 k true a0_0 a0_1 l0_2 l0_3 l0_4))) = some r := by rw [if_pos rfl] at H; exact H
      clear H
      have H := H1
      clear H1; replace H := bS H; obtain ⟨t285, A12, H⟩ := H
      replace H : (if t285 = true then (impl_GoodBoard.j0 k (decide ((l0_2.length : Int) > 200)) a0_0 a0_1 l0_2 l0_3 l0_4) else (impl_GoodBoard.j0 k true a0_0 a0_1 l0_2 l0_3 l0_4)) = some r := H
      by_cases c13 : t285 = true
      ·subst c13
       have H1 : (impl_GoodBoard.j0 k (decide ((l0_2.length : Int) > 200)) a0_0 a0_1 l0_2 l0_3 l0_4) = some r := by rw [if_pos rfl] at H; exact H
       clear H
       have H := H1
       clear H1
       have H' := Aside0.mk H
       clear H; obtain ⟨hcz14_0, hcz14_1, hcz14_2, hcz14_3, hcz14_4, hfz14_0, hfz14_1, hfz14_2, hfz14_3, hfz14_4⟩ := box5 BK281
       go_wp2_with (first | ((with_reducible refine gate_callee (f := 124) rfl ?_); refine goesLa (some 9) rfl Try.func124 #[.int .i64 a0_0] rfl ?_; (with_reducible refine (impl_areFaults.calls a0_0 true _ A4.out).mono ?_); rintro e w' ⟨rfl, ⟨nd, rfl⟩⟩; refine ⟨_, rfl, ?_⟩) | (go_at_call 125; (with_reducible refine (impl_within.calls a0_1 0 20 true _ A6.out).mono ?_); rintro e w' ⟨rfl, ⟨nd, rfl⟩⟩) | (go_at_call 126; (with_reducible refine (impl_isRising.calls k _ _ l0_3 0 (wrap64 (3 * a0_0)) true _ ?side1 ?side2 A10.out).mono ?_); (case side1 => exact cd (Kd.C_below HR0_3.out (belowg1 HB GE281))); (case side2 => exact HC0_3.out); rintro e w' ⟨rfl, ⟨nd, rfl⟩⟩) | (go_at_call 126; (with_reducible refine (impl_isRising.calls k _ _ l0_4 0 9 true _ ?side1 ?side2 A12.out).mono ?_); (case side1 => exact cd (Kd.C_below HR0_4.out (belowg1 HB GE281))); (case side2 => exact HC0_4.out); rintro e w' ⟨rfl, ⟨nd, rfl⟩⟩))
       go_meet
       case rel => exact ⟨_, (decide ((l0_2.length : Int) > 200)), er, H', ⟨by first | omega | exact Nat.le_refl _⟩, ⟨blkd BK281⟩, ⟨belowg1 HB GE281⟩⟩
      ·replace c13 := Bool.eq_false_iff.mpr c13
       subst c13
       have H1 : (impl_GoodBoard.j0 k true a0_0 a0_1 l0_2 l0_3 l0_4) = some r := by rw [if_neg (show ¬ (false = true) by decide)] at H; exact H
       clear H
       have H := H1
       clear H1
       have H' := Aside0.mk H
       clear H; obtain ⟨hcz15_0, hcz15_1, hcz15_2, hcz15_3, hcz15_4, hfz15_0, hfz15_1, hfz15_2, hfz15_3, hfz15_4⟩ := box5 BK281
       go_wp2_with (first | ((with_reducible refine gate_callee (f := 124) rfl ?_); refine goesLa (some 9) rfl Try.func124 #[.int .i64 a0_0] rfl ?_; (with_reducible refine (impl_areFaults.calls a0_0 true _ A4.out).mono ?_); rintro e w' ⟨rfl, ⟨nd, rfl⟩⟩; refine ⟨_, rfl, ?_⟩) | (go_at_call 125; (with_reducible refine (impl_within.calls a0_1 0 20 true _ A6.out).mono ?_); rintro e w' ⟨rfl, ⟨nd, rfl⟩⟩) | (go_at_call 126; (with_reducible refine (impl_isRising.calls k _ _ l0_3 0 (wrap64 (3 * a0_0)) true _ ?side1 ?side2 A10.out).mono ?_); (case side1 => exact cd (Kd.C_below HR0_3.out (belowg1 HB GE281))); (case side2 => exact HC0_3.out); rintro e w' ⟨rfl, ⟨nd, rfl⟩⟩) | (go_at_call 126; (with_reducible refine (impl_isRising.calls k _ _ l0_4 0 9 false _ ?side1 ?side2 A12.out).mono ?_); (case side1 => exact cd (Kd.C_below HR0_4.out (belowg1 HB GE281))); (case side2 => exact HC0_4.out); rintro e w' ⟨rfl, ⟨nd, rfl⟩⟩))
       go_meet
       case rel => exact ⟨_, (true), er, H', ⟨by first | omega | exact Nat.le_refl _⟩, ⟨blkd BK281⟩, ⟨belowg1 HB GE281⟩⟩
     ·replace c11 := Bool.eq_false_iff.mpr c11
      subst c11
      have H1 : (impl_GoodBoard.j0 k true a0_0 a0_1 l0_2 l0_3 l0_4) = some r := by rw [if_neg (show ¬ (false = true) by decide)] at H; exact H
      clear H
      have H := H1
      clear H1
      have H' := Aside0.mk H
      clear H; obtain ⟨hcz16_0, hcz16_1, hcz16_2, hcz16_3, hcz16_4, hfz16_0, hfz16_1, hfz16_2, hfz16_3, hfz16_4⟩ := box5 BK281
      go_wp2_with (first | ((with_reducible refine gate_callee (f := 124) rfl ?_); refine goesLa (some 9) rfl Try.func124 #[.int .i64 a0_0] rfl ?_; (with_reducible refine (impl_areFaults.calls a0_0 true _ A4.out).mono ?_); rintro e w' ⟨rfl, ⟨nd, rfl⟩⟩; refine ⟨_, rfl, ?_⟩) | (go_at_call 125; (with_reducible refine (impl_within.calls a0_1 0 20 true _ A6.out).mono ?_); rintro e w' ⟨rfl, ⟨nd, rfl⟩⟩) | (go_at_call 126; (with_reducible refine (impl_isRising.calls k _ _ l0_3 0 (wrap64 (3 * a0_0)) false _ ?side1 ?side2 A10.out).mono ?_); (case side1 => exact cd (Kd.C_below HR0_3.out (belowg1 HB GE281))); (case side2 => exact HC0_3.out); rintro e w' ⟨rfl, ⟨nd, rfl⟩⟩))
      go_meet
      case rel => exact ⟨_, (true), er, H', ⟨by first | omega | exact Nat.le_refl _⟩, ⟨blkd BK281⟩, ⟨belowg1 HB GE281⟩⟩
   ·replace c7 := Bool.eq_false_iff.mpr c7
    subst c7
    have H1 : (impl_GoodBoard.j0 k true a0_0 a0_1 l0_2 l0_3 l0_4) = some r := by rw [if_neg (show ¬ (false = true) by decide)] at H; exact H
    clear H
    have H := H1
    clear H1
    have H' := Aside0.mk H
    clear H; obtain ⟨hcz17_0, hcz17_1, hcz17_2, hcz17_3, hcz17_4, hfz17_0, hfz17_1, hfz17_2, hfz17_3, hfz17_4⟩ := box5 BK281
    go_wp2_with (first | ((with_reducible refine gate_callee (f := 124) rfl ?_); refine goesLa (some 9) rfl Try.func124 #[.int .i64 a0_0] rfl ?_; (with_reducible refine (impl_areFaults.calls a0_0 true _ A4.out).mono ?_); rintro e w' ⟨rfl, ⟨nd, rfl⟩⟩; refine ⟨_, rfl, ?_⟩) | (go_at_call 125; (with_reducible refine (impl_within.calls a0_1 0 20 false _ A6.out).mono ?_); rintro e w' ⟨rfl, ⟨nd, rfl⟩⟩))
    go_meet
    case rel => exact ⟨_, (true), er, H', ⟨by first | omega | exact Nat.le_refl _⟩, ⟨blkd BK281⟩, ⟨belowg1 HB GE281⟩⟩
  ·replace c5 := Bool.eq_false_iff.mpr c5
   subst c5
   have H1 : (impl_GoodBoard.j0 k true a0_0 a0_1 l0_2 l0_3 l0_4) = some r := by rw [if_neg (show ¬ (false = true) by decide)] at H; exact H
   clear H
   have H := H1
   clear H1
   have H' := Aside0.mk H
   clear H; obtain ⟨hcz18_0, hcz18_1, hcz18_2, hcz18_3, hcz18_4, hfz18_0, hfz18_1, hfz18_2, hfz18_3, hfz18_4⟩ := box5 BK281
   go_wp2_with (first | ((with_reducible refine gate_callee (f := 124) rfl ?_); refine goesLa (some 9) rfl Try.func124 #[.int .i64 a0_0] rfl ?_; (with_reducible refine (impl_areFaults.calls a0_0 false _ A4.out).mono ?_); rintro e w' ⟨rfl, ⟨nd, rfl⟩⟩; refine ⟨_, rfl, ?_⟩))
   go_meet
   case rel => exact ⟨_, (true), er, H', ⟨by first | omega | exact Nat.le_refl _⟩, ⟨blkd BK281⟩, ⟨belowg1 HB GE281⟩⟩
 case rest =>
  clear HC2
  obtain ⟨kq, x45_1, rfl, HA, HJ1, BK281, HB⟩ := hcut
  cases kq with
  | zero => exact absurd HA.out (by simp [impl_GoodBoard.j0])
  | succ kj1 =>
   have H := HA.out; clear HA
   simp only [impl_GoodBoard.j0] at H
   by_cases c19 : x45_1 = true
   ·subst c19
    have H1 : (some false) = some r := by rw [if_pos rfl] at H; exact H
    clear H
    have H := H1
    clear H1
    obtain rfl := Option.some.inj H
    go_wp2
    go_ret
    exact ⟨er2, belowg1 HB GE281⟩
   ·replace c19 := Bool.eq_false_iff.mpr c19
    subst c19
    have H1 : (impl_GoodBoard.l0 kj1 l0_2 (l0_2.length : Int) 0 a0_0 a0_1 l0_2 l0_3 l0_4) = some r := by rw [if_neg (show ¬ (false = true) by decide)] at H; exact H
    clear H
    have H := H1
    clear H1
    have H' := Aside0.mk H
    clear H; obtain ⟨hcz20_0, hcz20_1, hcz20_2, hcz20_3, hcz20_4, hfz20_0, hfz20_1, hfz20_2, hfz20_3, hfz20_4⟩ := box5 BK281; go_wp2
    go_loopg [49] kj1 (fun kq v49 w' => ∃ (x49_2 : Int), v49 = .int .i64 x49_2 ∧ Aside0 (impl_GoodBoard.l0 kq l0_2 (l0_2.length : Int) x49_2 a0_0 a0_1 l0_2 l0_3 l0_4 = some r) ∧ Aside0 (kq ≤ kj1) ∧ Aside0 (w'.heap[gb281]? = some (.cells #[.int .i64 a0_0, .int .i64 a0_1, (.slice A0_2 l0_2.length c0_2), (.slice A0_3 l0_3.length c0_3), (.slice A0_4 l0_4.length c0_4)] 47 (0, 0))) ∧ Aside0 (Below w.heap.size w w'))
    case atStart => exact ⟨(0), er, H', ⟨Nat.le_refl _⟩, ⟨blkd BK281⟩, ⟨belowg1 HB GE281⟩⟩
    case round =>
     clear H'
     (try clear c19); (try clear hcz20_0); (try clear hcz20_1); (try clear hcz20_2); (try clear hcz20_3); (try clear hcz20_4); (try clear hfz20_0); (try clear hfz20_1); (try clear hfz20_2); (try clear hfz20_3); (try clear hfz20_4)
     obtain ⟨x49_2, rfl, HA, HK2, BK281, HB⟩ := hrel
     cases gk with
     | zero => exact absurd HA.out (by simp [impl_GoodBoard.l0])
     | succ k2 =>
      have H := HA.out; clear HA
      simp only [impl_GoodBoard.l0] at H
      by_cases c21 : x49_2 < (l0_2.length : Int)
      ·rw [if_pos c21] at H
       have c21b0 : decide (x49_2 < (l0_2.length : Int)) = true := decide_eq_true c21
       clear c21; replace H := ifS H; obtain ⟨c22, H⟩ := H; have c22b0 := decide_eq_true c22; clear c22; replace H := ifS H; obtain ⟨c23, H⟩ := H; have c23b0 := decide_eq_true c23; clear c23; have HC24 := Aside0.mk H; clear H
       have p286 : 0 ≤ (x49_2 : Int) := da
       have q286 : x49_2 < (l0_2.length : Int) := da
       obtain ⟨ad286, A286_0, c286_0, e286, hx286_0, hl286_0, hi286_0⟩ := at_L3 HR0_2.out x49_2 p286 q286
       cases e286
       replace hx286_0 := (HB.out.cell (World.block_lt_of_cell? w _ hx286_0)).trans hx286_0
       have HR286_0 := Aside0.mk hi286_0; have HC286_0 := Aside0.mk hl286_0; clear hi286_0 hl286_0; replace p286 := eq_true p286; replace q286 := eq_true q286
       go_upto_region 6 with (fail)
       go_cut [75] (fun v75 wc => ∃ (kq : Nat) (x75_23 : Bool), v75 = .bool x75_23 ∧ Aside0 (impl_GoodBoard.j2 kq x49_2 (rd_L3 l0_2 x49_2) l0_2 (l0_2.length : Int) x49_2 x75_23 a0_0 a0_1 l0_2 l0_3 l0_4 = some r) ∧ Aside0 (kq ≤ k2) ∧ Aside0 (wc.heap[gb281]? = some (.cells #[.int .i64 a0_0, .int .i64 a0_1, (.slice (some ad286) l0_2.length c0_2), (.slice A0_3 l0_3.length c0_3), (.slice A0_4 l0_4.length c0_4)] 47 (0, 0))) ∧ Aside0 (Below w.heap.size w wc))
       case first =>
        have H := HC24.out; clear HC24; replace H := bS H; obtain ⟨t287, A25, H⟩ := H
        replace H : (if t287 = true then (if x49_2 > 0 then (if 0 ≤ (wrap64 (x49_2 - 1)) then (if (wrap64 (x49_2 - 1)) < (l0_2.length : Int) then (if 0 < ((rd_L3 l0_2 (wrap64 (x49_2 - 1))).length : Int) then (if 0 < ((rd_L3 l0_2 x49_2).length : Int) then (impl_GoodBoard.j2 k2 x49_2 (rd_L3 l0_2 x49_2) l0_2 (l0_2.length : Int) x49_2 (decide ((rd (rd_L3 l0_2 (wrap64 (x49_2 - 1))) 0) > (rd (rd_L3 l0_2 x49_2) 0))) a0_0 a0_1 l0_2 l0_3 l0_4) else (none)) else (none)) else (none)) else (none)) else (impl_GoodBoard.j2 k2 x49_2 (rd_L3 l0_2 x49_2) l0_2 (l0_2.length : Int) x49_2 false a0_0 a0_1 l0_2 l0_3 l0_4)) else (impl_GoodBoard.j2 k2 x49_2 (rd_L3 l0_2 x49_2) l0_2 (l0_2.length : Int) x49_2 true a0_0 a0_1 l0_2 l0_3 l0_4)) = some r := H
        by_cases c26 : t287 = true
        ·subst c26
         have H1 : (if x49_2 > 0 then (if 0 ≤ (wrap64 (x49_2 - 1)) then (if (wrap64 (x49_2 - 1)) < (l0_2.length : Int) then (if 0 < ((rd_L3 l0_2 (wrap64 (x49_2 - 1))).length : Int) then (if 0 < ((rd_L3 l0_2 x49_2).length : Int) then (impl_GoodBoard.j2 k2 x49_2 (rd_L3 l0_2 x49_2) l0_2 (l0_2.length : Int) x49_2 (decide ((rd (rd_L3 l0_2 (wrap64 (x49_2 - 1))) 0) > (rd (rd_L3 l0_2 x49_2) 0))) a0_0 a0_1 l0_2 l0_3 l0_4) else (none)) else (none)) else (none)) else (none)) else (impl_GoodBoard.j2 k2 x49_2 (rd_L3 l0_2 x49_2) l0_2 (l0_2.length : Int) x49_2 false a0_0 a0_1 l0_2 l0_3 l0_4)) = some r := by rw [if_pos rfl] at H; exact H
         clear H
         have H := H1
         clear H1
         by_cases c27 : x49_2 > 0
         ·rw [if_pos c27] at H
          have c27b0 : decide (0 < x49_2) = true := decide_eq_true c27
          clear c27
          (first | rw [c27b0] | (simp only [i64_w, i32_w]; rw [c27b0]) | skip)
          obtain ⟨ji28, hji28⟩ : ∃ j_ : Int, (wrap64 (x49_2 - 1)) = j_ := ⟨_, rfl⟩
          replace H : (if 0 ≤ (ji28) then (if (ji28) < (l0_2.length : Int) then (if 0 < ((rd_L3 l0_2 (ji28)).length : Int) then (if 0 < ((rd_L3 l0_2 x49_2).length : Int) then (impl_GoodBoard.j2 k2 x49_2 (rd_L3 l0_2 x49_2) l0_2 (l0_2.length : Int) x49_2 (decide ((rd (rd_L3 l0_2 (ji28)) 0) > (rd (rd_L3 l0_2 x49_2) 0))) a0_0 a0_1 l0_2 l0_3 l0_4) else (none)) else (none)) else (none)) else (none)) = some r := by first | (rw [hji28] at H; exact H) | (simp only [hji28] at H ⊢; exact H)
          (try rw [hji28] at A25)
          have hji28w : (IntKind.i64.wrap (x49_2 - 1)) = ji28 := (i64_w _).trans hji28
          replace H := ifS H; obtain ⟨c29, H⟩ := H; have c29b0 := decide_eq_true c29; clear c29; replace H := ifS H; obtain ⟨c30, H⟩ := H; have c30b0 := decide_eq_true c30; clear c30; replace H := ifS H; obtain ⟨c31, H⟩ := H; have c31b0 := decide_eq_true c31
          have c31b1 : decide (0 < (rd_L3 l0_2 (ji28)).length) = true := decide_eq_true (by omega)
          clear c31; replace H := ifS H; obtain ⟨c32, H⟩ := H; have c32b0 := decide_eq_true c32
          have c32b1 : decide (0 < (rd_L3 l0_2 x49_2).length) = true := decide_eq_true (by omega)
          clear c32
          have H' := Aside0.mk H
          clear H
          try go_wp2
          replace BK281 := ak (blk_drew BK281.out)
          replace HB := ak (below_drew1 HB.out)
          have p288 : 0 ≤ ((ji28) : Int) := da
          have q288 : (ji28) < (l0_2.length : Int) := da
          obtain ⟨ad288, A288_0, c288_0, e288, hx288_0, hl288_0, hi288_0⟩ := at_L3 HR0_2.out (ji28) p288 q288
          have hw288_0 := hx288_0
          obtain rfl : ad286 = ad288 := (by injection e288)
          replace hx288_0 := (HB.out.cell (World.block_lt_of_cell? w _ hx288_0)).trans hx288_0
          have HR288_0 := Aside0.mk hi288_0; have HC288_0 := Aside0.mk hl288_0; clear hi288_0 hl288_0; replace p288 := eq_true p288; replace q288 := eq_true q288
          have p289 : 0 ≤ (0 : Int) := (by omega)
          have q289 : 0 < ((rd_L3 l0_2 (ji28)).length : Int) := da
          obtain ⟨ad289, e289, hx289_0⟩ := Kd.at_int HR288_0.out 0 p289 q289
          have hw289_0 := hx289_0
          (try rw [show ((0 : Int)).toNat = 0 from rfl] at hw289_0)
          (try rw [show 0 * 1 = 0 from rfl] at hw289_0)
          (try rw [Addr.add_zero'] at hw289_0)
          cases e289
          have qi289 : (0 < (rd_L3 l0_2 (ji28)).length) = True := eq_true (by omega)
          (try rw [show ((0 : Int)).toNat = 0 from rfl] at hx289_0)
          (try rw [Addr.add_zero'] at hx289_0)
          replace hx289_0 := (HB.out.cell (World.block_lt_of_cell? w _ hx289_0)).trans hx289_0
          replace p289 := eq_true p289; replace q289 := eq_true q289
          have p290 : 0 ≤ (0 : Int) := (by omega)
          have q290 : 0 < ((rd_L3 l0_2 x49_2).length : Int) := da
          obtain ⟨ad290, e290, hx290_0⟩ := Kd.at_int HR286_0.out 0 p290 q290
          have hw290_0 := hx290_0
          (try rw [show ((0 : Int)).toNat = 0 from rfl] at hw290_0)
          (try rw [show 0 * 1 = 0 from rfl] at hw290_0)
          (try rw [Addr.add_zero'] at hw290_0)
          cases e290
          have qi290 : (0 < (rd_L3 l0_2 x49_2).length) = True := eq_true (by omega)
          (try rw [show ((0 : Int)).toNat = 0 from rfl] at hx290_0)
          (try rw [Addr.add_zero'] at hx290_0)
          replace hx290_0 := (HB.out.cell (World.block_lt_of_cell? w _ hx290_0)).trans hx290_0
          replace p290 := eq_true p290; replace q290 := eq_true q290
          refine start_ (n := 22) (S := fun w' => w'.cell? ⟨gb281, 0, none⟩ = some (.int .i64 a0_0) ∧ w'.cell? ⟨gb281, 1, none⟩ = some (.int .i64 a0_1) ∧ w'.cell? ⟨gb281, 2, none⟩ = some (.slice (some ad286) l0_2.length c0_2) ∧ w'.cell? ⟨gb281, 3, none⟩ = some (.slice A0_3 l0_3.length c0_3) ∧ w'.cell? ⟨gb281, 4, none⟩ = some (.slice A0_4 l0_4.length c0_4) ∧ w'.cell? (ad286.add ((ji28)).toNat) = some (.slice (some ad289) (rd_L3 l0_2 (ji28)).length c288_0) ∧ w'.cell? ad289 = some (.int .i64 (rd (rd_L3 l0_2 (ji28)) 0)) ∧ w'.cell? ad290 = some (.int .i64 (rd (rd_L3 l0_2 x49_2) 0))) (ds := []) (bl 22 0) (by kernel_rfl) rfl rfl ⟨bq BK281 0, bq BK281 1, bq BK281 2, bq BK281 3, bq BK281 4, ((HB.out.cell (World.block_lt_of_cell? w _ hw288_0)).trans hw288_0), ((HB.out.cell (World.block_lt_of_cell? w _ hw289_0)).trans hw289_0), ((HB.out.cell (World.block_lt_of_cell? w _ hw290_0)).trans hw290_0)⟩ (fun hHeld => ?_); refine with_tabW impl_GoodBoard.tab6 impl_GoodBoard.bits6 (fun HT_ HW_ => ?_)
          generalize wr.drew = w33 at BK281 HB HR288_0 hx288_0 hx289_0 hx290_0 hHeld ⊢
          refine pureA 1 (some 55) 22 2 HT_ ?_
          refine takeA 0 (some 54) 22 3 HT_ HW_ hHeld ?_ (hy := by rintro w' ⟨s0, s1, s2, s3, s4, s5, s6, s7⟩; go_simp; with_reducible rfl)
          refine oneA 2 (some 56) 22 7 HT_ (fun K hK => ?_)
          refine goes_ Try.func127 (by kernel_rfl) rfl #[.agg #[.int .i64 a0_0, .int .i64 a0_1, .slice (some ad286) l0_2.length c0_2, .slice A0_3 l0_3.length c0_3, .slice A0_4 l0_4.length c0_4], .slice (some ad290) (rd_L3 l0_2 x49_2).length c286_0] (by rfl) rfl rfl (by (try simp only [List.map_toArray, List.map_cons, List.map_nil]); first | done | rfl | (simp only [List.length_drop, List.length_take]; rfl)) ?_
          with_reducible refine (impl_Board_isSigned.calls a0_0 a0_1 _ _ l0_2 _ _ l0_3 _ _ l0_4 _ _ (rd_L3 l0_2 x49_2) true _ ?side1 ?side2 ?side3 ?side4 ?side5 ?side6 ?side7 ?side8 A25.out).mono ?_
          (case side1 => exact cd (Kd.C_below HR0_2.out HB.out))
          (case side2 => exact HC0_2.out)
          (case side3 => exact cd (Kd.C_below HR0_3.out HB.out))
          (case side4 => exact HC0_3.out)
          (case side5 => exact cd (Kd.C_below HR0_4.out HB.out))
          (case side6 => exact HC0_4.out)
          (case side7 => exact cd (Kd.C_below HR286_0.out HB.out))
          (case side8 => exact HC286_0.out)
          rintro e w34 ⟨rfl, hb⟩
          refine ⟨_, rfl, ?_⟩
          replace BK281 := ak (blk_below (blkd BK281) hb)
          replace HB := ak (below_step (belowg1 HB GE281) hb)
          (try clear hb); (try clear hb2); (try clear hk); (try clear hi)
          refine hK.out _ _ ⟨bq BK281 0, bq BK281 1, bq BK281 2, bq BK281 3, bq BK281 4, ((HB.out.cell (World.block_lt_of_cell? w _ hw288_0)).trans hw288_0), ((HB.out.cell (World.block_lt_of_cell? w _ hw289_0)).trans hw289_0), ((HB.out.cell (World.block_lt_of_cell? w _ hw290_0)).trans hw290_0)⟩ (fun hHeld => ?_)
          clear hK K
          refine norm_ (a' := ?_) ?_ ?_
          rotate_left
          ·show Act.put _ (some 56) _ = _
           simp only [Act.put, List.setIfInBounds_toArray, List.set_cons_zero, List.set_cons_succ, i64_w, i32_w]
           rfl
          refine pureA 3 (some 57) 22 15 HT_ ?_
          refine pureA 4 (some 58) 22 31 HT_ ?_
          refine pureA 5 (some 59) 22 63 HT_ ?_
          refine pureA 6 (some 60) 22 127 HT_ ?_
          refine pureA 7 (some 61) 22 255 HT_ ?_
          refine pureA 8 (some 62) 22 511 HT_ ?_
          refine pureA 10 (some 64) 22 1535 HT_ ?_
          refine pureA 11 (some 65) 22 3583 HT_ ?_
          refine pureA 16 (some 70) 22 69119 HT_ ?_
          refine pureA 17 (some 71) 22 200191 HT_ ?_
          refine takeA 9 (some 63) 22 200703 HT_ HW_ hHeld ?_ (hy := by rintro w' ⟨s0, s1, s2, s3, s4, s5, s6, s7⟩; go_simp; with_reducible rfl)
          refine pureA 12 (some 66) 22 204799 HT_ ?_
          refine takeA 13 (some 67) 22 212991 HT_ HW_ hHeld ?_ (hy := by rintro w' ⟨s0, s1, s2, s3, s4, s5, s6, s7⟩; go_simp; with_reducible rfl)
          refine pureA 14 (some 68) 22 229375 HT_ ?_
          refine takeA 15 (some 69) 22 262143 HT_ HW_ hHeld ?_ (hy := by rintro w' ⟨s0, s1, s2, s3, s4, s5, s6, s7⟩; go_simp; with_reducible rfl)
          refine takeA 18 (some 72) 22 524287 HT_ HW_ hHeld ?_ (hy := by rintro w' ⟨s0, s1, s2, s3, s4, s5, s6, s7⟩; go_simp; with_reducible rfl)
          refine pureA 19 (some 73) 22 1048575 HT_ ?_
          refine pureA 20 (some 74) 22 2097151 HT_ ?_
          refine pureA 21 (some 75) 22 4194303 HT_ ?_
          refine done_ (done_of HT_.out (by kernel_rfl)) ?_
          try go_wp2
          go_meet
          case rel => exact ⟨_, (decide ((rd (rd_L3 l0_2 (ji28)) 0) > (rd (rd_L3 l0_2 x49_2) 0))), (by first | rfl | (simp; done) | (simp only [← hji28] <;> (first | rfl | simp)) | (simp [*]; done)), H', ⟨by have := HJ1.out; have := HK2.out; first | omega | exact Nat.le_refl _⟩, ⟨blkd BK281⟩, ⟨belowg1 HB GE281⟩⟩
         ·rw [if_neg c27] at H
          have c27b0 : decide (0 < x49_2) = false := decide_eq_false c27
          clear c27
          (first | rw [c27b0] | (simp only [i64_w, i32_w]; rw [c27b0]) | skip)
          have H' := Aside0.mk H
          clear H
          try go_wp2
          replace BK281 := ak (blk_drew BK281.out)
          replace HB := ak (below_drew1 HB.out)
          refine start_ (n := 22) (S := fun w' => w'.cell? ⟨gb281, 0, none⟩ = some (.int .i64 a0_0) ∧ w'.cell? ⟨gb281, 1, none⟩ = some (.int .i64 a0_1) ∧ w'.cell? ⟨gb281, 2, none⟩ = some (.slice (some ad286) l0_2.length c0_2) ∧ w'.cell? ⟨gb281, 3, none⟩ = some (.slice A0_3 l0_3.length c0_3) ∧ w'.cell? ⟨gb281, 4, none⟩ = some (.slice A0_4 l0_4.length c0_4)) (ds := []) (bl 22 0) (by kernel_rfl) rfl rfl ⟨bq BK281 0, bq BK281 1, bq BK281 2, bq BK281 3, bq BK281 4⟩ (fun hHeld => ?_); refine with_tabW impl_GoodBoard.tab6 impl_GoodBoard.bits6 (fun HT_ HW_ => ?_)
          generalize wr.drew = w35 at BK281 HB hHeld ⊢
          refine pureA 1 (some 55) 22 2 HT_ ?_
          refine takeA 0 (some 54) 22 3 HT_ HW_ hHeld ?_ (hy := by rintro w' ⟨s0, s1, s2, s3, s4⟩; go_simp; with_reducible rfl)
          refine oneA 2 (some 56) 22 7 HT_ (fun K hK => ?_)
          refine goes_ Try.func127 (by kernel_rfl) rfl #[.agg #[.int .i64 a0_0, .int .i64 a0_1, .slice (some ad286) l0_2.length c0_2, .slice A0_3 l0_3.length c0_3, .slice A0_4 l0_4.length c0_4], .slice A286_0 (rd_L3 l0_2 x49_2).length c286_0] (by rfl) rfl rfl (by (try simp only [List.map_toArray, List.map_cons, List.map_nil]); first | done | rfl | (simp only [List.length_drop, List.length_take]; rfl)) ?_
          with_reducible refine (impl_Board_isSigned.calls a0_0 a0_1 _ _ l0_2 _ _ l0_3 _ _ l0_4 _ _ (rd_L3 l0_2 x49_2) true _ ?side1 ?side2 ?side3 ?side4 ?side5 ?side6 ?side7 ?side8 A25.out).mono ?_
          (case side1 => exact cd (Kd.C_below HR0_2.out HB.out))
          (case side2 => exact HC0_2.out)
          (case side3 => exact cd (Kd.C_below HR0_3.out HB.out))
          (case side4 => exact HC0_3.out)
          (case side5 => exact cd (Kd.C_below HR0_4.out HB.out))
          (case side6 => exact HC0_4.out)
          (case side7 => exact cd (Kd.C_below HR286_0.out HB.out))
          (case side8 => exact HC286_0.out)
          rintro e w36 ⟨rfl, hb⟩
          refine ⟨_, rfl, ?_⟩
          replace BK281 := ak (blk_below (blkd BK281) hb)
          replace HB := ak (below_step (belowg1 HB GE281) hb)
          (try clear hb); (try clear hb2); (try clear hk); (try clear hi)
          refine hK.out _ _ ⟨bq BK281 0, bq BK281 1, bq BK281 2, bq BK281 3, bq BK281 4⟩ (fun hHeld => ?_)
          clear hK K
          refine norm_ (a' := ?_) ?_ ?_
          rotate_left
          ·show Act.put _ (some 56) _ = _
           simp only [Act.put, List.setIfInBounds_toArray, List.set_cons_zero, List.set_cons_succ, i64_w, i32_w]
           rfl
          refine pureA 3 (some 57) 22 15 HT_ ?_
          refine pureA 4 (some 58) 22 31 HT_ ?_
          refine pureA 5 (some 59) 22 63 HT_ ?_
          refine pureA 6 (some 60) 22 127 HT_ ?_
          refine pureA 7 (some 61) 22 255 HT_ ?_
          refine pureB 8 (some 62) 22 511 HT_ ?_
          refine pureB 9 (some 63) 22 1023 HT_ ?_
          refine pureB 10 (some 64) 22 2047 HT_ ?_
          refine pureB 11 (some 65) 22 4095 HT_ ?_
          refine pureB 12 (some 66) 22 8191 HT_ ?_
          refine pureB 13 (some 67) 22 16383 HT_ ?_
          refine pureB 14 (some 68) 22 32767 HT_ ?_
          refine pureB 15 (some 69) 22 65535 HT_ ?_
          refine pureB 16 (some 70) 22 131071 HT_ ?_
          refine pureB 17 (some 71) 22 262143 HT_ ?_
          refine pureB 18 (some 72) 22 524287 HT_ ?_
          refine pureB 19 (some 73) 22 1048575 HT_ ?_
          refine pureA 20 (some 74) 22 2097151 HT_ ?_
          refine pureA 21 (some 75) 22 4194303 HT_ ?_
          refine done_ (done_of HT_.out (by kernel_rfl)) ?_
          try go_wp2
          go_meet
          case rel => exact ⟨_, (false), er, H', ⟨by have := HJ1.out; have := HK2.out; first | omega | exact Nat.le_refl _⟩, ⟨blkd BK281⟩, ⟨belowg1 HB GE281⟩⟩
        ·replace c26 := Bool.eq_false_iff.mpr c26
         subst c26
         have H1 : (impl_GoodBoard.j2 k2 x49_2 (rd_L3 l0_2 x49_2) l0_2 (l0_2.length : Int) x49_2 true a0_0 a0_1 l0_2 l0_3 l0_4) = some r := by rw [if_neg (show ¬ (false = true) by decide)] at H; exact H
         clear H
         have H := H1
         clear H1
         have H' := Aside0.mk H
         clear H
         try go_wp2
         replace BK281 := ak (blk_drew BK281.out)
         replace HB := ak (below_drew1 HB.out)
         refine start_ (n := 22) (S := fun w' => w'.cell? ⟨gb281, 0, none⟩ = some (.int .i64 a0_0) ∧ w'.cell? ⟨gb281, 1, none⟩ = some (.int .i64 a0_1) ∧ w'.cell? ⟨gb281, 2, none⟩ = some (.slice (some ad286) l0_2.length c0_2) ∧ w'.cell? ⟨gb281, 3, none⟩ = some (.slice A0_3 l0_3.length c0_3) ∧ w'.cell? ⟨gb281, 4, none⟩ = some (.slice A0_4 l0_4.length c0_4)) (ds := []) (bl 22 0) (by kernel_rfl) rfl rfl ⟨bq BK281 0, bq BK281 1, bq BK281 2, bq BK281 3, bq BK281 4⟩ (fun hHeld => ?_); refine with_tabW impl_GoodBoard.tab6 impl_GoodBoard.bits6 (fun HT_ HW_ => ?_)
         generalize wr.drew = w37 at BK281 HB hHeld ⊢
         refine pureA 1 (some 55) 22 2 HT_ ?_
         refine takeA 0 (some 54) 22 3 HT_ HW_ hHeld ?_ (hy := by rintro w' ⟨s0, s1, s2, s3, s4⟩; go_simp; with_reducible rfl)
         refine oneA 2 (some 56) 22 7 HT_ (fun K hK => ?_)
         refine goes_ Try.func127 (by kernel_rfl) rfl #[.agg #[.int .i64 a0_0, .int .i64 a0_1, .slice (some ad286) l0_2.length c0_2, .slice A0_3 l0_3.length c0_3, .slice A0_4 l0_4.length c0_4], .slice A286_0 (rd_L3 l0_2 x49_2).length c286_0] (by rfl) rfl rfl (by (try simp only [List.map_toArray, List.map_cons, List.map_nil]); first | done | rfl | (simp only [List.length_drop, List.length_take]; rfl)) ?_
         with_reducible refine (impl_Board_isSigned.calls a0_0 a0_1 _ _ l0_2 _ _ l0_3 _ _ l0_4 _ _ (rd_L3 l0_2 x49_2) false _ ?side1 ?side2 ?side3 ?side4 ?side5 ?side6 ?side7 ?side8 A25.out).mono ?_
         (case side1 => exact cd (Kd.C_below HR0_2.out HB.out))
         (case side2 => exact HC0_2.out)
         (case side3 => exact cd (Kd.C_below HR0_3.out HB.out))
         (case side4 => exact HC0_3.out)
         (case side5 => exact cd (Kd.C_below HR0_4.out HB.out))
         (case side6 => exact HC0_4.out)
         (case side7 => exact cd (Kd.C_below HR286_0.out HB.out))
         (case side8 => exact HC286_0.out)
         rintro e w38 ⟨rfl, hb⟩
         refine ⟨_, rfl, ?_⟩
         replace BK281 := ak (blk_below (blkd BK281) hb)
         replace HB := ak (below_step (belowg1 HB GE281) hb)
         (try clear hb); (try clear hb2); (try clear hk); (try clear hi)
         refine hK.out _ _ ⟨bq BK281 0, bq BK281 1, bq BK281 2, bq BK281 3, bq BK281 4⟩ (fun hHeld => ?_)
         clear hK K
         refine norm_ (a' := ?_) ?_ ?_
         rotate_left
         ·show Act.put _ (some 56) _ = _
          simp only [Act.put, List.setIfInBounds_toArray, List.set_cons_zero, List.set_cons_succ, i64_w, i32_w]
          rfl
         refine pureA 3 (some 57) 22 15 HT_ ?_
         refine pureA 4 (some 58) 22 31 HT_ ?_
         refine pureB 5 (some 59) 22 63 HT_ ?_
         refine pureB 6 (some 60) 22 127 HT_ ?_
         refine pureB 7 (some 61) 22 255 HT_ ?_
         refine pureB 8 (some 62) 22 511 HT_ ?_
         refine pureB 9 (some 63) 22 1023 HT_ ?_
         refine pureB 10 (some 64) 22 2047 HT_ ?_
         refine pureB 11 (some 65) 22 4095 HT_ ?_
         refine pureB 12 (some 66) 22 8191 HT_ ?_
         refine pureB 13 (some 67) 22 16383 HT_ ?_
         refine pureB 14 (some 68) 22 32767 HT_ ?_
         refine pureB 15 (some 69) 22 65535 HT_ ?_
         refine pureB 16 (some 70) 22 131071 HT_ ?_
         refine pureB 17 (some 71) 22 262143 HT_ ?_
         refine pureB 18 (some 72) 22 524287 HT_ ?_
         refine pureB 19 (some 73) 22 1048575 HT_ ?_
         refine pureB 20 (some 74) 22 2097151 HT_ ?_
         refine pureA 21 (some 75) 22 4194303 HT_ ?_
         refine done_ (done_of HT_.out (by kernel_rfl)) ?_
         try go_wp2
         go_meet
         case rel => exact ⟨_, (true), er, H', ⟨by have := HJ1.out; have := HK2.out; first | omega | exact Nat.le_refl _⟩, ⟨blkd BK281⟩, ⟨belowg1 HB GE281⟩⟩
       case rest =>
        clear HC24
        obtain ⟨kq, x75_23, rfl, HA, HJ23, BK281, HB⟩ := hcut
        cases kq with
        | zero => exact absurd HA.out (by simp [impl_GoodBoard.j2])
        | succ kj23 =>
         have H := HA.out; clear HA
         simp only [impl_GoodBoard.j2] at H
         by_cases c39 : x75_23 = true
         ·subst c39
          have H1 : (some false) = some r := by rw [if_pos rfl] at H; exact H
          clear H
          have H := H1
          clear H1
          obtain rfl := Option.some.inj H
          go_wp2
          go_ret
          exact ⟨er2, belowg1 HB GE281⟩
         ·replace c39 := Bool.eq_false_iff.mpr c39
          subst c39
          have H1 : (if 0 ≤ x49_2 then (if x49_2 ≤ (l0_2.length : Int) then ((some (l0_2.take (x49_2 : Int).toNat : List (List Int))).bind fun y291 => (impl_GoodBoard.l1 kj23 (rd_L3 l0_2 x49_2) l0_2 (l0_2.length : Int) x49_2 y291 (y291.length : Int) 0 a0_0 a0_1 l0_2 l0_3 l0_4)) else (none)) else (none)) = some r := by rw [if_neg (show ¬ (false = true) by decide)] at H; exact H
          clear H
          have H := H1
          clear H1; replace H := ifS H; obtain ⟨c40, H⟩ := H; have c40b0 := eq_true c40
          have c40b1 : decide (0 ≤ x49_2) = true := decide_eq_true c40
          clear c40; replace H := ifS H; obtain ⟨c41, H⟩ := H; have c41b0 := eq_true c41
          have c41b1 : decide (x49_2 ≤ (l0_2.length : Int)) = true := decide_eq_true c41
          clear c41
          obtain ⟨y291, hy_⟩ : ∃ y_ : List (List Int), y_ = (l0_2.take (x49_2 : Int).toNat) := ⟨_, rfl⟩
          replace H : (impl_GoodBoard.l1 kj23 (rd_L3 l0_2 x49_2) l0_2 (l0_2.length : Int) x49_2 y291 (y291.length : Int) 0 a0_0 a0_1 l0_2 l0_3 l0_4) = some r := yH
          have Ny291 := ak hy_; clear hy_
          have H' := Aside0.mk H
          clear H; obtain ⟨hcz42_0, hcz42_1, hcz42_2, hcz42_3, hcz42_4, hfz42_0, hfz42_1, hfz42_2, hfz42_3, hfz42_4⟩ := box5 BK281
          have q43 : (x49_2 : Int) ≤ ((l0_2.length : Int) : Int) := da
          obtain ⟨i043, hi043, _, hsz43, _⟩ := info_parts info23
          have hroom43 : l0_2.length ≤ c0_2 := HC0_2.out
          have hC43 : Kd.C (Kd.slice 3 (Kd.int .i64)) _ (some ad286) l0_2.length l0_2 := HR0_2.out
          have hcut43 := cut_to (P := Try.prog) 45 23 .i64 Try.underlying45 hi043 (some ad286) l0_2.length c0_2 x49_2 (da) q43 hroom43
          have hr43 := Kd.C_take (m := (x49_2 : Int).toNat) hC43 (by omega)
          have hy43 : y291.length = (x49_2 : Int).toNat := (by rw [Ny291.out, List.length_take]; omega)
          rw [← Ny291.out] at hr43
          rw [← hy43] at hcut43
          have HR294 := Aside0.mk hr43
          have HC294 := Aside0.mk (show y291.length ≤ c0_2 from by omega)
          clear hr43 hC43 hroom43 hi043 hsz43; have KY43 := Aside0.mk hy43; clear hy43; replace q43 := eq_true q43; go_wp2
          go_loopg [81] kj23 (fun kq v81 w' => ∃ (x81_4 : Int), v81 = .int .i64 x81_4 ∧ Aside0 (impl_GoodBoard.l1 kq (rd_L3 l0_2 x49_2) l0_2 (l0_2.length : Int) x49_2 y291 (y291.length : Int) x81_4 a0_0 a0_1 l0_2 l0_3 l0_4 = some r) ∧ Aside0 (kq ≤ kj23) ∧ Aside0 (w'.heap[gb281]? = some (.cells #[.int .i64 a0_0, .int .i64 a0_1, (.slice (some ad286) l0_2.length c0_2), (.slice A0_3 l0_3.length c0_3), (.slice A0_4 l0_4.length c0_4)] 47 (0, 0))) ∧ Aside0 (Below w.heap.size w w'))
          case atStart => exact ⟨(0), er, H', ⟨Nat.le_refl _⟩, ⟨blkd BK281⟩, ⟨belowg1 HB GE281⟩⟩
          case round =>
           clear H'
           (try clear c39); (try clear c40b0); (try clear c40b1); (try clear c41b0); (try clear c41b1); (try clear q43); (try clear hcz42_0); (try clear hcz42_1); (try clear hcz42_2); (try clear hcz42_3); (try clear hcz42_4); (try clear hfz42_0); (try clear hfz42_1); (try clear hfz42_2); (try clear hfz42_3); (try clear hfz42_4)
           obtain ⟨x81_4, rfl, HA, HK4, BK281, HB⟩ := hrel
           cases gk with
           | zero => exact absurd HA.out (by simp [impl_GoodBoard.l1])
           | succ k4 =>
            have H := HA.out; clear HA
            simp only [impl_GoodBoard.l1] at H
            by_cases c44 : x81_4 < (y291.length : Int)
            ·rw [if_pos c44] at H
             have c44b0 : decide (x81_4 < (y291.length : Int)) = true := decide_eq_true c44
             clear c44; replace H := ifS H; obtain ⟨c45, H⟩ := H; have c45b0 := decide_eq_true c45; clear c45; replace H := ifS H; obtain ⟨c46, H⟩ := H; have c46b0 := decide_eq_true c46; clear c46; replace H := ifS H; obtain ⟨c47, H⟩ := H; have c47b0 := eq_true c47
             have c47b1 : decide (2 ≤ ((rd_L3 y291 x81_4).length : Int)) = true := decide_eq_true c47
             clear c47; replace H := ifS H; obtain ⟨c48, H⟩ := H; have c48b0 := eq_true c48
             have c48b1 : decide (2 ≤ ((rd_L3 l0_2 x49_2).length : Int)) = true := decide_eq_true c48
             clear c48; replace H := bS H; obtain ⟨t298, A49, H⟩ := H
             replace H : (if t298 = true then (if 2 < ((rd_L3 y291 x81_4).length : Int) then (if 2 < ((rd_L3 l0_2 x49_2).length : Int) then (if (rd (rd_L3 y291 x81_4) 2) = (rd (rd_L3 l0_2 x49_2) 2) then (some false) else (if 1 < ((rd_L3 l0_2 x49_2).length : Int) then ((slices_Contains_int_int.f k4 l0_3 (rd (rd_L3 l0_2 x49_2) 1)).bind fun t302 => (if t302 = true then (impl_GoodBoard.l1 k4 (rd_L3 l0_2 x49_2) l0_2 (l0_2.length : Int) x49_2 y291 (y291.length : Int) (wrap64 (x81_4 + 1)) a0_0 a0_1 l0_2 l0_3 l0_4) else (some false))) else (none))) else (none)) else (none)) else (impl_GoodBoard.l1 k4 (rd_L3 l0_2 x49_2) l0_2 (l0_2.length : Int) x49_2 y291 (y291.length : Int) (wrap64 (x81_4 + 1)) a0_0 a0_1 l0_2 l0_3 l0_4)) = some r := H
             by_cases c50 : t298 = true
             ·subst c50
              have H1 : (if 2 < ((rd_L3 y291 x81_4).length : Int) then (if 2 < ((rd_L3 l0_2 x49_2).length : Int) then (if (rd (rd_L3 y291 x81_4) 2) = (rd (rd_L3 l0_2 x49_2) 2) then (some false) else (if 1 < ((rd_L3 l0_2 x49_2).length : Int) then ((slices_Contains_int_int.f k4 l0_3 (rd (rd_L3 l0_2 x49_2) 1)).bind fun t302 => (if t302 = true then (impl_GoodBoard.l1 k4 (rd_L3 l0_2 x49_2) l0_2 (l0_2.length : Int) x49_2 y291 (y291.length : Int) (wrap64 (x81_4 + 1)) a0_0 a0_1 l0_2 l0_3 l0_4) else (some false))) else (none))) else (none)) else (none)) = some r := by rw [if_pos rfl] at H; exact H
              clear H
              have H := H1
              clear H1; replace H := ifS H; obtain ⟨c51, H⟩ := H; have c51b0 := decide_eq_true c51
              have c51b1 : decide (2 < (rd_L3 y291 x81_4).length) = true := decide_eq_true (by omega)
              clear c51; replace H := ifS H; obtain ⟨c52, H⟩ := H; have c52b0 := decide_eq_true c52
              have c52b1 : decide (2 < (rd_L3 l0_2 x49_2).length) = true := decide_eq_true (by omega)
              clear c52
              by_cases c53 : (rd (rd_L3 y291 x81_4) 2) = (rd (rd_L3 l0_2 x49_2) 2)
              ·rw [if_pos c53] at H
               have c53b0 : ((rd (rd_L3 y291 x81_4) 2) == (rd (rd_L3 l0_2 x49_2) 2)) = true := beq_iff_eq.mpr c53
               have c53b1 : ((rd (rd_L3 y291 x81_4) 2) != (rd (rd_L3 l0_2 x49_2) 2)) = false := bne_eq_false_iff_eq.mpr c53
               clear c53
               obtain rfl := Option.some.inj H
               have p295 : 0 ≤ (x81_4 : Int) := da
               have q295 : x81_4 < (y291.length : Int) := da
               obtain ⟨ad295, A295_0, c295_0, e295, hx295_0, hl295_0, hi295_0⟩ := at_L3 HR294.out x81_4 p295 q295
               obtain rfl : ad286 = ad295 := (by injection e295)
               replace hx295_0 := (HB.out.cell (World.block_lt_of_cell? w _ hx295_0)).trans hx295_0
               have HR295_0 := Aside0.mk hi295_0; have HC295_0 := Aside0.mk hl295_0; clear hi295_0 hl295_0; replace p295 := eq_true p295; replace q295 := eq_true q295
               try go_wp2
               replace BK281 := ak (blk_drew BK281.out)
               replace HB := ak (below_drew1 HB.out)
               obtain ⟨i055, hi055, _, hsz55, _⟩ := info_parts info3
               obtain ⟨hcut55, hA55, hC55⟩ := print_take_of (P := Try.prog) (Value.int .i64) 0 23 3 .i64 Try.underlying23 hi055 hsz55 A295_0 c295_0 (rd_L3 y291 x81_4) 2 (by omega) (da) HC295_0.out
               have HR296 := Aside0.mk (Kd.C_of_reads (h1 := fun _ => rfl) (hA55 _ (Kd.reads_of_C HR295_0.out)))
               have HC296 := Aside0.mk hC55; clear hA55 hC55 hi055 hsz55
               obtain ⟨i056, hi056, _, hsz56, _⟩ := info_parts info3
               obtain ⟨hcut56, hA56, hC56⟩ := print_take_of (P := Try.prog) (Value.int .i64) 0 23 3 .i64 Try.underlying23 hi056 hsz56 A286_0 c286_0 (rd_L3 l0_2 x49_2) 2 (by omega) (da) HC286_0.out
               have HR297 := Aside0.mk (Kd.C_of_reads (h1 := fun _ => rfl) (hA56 _ (Kd.reads_of_C HR286_0.out)))
               have HC297 := Aside0.mk hC56; clear hA56 hC56 hi056 hsz56
               have p299 : 0 ≤ (2 : Int) := (by omega)
               have q299 : 2 < ((rd_L3 y291 x81_4).length : Int) := da
               obtain ⟨ad299, e299, hx299_0⟩ := Kd.at_int HR295_0.out 2 p299 q299
               have hw299_0 := hx299_0
               (try rw [show ((2 : Int)).toNat = 2 from rfl] at hw299_0)
               (try rw [show 2 * 1 = 2 from rfl] at hw299_0)
               (try simp only [Nat.reduceMul, Nat.reduceEqDiff, Go.Addr.add, ↓reduceIte] at hw299_0)
               cases e299
               (try simp only [show (2 : Int).toNat = 2 from rfl, Nat.reduceMul, Nat.reduceEqDiff, Go.Addr.add, ↓reduceIte] at hx299_0)
               have qi299 : (2 < (rd_L3 y291 x81_4).length) = True := eq_true (by omega)
               (try rw [show ((2 : Int)).toNat = 2 from rfl] at hx299_0)
               replace hx299_0 := (HB.out.cell (World.block_lt_of_cell? w _ hx299_0)).trans hx299_0
               replace p299 := eq_true p299; replace q299 := eq_true q299
               have p300 : 0 ≤ (2 : Int) := (by omega)
               have q300 : 2 < ((rd_L3 l0_2 x49_2).length : Int) := da
               obtain ⟨ad300, e300, hx300_0⟩ := Kd.at_int HR286_0.out 2 p300 q300
               have hw300_0 := hx300_0
               (try rw [show ((2 : Int)).toNat = 2 from rfl] at hw300_0)
               (try rw [show 2 * 1 = 2 from rfl] at hw300_0)
               (try simp only [Nat.reduceMul, Nat.reduceEqDiff, Go.Addr.add, ↓reduceIte] at hw300_0)
               cases e300
               (try simp only [show (2 : Int).toNat = 2 from rfl, Nat.reduceMul, Nat.reduceEqDiff, Go.Addr.add, ↓reduceIte] at hx300_0)
               have qi300 : (2 < (rd_L3 l0_2 x49_2).length) = True := eq_true (by omega)
               (try rw [show ((2 : Int)).toNat = 2 from rfl] at hx300_0)
               replace hx300_0 := (HB.out.cell (World.block_lt_of_cell? w _ hx300_0)).trans hx300_0
               replace p300 := eq_true p300; replace q300 := eq_true q300
               refine start_ (n := 23) (S := fun w' => w'.cell? ⟨ad299.block, ad299.off + 2, none⟩ = some (.int .i64 (rd (rd_L3 y291 x81_4) 2)) ∧ w'.cell? ⟨ad300.block, ad300.off + 2, none⟩ = some (.int .i64 (rd (rd_L3 l0_2 x49_2) 2))) (ds := []) (bl 23 0) (by kernel_rfl) rfl rfl ⟨((HB.out.cell (World.block_lt_of_cell? w _ hw299_0)).trans hw299_0), ((HB.out.cell (World.block_lt_of_cell? w _ hw300_0)).trans hw300_0)⟩ (fun hHeld => ?_); refine with_tabW impl_GoodBoard.tab11 impl_GoodBoard.bits11 (fun HT_ HW_ => ?_)
               generalize wr.drew = w54 at BK281 HB HR296 HR297 hx299_0 hx300_0 hHeld ⊢
               refine pureA 0 (some 85) 23 1 HT_ ?_
               refine pureA 1 (some 86) 23 3 HT_ ?_
               refine pureA 2 (some 87) 23 7 HT_ ?_
               refine pureA 3 (some 88) 23 15 HT_ ?_
               refine oneA 4 (some 89) 23 31 HT_ (fun K hK => ?_)
               refine goes_ Try.func128 (by kernel_rfl) rfl #[.slice (some ad299) ((rd_L3 y291 x81_4).take 2).length c295_0, .slice (some ad300) ((rd_L3 l0_2 x49_2).take 2).length c286_0] (by rfl) rfl rfl (by (try simp only [List.map_toArray, List.map_cons, List.map_nil]); first | done | (rw [show ((rd_L3 y291 x81_4).take 2).length = 2 from (by rw [List.length_take]; have h_ : (2 : Int) ≤ ((rd_L3 y291 x81_4).length : Int) := da; omega)] <;> rfl) | (rw [show ((rd_L3 l0_2 x49_2).take 2).length = 2 from (by rw [List.length_take]; have h_ : (2 : Int) ≤ ((rd_L3 l0_2 x49_2).length : Int) := da; omega)] <;> rfl) | rfl | (simp only [List.length_drop, List.length_take]; rfl)) ?_
               with_reducible refine (slices_Equal_int_int.calls k4 _ _ ((rd_L3 y291 x81_4).take 2) _ _ ((rd_L3 l0_2 x49_2).take 2) true _ ?side1 ?side2 ?side3 ?side4 A49.out).mono ?_
               (case side1 => exact cd (Kd.C_below HR296.out HB.out))
               (case side2 => exact HC296.out)
               (case side3 => exact cd (Kd.C_below HR297.out HB.out))
               (case side4 => exact HC297.out)
               rintro e w' ⟨rfl, ⟨nd, rfl⟩⟩
               refine ⟨_, rfl, ?_⟩
               refine hK.out _ _ ⟨((HB.out.cell (World.block_lt_of_cell? w _ hw299_0)).trans hw299_0), ((HB.out.cell (World.block_lt_of_cell? w _ hw300_0)).trans hw300_0)⟩ (fun hHeld => ?_)
               clear hK K
               refine norm_ (a' := ?_) ?_ ?_
               rotate_left
               ·show Act.put _ (some 89) _ = _
                simp only [Act.put, List.setIfInBounds_toArray, List.set_cons_zero, List.set_cons_succ, i64_w, i32_w]
                rfl
               refine pureA 5 (some 90) 23 63 HT_ ?_
               refine pureA 6 (some 91) 23 127 HT_ ?_
               refine pureA 7 (some 92) 23 255 HT_ ?_
               refine pureA 9 (some 94) 23 767 HT_ ?_
               refine pureA 10 (some 95) 23 1791 HT_ ?_
               refine takeA 8 (some 93) 23 2047 HT_ HW_ hHeld ?_ (hy := by rintro w' ⟨s0, s1⟩; go_simp; with_reducible rfl)
               refine takeA 11 (some 96) 23 4095 HT_ HW_ hHeld ?_ (hy := by rintro w' ⟨s0, s1⟩; go_simp; with_reducible rfl)
               refine pureA 12 (some 97) 23 8191 HT_ ?_
               refine pureA 13 (some 98) 23 16383 HT_ ?_
               refine pureB 14 (some 99) 23 32767 HT_ ?_
               refine pureB 15 (some 100) 23 65535 HT_ ?_
               refine pureB 16 (some 101) 23 131071 HT_ ?_
               refine pureB 17 (some 102) 23 262143 HT_ ?_
               refine pureB 18 (some 103) 23 524287 HT_ ?_
               refine pureB 19 (some 104) 23 1048575 HT_ ?_
               refine pureB 20 (some 105) 23 2097151 HT_ ?_
               refine pureA 21 (some 106) 23 4194303 HT_ ?_
               refine pureA 22 (some 107) 23 8388607 HT_ ?_
               refine done_ (done_of HT_.out (by kernel_rfl)) ?_
               try go_wp2
               go_ret
               exact ⟨er2, belowg1 HB GE281⟩
              ·rw [if_neg c53] at H
               have c53b0 : ((rd (rd_L3 y291 x81_4) 2) == (rd (rd_L3 l0_2 x49_2) 2)) = false := beq_eq_false_iff_ne.mpr c53
               have c53b1 : ((rd (rd_L3 y291 x81_4) 2) != (rd (rd_L3 l0_2 x49_2) 2)) = true := bne_iff_ne.mpr c53
               replace H := ifS H; obtain ⟨c57, H⟩ := H; have c57b0 := decide_eq_true c57
               have c57b1 : decide (1 < (rd_L3 l0_2 x49_2).length) = true := decide_eq_true (by omega)
               clear c57; replace H := bS H; obtain ⟨t302, A58, H⟩ := H
               replace H : (if t302 = true then (impl_GoodBoard.l1 k4 (rd_L3 l0_2 x49_2) l0_2 (l0_2.length : Int) x49_2 y291 (y291.length : Int) (wrap64 (x81_4 + 1)) a0_0 a0_1 l0_2 l0_3 l0_4) else (some false)) = some r := H
               by_cases c59 : t302 = true
               ·subst c59
                have H1 : (impl_GoodBoard.l1 k4 (rd_L3 l0_2 x49_2) l0_2 (l0_2.length : Int) x49_2 y291 (y291.length : Int) (wrap64 (x81_4 + 1)) a0_0 a0_1 l0_2 l0_3 l0_4) = some r := by rw [if_pos rfl] at H; exact H
                clear H
                have H := H1
                clear H1
                have H' := Aside0.mk H
                clear H
                have p295 : 0 ≤ (x81_4 : Int) := da
                have q295 : x81_4 < (y291.length : Int) := da
                obtain ⟨ad295, A295_0, c295_0, e295, hx295_0, hl295_0, hi295_0⟩ := at_L3 HR294.out x81_4 p295 q295
                obtain rfl : ad286 = ad295 := (by injection e295)
                replace hx295_0 := (HB.out.cell (World.block_lt_of_cell? w _ hx295_0)).trans hx295_0
                have HR295_0 := Aside0.mk hi295_0; have HC295_0 := Aside0.mk hl295_0; clear hi295_0 hl295_0; replace p295 := eq_true p295; replace q295 := eq_true q295
                try go_wp2
                replace BK281 := ak (blk_drew BK281.out)
                replace HB := ak (below_drew1 HB.out)
                obtain ⟨i061, hi061, _, hsz61, _⟩ := info_parts info3
                obtain ⟨hcut61, hA61, hC61⟩ := print_take_of (P := Try.prog) (Value.int .i64) 0 23 3 .i64 Try.underlying23 hi061 hsz61 A295_0 c295_0 (rd_L3 y291 x81_4) 2 (by omega) (da) HC295_0.out
                have HR296 := Aside0.mk (Kd.C_of_reads (h1 := fun _ => rfl) (hA61 _ (Kd.reads_of_C HR295_0.out)))
                have HC296 := Aside0.mk hC61; clear hA61 hC61 hi061 hsz61
                obtain ⟨i062, hi062, _, hsz62, _⟩ := info_parts info3
                obtain ⟨hcut62, hA62, hC62⟩ := print_take_of (P := Try.prog) (Value.int .i64) 0 23 3 .i64 Try.underlying23 hi062 hsz62 A286_0 c286_0 (rd_L3 l0_2 x49_2) 2 (by omega) (da) HC286_0.out
                have HR297 := Aside0.mk (Kd.C_of_reads (h1 := fun _ => rfl) (hA62 _ (Kd.reads_of_C HR286_0.out)))
                have HC297 := Aside0.mk hC62; clear hA62 hC62 hi062 hsz62
                have p299 : 0 ≤ (2 : Int) := (by omega)
                have q299 : 2 < ((rd_L3 y291 x81_4).length : Int) := da
                obtain ⟨ad299, e299, hx299_0⟩ := Kd.at_int HR295_0.out 2 p299 q299
                have hw299_0 := hx299_0
                (try rw [show ((2 : Int)).toNat = 2 from rfl] at hw299_0)
                (try rw [show 2 * 1 = 2 from rfl] at hw299_0)
                (try simp only [Nat.reduceMul, Nat.reduceEqDiff, Go.Addr.add, ↓reduceIte] at hw299_0)
                cases e299
                (try simp only [show (2 : Int).toNat = 2 from rfl, Nat.reduceMul, Nat.reduceEqDiff, Go.Addr.add, ↓reduceIte] at hx299_0)
                have qi299 : (2 < (rd_L3 y291 x81_4).length) = True := eq_true (by omega)
                (try rw [show ((2 : Int)).toNat = 2 from rfl] at hx299_0)
                replace hx299_0 := (HB.out.cell (World.block_lt_of_cell? w _ hx299_0)).trans hx299_0
                replace p299 := eq_true p299; replace q299 := eq_true q299
                have p300 : 0 ≤ (2 : Int) := (by omega)
                have q300 : 2 < ((rd_L3 l0_2 x49_2).length : Int) := da
                obtain ⟨ad300, e300, hx300_0⟩ := Kd.at_int HR286_0.out 2 p300 q300
                have hw300_0 := hx300_0
                (try rw [show ((2 : Int)).toNat = 2 from rfl] at hw300_0)
                (try rw [show 2 * 1 = 2 from rfl] at hw300_0)
                (try simp only [Nat.reduceMul, Nat.reduceEqDiff, Go.Addr.add, ↓reduceIte] at hw300_0)
                cases e300
                (try simp only [show (2 : Int).toNat = 2 from rfl, Nat.reduceMul, Nat.reduceEqDiff, Go.Addr.add, ↓reduceIte] at hx300_0)
                have qi300 : (2 < (rd_L3 l0_2 x49_2).length) = True := eq_true (by omega)
                (try rw [show ((2 : Int)).toNat = 2 from rfl] at hx300_0)
                replace hx300_0 := (HB.out.cell (World.block_lt_of_cell? w _ hx300_0)).trans hx300_0
                replace p300 := eq_true p300; replace q300 := eq_true q300
                have p301 : 0 ≤ (1 : Int) := (by omega)
                have q301 : 1 < ((rd_L3 l0_2 x49_2).length : Int) := da
                obtain ⟨ad301, e301, hx301_0⟩ := Kd.at_int HR286_0.out 1 p301 q301
                have hw301_0 := hx301_0
                (try rw [show ((1 : Int)).toNat = 1 from rfl] at hw301_0)
                (try rw [show 1 * 1 = 1 from rfl] at hw301_0)
                (try simp only [Nat.reduceMul, Nat.reduceEqDiff, Go.Addr.add, ↓reduceIte] at hw301_0)
                obtain rfl : ad300 = ad301 := (by injection e301)
                (try simp only [show (1 : Int).toNat = 1 from rfl, Nat.reduceMul, Nat.reduceEqDiff, Go.Addr.add, ↓reduceIte] at hx301_0)
                have qi301 : (1 < (rd_L3 l0_2 x49_2).length) = True := eq_true (by omega)
                (try rw [show ((1 : Int)).toNat = 1 from rfl] at hx301_0)
                replace hx301_0 := (HB.out.cell (World.block_lt_of_cell? w _ hx301_0)).trans hx301_0
                replace p301 := eq_true p301; replace q301 := eq_true q301
                refine start_ (n := 23) (S := fun w' => w'.cell? ⟨gb281, 0, none⟩ = some (.int .i64 a0_0) ∧ w'.cell? ⟨gb281, 1, none⟩ = some (.int .i64 a0_1) ∧ w'.cell? ⟨gb281, 2, none⟩ = some (.slice (some ad286) l0_2.length c0_2) ∧ w'.cell? ⟨gb281, 3, none⟩ = some (.slice A0_3 l0_3.length c0_3) ∧ w'.cell? ⟨gb281, 4, none⟩ = some (.slice A0_4 l0_4.length c0_4) ∧ w'.cell? ⟨ad299.block, ad299.off + 2, none⟩ = some (.int .i64 (rd (rd_L3 y291 x81_4) 2)) ∧ w'.cell? ⟨ad300.block, ad300.off + 2, none⟩ = some (.int .i64 (rd (rd_L3 l0_2 x49_2) 2)) ∧ w'.cell? ⟨ad300.block, ad300.off + 1, none⟩ = some (.int .i64 (rd (rd_L3 l0_2 x49_2) 1))) (ds := []) (bl 23 0) (by kernel_rfl) rfl rfl ⟨bq BK281 0, bq BK281 1, bq BK281 2, bq BK281 3, bq BK281 4, ((HB.out.cell (World.block_lt_of_cell? w _ hw299_0)).trans hw299_0), ((HB.out.cell (World.block_lt_of_cell? w _ hw300_0)).trans hw300_0), ((HB.out.cell (World.block_lt_of_cell? w _ hw301_0)).trans hw301_0)⟩ (fun hHeld => ?_); refine with_tabW impl_GoodBoard.tab11 impl_GoodBoard.bits11 (fun HT_ HW_ => ?_)
                generalize wr.drew = w60 at BK281 HB HR296 HR297 hx299_0 hx300_0 hx301_0 hHeld ⊢
                refine pureA 0 (some 85) 23 1 HT_ ?_
                refine pureA 1 (some 86) 23 3 HT_ ?_
                refine pureA 2 (some 87) 23 7 HT_ ?_
                refine pureA 3 (some 88) 23 15 HT_ ?_
                refine oneA 4 (some 89) 23 31 HT_ (fun K hK => ?_)
                refine goes_ Try.func128 (by kernel_rfl) rfl #[.slice (some ad299) ((rd_L3 y291 x81_4).take 2).length c295_0, .slice (some ad300) ((rd_L3 l0_2 x49_2).take 2).length c286_0] (by rfl) rfl rfl (by (try simp only [List.map_toArray, List.map_cons, List.map_nil]); first | done | (rw [show ((rd_L3 y291 x81_4).take 2).length = 2 from (by rw [List.length_take]; have h_ : (2 : Int) ≤ ((rd_L3 y291 x81_4).length : Int) := da; omega)] <;> rfl) | (rw [show ((rd_L3 l0_2 x49_2).take 2).length = 2 from (by rw [List.length_take]; have h_ : (2 : Int) ≤ ((rd_L3 l0_2 x49_2).length : Int) := da; omega)] <;> rfl) | rfl | (simp only [List.length_drop, List.length_take]; rfl)) ?_
                with_reducible refine (slices_Equal_int_int.calls k4 _ _ ((rd_L3 y291 x81_4).take 2) _ _ ((rd_L3 l0_2 x49_2).take 2) true _ ?side1 ?side2 ?side3 ?side4 A49.out).mono ?_
                (case side1 => exact cd (Kd.C_below HR296.out HB.out))
                (case side2 => exact HC296.out)
                (case side3 => exact cd (Kd.C_below HR297.out HB.out))
                (case side4 => exact HC297.out)
                rintro e w' ⟨rfl, ⟨nd, rfl⟩⟩
                refine ⟨_, rfl, ?_⟩
                refine hK.out _ _ ⟨bq BK281 0, bq BK281 1, bq BK281 2, bq BK281 3, bq BK281 4, ((HB.out.cell (World.block_lt_of_cell? w _ hw299_0)).trans hw299_0), ((HB.out.cell (World.block_lt_of_cell? w _ hw300_0)).trans hw300_0), ((HB.out.cell (World.block_lt_of_cell? w _ hw301_0)).trans hw301_0)⟩ (fun hHeld => ?_)
                clear hK K
                refine norm_ (a' := ?_) ?_ ?_
                rotate_left
                ·show Act.put _ (some 89) _ = _
                 simp only [Act.put, List.setIfInBounds_toArray, List.set_cons_zero, List.set_cons_succ, i64_w, i32_w]
                 rfl
                refine pureA 5 (some 90) 23 63 HT_ ?_
                refine pureA 6 (some 91) 23 127 HT_ ?_
                refine pureA 7 (some 92) 23 255 HT_ ?_
                refine pureA 9 (some 94) 23 767 HT_ ?_
                refine pureA 10 (some 95) 23 1791 HT_ ?_
                refine takeA 8 (some 93) 23 2047 HT_ HW_ hHeld ?_ (hy := by rintro w' ⟨s0, s1, s2, s3, s4, s5, s6, s7⟩; go_simp; with_reducible rfl)
                refine takeA 11 (some 96) 23 4095 HT_ HW_ hHeld ?_ (hy := by rintro w' ⟨s0, s1, s2, s3, s4, s5, s6, s7⟩; go_simp; with_reducible rfl)
                refine pureA 12 (some 97) 23 8191 HT_ ?_
                refine pureA 13 (some 98) 23 16383 HT_ ?_
                refine pureA 14 (some 99) 23 32767 HT_ ?_
                refine pureA 16 (some 101) 23 98303 HT_ ?_
                refine pureA 17 (some 102) 23 229375 HT_ ?_
                refine takeA 15 (some 100) 23 262143 HT_ HW_ hHeld ?_ (hy := by rintro w' ⟨s0, s1, s2, s3, s4, s5, s6, s7⟩; go_simp; with_reducible rfl)
                refine takeA 18 (some 103) 23 524287 HT_ HW_ hHeld ?_ (hy := by rintro w' ⟨s0, s1, s2, s3, s4, s5, s6, s7⟩; go_simp; with_reducible rfl)
                refine oneA 19 (some 104) 23 1048575 HT_ (fun K hK => ?_)
                refine goes_ Try.func103 (by kernel_rfl) rfl #[.slice A0_3 l0_3.length c0_3, .int .i64 (rd (rd_L3 l0_2 x49_2) 1)] (by rfl) rfl rfl (by (try simp only [List.map_toArray, List.map_cons, List.map_nil]); first | done | rfl | (simp only [List.length_drop, List.length_take]; rfl)) ?_
                with_reducible refine (slices_Contains_int_int.calls k4 _ _ l0_3 (rd (rd_L3 l0_2 x49_2) 1) true _ ?side1 ?side2 A58.out).mono ?_
                (case side1 => exact cd (Kd.C_below HR0_3.out (belowg1 HB GE281)))
                (case side2 => exact HC0_3.out)
                rintro e w' ⟨rfl, ⟨nd, rfl⟩⟩
                refine ⟨_, rfl, ?_⟩
                refine hK.out _ _ ⟨bq BK281 0, bq BK281 1, bq BK281 2, bq BK281 3, bq BK281 4, ((HB.out.cell (World.block_lt_of_cell? w _ hw299_0)).trans hw299_0), ((HB.out.cell (World.block_lt_of_cell? w _ hw300_0)).trans hw300_0), ((HB.out.cell (World.block_lt_of_cell? w _ hw301_0)).trans hw301_0)⟩ (fun hHeld => ?_)
                clear hK K
                refine norm_ (a' := ?_) ?_ ?_
                rotate_left
                ·show Act.put _ (some 104) _ = _
                 simp only [Act.put, List.setIfInBounds_toArray, List.set_cons_zero, List.set_cons_succ, i64_w, i32_w]
                 rfl
                refine pureA 20 (some 105) 23 2097151 HT_ ?_
                refine pureA 21 (some 106) 23 4194303 HT_ ?_
                refine pureA 22 (some 107) 23 8388607 HT_ ?_
                refine done_ (done_of HT_.out (by kernel_rfl)) ?_
                try go_wp2
                go_roundg k4
                case measure => have := HJ1.out; have := HK2.out; have := HJ23.out; have := HK4.out; omega
                case rel => exact ⟨(wrap64 (x81_4 + 1)), er, H', ⟨by have := HJ1.out; have := HK2.out; have := HJ23.out; have := HK4.out; omega⟩, ⟨blkd BK281⟩, ⟨belowg1 HB GE281⟩⟩
               ·replace c59 := Bool.eq_false_iff.mpr c59
                subst c59
                have H1 : (some false) = some r := by rw [if_neg (show ¬ (false = true) by decide)] at H; exact H
                clear H
                have H := H1
                clear H1
                obtain rfl := Option.some.inj H
                have p295 : 0 ≤ (x81_4 : Int) := da
                have q295 : x81_4 < (y291.length : Int) := da
                obtain ⟨ad295, A295_0, c295_0, e295, hx295_0, hl295_0, hi295_0⟩ := at_L3 HR294.out x81_4 p295 q295
                obtain rfl : ad286 = ad295 := (by injection e295)
                replace hx295_0 := (HB.out.cell (World.block_lt_of_cell? w _ hx295_0)).trans hx295_0
                have HR295_0 := Aside0.mk hi295_0; have HC295_0 := Aside0.mk hl295_0; clear hi295_0 hl295_0; replace p295 := eq_true p295; replace q295 := eq_true q295
                try go_wp2
                replace BK281 := ak (blk_drew BK281.out)
                replace HB := ak (below_drew1 HB.out)
                obtain ⟨i064, hi064, _, hsz64, _⟩ := info_parts info3
                obtain ⟨hcut64, hA64, hC64⟩ := print_take_of (P := Try.prog) (Value.int .i64) 0 23 3 .i64 Try.underlying23 hi064 hsz64 A295_0 c295_0 (rd_L3 y291 x81_4) 2 (by omega) (da) HC295_0.out
                have HR296 := Aside0.mk (Kd.C_of_reads (h1 := fun _ => rfl) (hA64 _ (Kd.reads_of_C HR295_0.out)))
                have HC296 := Aside0.mk hC64; clear hA64 hC64 hi064 hsz64
                obtain ⟨i065, hi065, _, hsz65, _⟩ := info_parts info3
                obtain ⟨hcut65, hA65, hC65⟩ := print_take_of (P := Try.prog) (Value.int .i64) 0 23 3 .i64 Try.underlying23 hi065 hsz65 A286_0 c286_0 (rd_L3 l0_2 x49_2) 2 (by omega) (da) HC286_0.out
                have HR297 := Aside0.mk (Kd.C_of_reads (h1 := fun _ => rfl) (hA65 _ (Kd.reads_of_C HR286_0.out)))
                have HC297 := Aside0.mk hC65; clear hA65 hC65 hi065 hsz65
                have p299 : 0 ≤ (2 : Int) := (by omega)
                have q299 : 2 < ((rd_L3 y291 x81_4).length : Int) := da
                obtain ⟨ad299, e299, hx299_0⟩ := Kd.at_int HR295_0.out 2 p299 q299
                have hw299_0 := hx299_0
                (try rw [show ((2 : Int)).toNat = 2 from rfl] at hw299_0)
                (try rw [show 2 * 1 = 2 from rfl] at hw299_0)
                (try simp only [Nat.reduceMul, Nat.reduceEqDiff, Go.Addr.add, ↓reduceIte] at hw299_0)
                cases e299
                (try simp only [show (2 : Int).toNat = 2 from rfl, Nat.reduceMul, Nat.reduceEqDiff, Go.Addr.add, ↓reduceIte] at hx299_0)
                have qi299 : (2 < (rd_L3 y291 x81_4).length) = True := eq_true (by omega)
                (try rw [show ((2 : Int)).toNat = 2 from rfl] at hx299_0)
                replace hx299_0 := (HB.out.cell (World.block_lt_of_cell? w _ hx299_0)).trans hx299_0
                replace p299 := eq_true p299; replace q299 := eq_true q299
                have p300 : 0 ≤ (2 : Int) := (by omega)
                have q300 : 2 < ((rd_L3 l0_2 x49_2).length : Int) := da
                obtain ⟨ad300, e300, hx300_0⟩ := Kd.at_int HR286_0.out 2 p300 q300
                have hw300_0 := hx300_0
                (try rw [show ((2 : Int)).toNat = 2 from rfl] at hw300_0)
                (try rw [show 2 * 1 = 2 from rfl] at hw300_0)
                (try simp only [Nat.reduceMul, Nat.reduceEqDiff, Go.Addr.add, ↓reduceIte] at hw300_0)
                cases e300
                (try simp only [show (2 : Int).toNat = 2 from rfl, Nat.reduceMul, Nat.reduceEqDiff, Go.Addr.add, ↓reduceIte] at hx300_0)
                have qi300 : (2 < (rd_L3 l0_2 x49_2).length) = True := eq_true (by omega)
                (try rw [show ((2 : Int)).toNat = 2 from rfl] at hx300_0)
                replace hx300_0 := (HB.out.cell (World.block_lt_of_cell? w _ hx300_0)).trans hx300_0
                replace p300 := eq_true p300; replace q300 := eq_true q300
                have p301 : 0 ≤ (1 : Int) := (by omega)
                have q301 : 1 < ((rd_L3 l0_2 x49_2).length : Int) := da
                obtain ⟨ad301, e301, hx301_0⟩ := Kd.at_int HR286_0.out 1 p301 q301
                have hw301_0 := hx301_0
                (try rw [show ((1 : Int)).toNat = 1 from rfl] at hw301_0)
                (try rw [show 1 * 1 = 1 from rfl] at hw301_0)
                (try simp only [Nat.reduceMul, Nat.reduceEqDiff, Go.Addr.add, ↓reduceIte] at hw301_0)
                obtain rfl : ad300 = ad301 := (by injection e301)
                (try simp only [show (1 : Int).toNat = 1 from rfl, Nat.reduceMul, Nat.reduceEqDiff, Go.Addr.add, ↓reduceIte] at hx301_0)
                have qi301 : (1 < (rd_L3 l0_2 x49_2).length) = True := eq_true (by omega)
                (try rw [show ((1 : Int)).toNat = 1 from rfl] at hx301_0)
                replace hx301_0 := (HB.out.cell (World.block_lt_of_cell? w _ hx301_0)).trans hx301_0
                replace p301 := eq_true p301; replace q301 := eq_true q301
                refine start_ (n := 23) (S := fun w' => w'.cell? ⟨gb281, 0, none⟩ = some (.int .i64 a0_0) ∧ w'.cell? ⟨gb281, 1, none⟩ = some (.int .i64 a0_1) ∧ w'.cell? ⟨gb281, 2, none⟩ = some (.slice (some ad286) l0_2.length c0_2) ∧ w'.cell? ⟨gb281, 3, none⟩ = some (.slice A0_3 l0_3.length c0_3) ∧ w'.cell? ⟨gb281, 4, none⟩ = some (.slice A0_4 l0_4.length c0_4) ∧ w'.cell? ⟨ad299.block, ad299.off + 2, none⟩ = some (.int .i64 (rd (rd_L3 y291 x81_4) 2)) ∧ w'.cell? ⟨ad300.block, ad300.off + 2, none⟩ = some (.int .i64 (rd (rd_L3 l0_2 x49_2) 2)) ∧ w'.cell? ⟨ad300.block, ad300.off + 1, none⟩ = some (.int .i64 (rd (rd_L3 l0_2 x49_2) 1))) (ds := []) (bl 23 0) (by kernel_rfl) rfl rfl ⟨bq BK281 0, bq BK281 1, bq BK281 2, bq BK281 3, bq BK281 4, ((HB.out.cell (World.block_lt_of_cell? w _ hw299_0)).trans hw299_0), ((HB.out.cell (World.block_lt_of_cell? w _ hw300_0)).trans hw300_0), ((HB.out.cell (World.block_lt_of_cell? w _ hw301_0)).trans hw301_0)⟩ (fun hHeld => ?_); refine with_tabW impl_GoodBoard.tab11 impl_GoodBoard.bits11 (fun HT_ HW_ => ?_)
                generalize wr.drew = w63 at BK281 HB HR296 HR297 hx299_0 hx300_0 hx301_0 hHeld ⊢
                refine pureA 0 (some 85) 23 1 HT_ ?_
                refine pureA 1 (some 86) 23 3 HT_ ?_
                refine pureA 2 (some 87) 23 7 HT_ ?_
                refine pureA 3 (some 88) 23 15 HT_ ?_
                refine oneA 4 (some 89) 23 31 HT_ (fun K hK => ?_)
                refine goes_ Try.func128 (by kernel_rfl) rfl #[.slice (some ad299) ((rd_L3 y291 x81_4).take 2).length c295_0, .slice (some ad300) ((rd_L3 l0_2 x49_2).take 2).length c286_0] (by rfl) rfl rfl (by (try simp only [List.map_toArray, List.map_cons, List.map_nil]); first | done | (rw [show ((rd_L3 y291 x81_4).take 2).length = 2 from (by rw [List.length_take]; have h_ : (2 : Int) ≤ ((rd_L3 y291 x81_4).length : Int) := da; omega)] <;> rfl) | (rw [show ((rd_L3 l0_2 x49_2).take 2).length = 2 from (by rw [List.length_take]; have h_ : (2 : Int) ≤ ((rd_L3 l0_2 x49_2).length : Int) := da; omega)] <;> rfl) | rfl | (simp only [List.length_drop, List.length_take]; rfl)) ?_
                with_reducible refine (slices_Equal_int_int.calls k4 _ _ ((rd_L3 y291 x81_4).take 2) _ _ ((rd_L3 l0_2 x49_2).take 2) true _ ?side1 ?side2 ?side3 ?side4 A49.out).mono ?_
                (case side1 => exact cd (Kd.C_below HR296.out HB.out))
                (case side2 => exact HC296.out)
                (case side3 => exact cd (Kd.C_below HR297.out HB.out))
                (case side4 => exact HC297.out)
                rintro e w' ⟨rfl, ⟨nd, rfl⟩⟩
                refine ⟨_, rfl, ?_⟩
                refine hK.out _ _ ⟨bq BK281 0, bq BK281 1, bq BK281 2, bq BK281 3, bq BK281 4, ((HB.out.cell (World.block_lt_of_cell? w _ hw299_0)).trans hw299_0), ((HB.out.cell (World.block_lt_of_cell? w _ hw300_0)).trans hw300_0), ((HB.out.cell (World.block_lt_of_cell? w _ hw301_0)).trans hw301_0)⟩ (fun hHeld => ?_)
                clear hK K
                refine norm_ (a' := ?_) ?_ ?_
                rotate_left
                ·show Act.put _ (some 89) _ = _
                 simp only [Act.put, List.setIfInBounds_toArray, List.set_cons_zero, List.set_cons_succ, i64_w, i32_w]
                 rfl
                refine pureA 5 (some 90) 23 63 HT_ ?_
                refine pureA 6 (some 91) 23 127 HT_ ?_
                refine pureA 7 (some 92) 23 255 HT_ ?_
                refine pureA 9 (some 94) 23 767 HT_ ?_
                refine pureA 10 (some 95) 23 1791 HT_ ?_
                refine takeA 8 (some 93) 23 2047 HT_ HW_ hHeld ?_ (hy := by rintro w' ⟨s0, s1, s2, s3, s4, s5, s6, s7⟩; go_simp; with_reducible rfl)
                refine takeA 11 (some 96) 23 4095 HT_ HW_ hHeld ?_ (hy := by rintro w' ⟨s0, s1, s2, s3, s4, s5, s6, s7⟩; go_simp; with_reducible rfl)
                refine pureA 12 (some 97) 23 8191 HT_ ?_
                refine pureA 13 (some 98) 23 16383 HT_ ?_
                refine pureA 14 (some 99) 23 32767 HT_ ?_
                refine pureA 16 (some 101) 23 98303 HT_ ?_
                refine pureA 17 (some 102) 23 229375 HT_ ?_
                refine takeA 15 (some 100) 23 262143 HT_ HW_ hHeld ?_ (hy := by rintro w' ⟨s0, s1, s2, s3, s4, s5, s6, s7⟩; go_simp; with_reducible rfl)
                refine takeA 18 (some 103) 23 524287 HT_ HW_ hHeld ?_ (hy := by rintro w' ⟨s0, s1, s2, s3, s4, s5, s6, s7⟩; go_simp; with_reducible rfl)
                refine oneA 19 (some 104) 23 1048575 HT_ (fun K hK => ?_)
                refine goes_ Try.func103 (by kernel_rfl) rfl #[.slice A0_3 l0_3.length c0_3, .int .i64 (rd (rd_L3 l0_2 x49_2) 1)] (by rfl) rfl rfl (by (try simp only [List.map_toArray, List.map_cons, List.map_nil]); first | done | rfl | (simp only [List.length_drop, List.length_take]; rfl)) ?_
                with_reducible refine (slices_Contains_int_int.calls k4 _ _ l0_3 (rd (rd_L3 l0_2 x49_2) 1) false _ ?side1 ?side2 A58.out).mono ?_
                (case side1 => exact cd (Kd.C_below HR0_3.out (belowg1 HB GE281)))
                (case side2 => exact HC0_3.out)
                rintro e w' ⟨rfl, ⟨nd, rfl⟩⟩
                refine ⟨_, rfl, ?_⟩
                refine hK.out _ _ ⟨bq BK281 0, bq BK281 1, bq BK281 2, bq BK281 3, bq BK281 4, ((HB.out.cell (World.block_lt_of_cell? w _ hw299_0)).trans hw299_0), ((HB.out.cell (World.block_lt_of_cell? w _ hw300_0)).trans hw300_0), ((HB.out.cell (World.block_lt_of_cell? w _ hw301_0)).trans hw301_0)⟩ (fun hHeld => ?_)
                clear hK K
                refine norm_ (a' := ?_) ?_ ?_
                rotate_left
                ·show Act.put _ (some 104) _ = _
                 simp only [Act.put, List.setIfInBounds_toArray, List.set_cons_zero, List.set_cons_succ, i64_w, i32_w]
                 rfl
                refine pureA 20 (some 105) 23 2097151 HT_ ?_
                refine pureA 21 (some 106) 23 4194303 HT_ ?_
                refine pureA 22 (some 107) 23 8388607 HT_ ?_
                refine done_ (done_of HT_.out (by kernel_rfl)) ?_
                try go_wp2
                go_ret
                exact ⟨er2, belowg1 HB GE281⟩
             ·replace c50 := Bool.eq_false_iff.mpr c50
              subst c50
              have H1 : (impl_GoodBoard.l1 k4 (rd_L3 l0_2 x49_2) l0_2 (l0_2.length : Int) x49_2 y291 (y291.length : Int) (wrap64 (x81_4 + 1)) a0_0 a0_1 l0_2 l0_3 l0_4) = some r := by rw [if_neg (show ¬ (false = true) by decide)] at H; exact H
              clear H
              have H := H1
              clear H1
              have H' := Aside0.mk H
              clear H
              have p295 : 0 ≤ (x81_4 : Int) := da
              have q295 : x81_4 < (y291.length : Int) := da
              obtain ⟨ad295, A295_0, c295_0, e295, hx295_0, hl295_0, hi295_0⟩ := at_L3 HR294.out x81_4 p295 q295
              obtain rfl : ad286 = ad295 := (by injection e295)
              replace hx295_0 := (HB.out.cell (World.block_lt_of_cell? w _ hx295_0)).trans hx295_0
              have HR295_0 := Aside0.mk hi295_0; have HC295_0 := Aside0.mk hl295_0; clear hi295_0 hl295_0; replace p295 := eq_true p295; replace q295 := eq_true q295
              try go_wp2
              replace BK281 := ak (blk_drew BK281.out)
              replace HB := ak (below_drew1 HB.out)
              obtain ⟨i067, hi067, _, hsz67, _⟩ := info_parts info3
              obtain ⟨hcut67, hA67, hC67⟩ := print_take_of (P := Try.prog) (Value.int .i64) 0 23 3 .i64 Try.underlying23 hi067 hsz67 A295_0 c295_0 (rd_L3 y291 x81_4) 2 (by omega) (da) HC295_0.out
              have HR296 := Aside0.mk (Kd.C_of_reads (h1 := fun _ => rfl) (hA67 _ (Kd.reads_of_C HR295_0.out)))
              have HC296 := Aside0.mk hC67; clear hA67 hC67 hi067 hsz67
              obtain ⟨i068, hi068, _, hsz68, _⟩ := info_parts info3
              obtain ⟨hcut68, hA68, hC68⟩ := print_take_of (P := Try.prog) (Value.int .i64) 0 23 3 .i64 Try.underlying23 hi068 hsz68 A286_0 c286_0 (rd_L3 l0_2 x49_2) 2 (by omega) (da) HC286_0.out
              have HR297 := Aside0.mk (Kd.C_of_reads (h1 := fun _ => rfl) (hA68 _ (Kd.reads_of_C HR286_0.out)))
              have HC297 := Aside0.mk hC68; clear hA68 hC68 hi068 hsz68
              refine start_ (n := 23) (S := fun w' => True) (ds := []) (bl 23 0) (by kernel_rfl) rfl rfl trivial (fun hHeld => ?_); refine with_tabW impl_GoodBoard.tab11 impl_GoodBoard.bits11 (fun HT_ HW_ => ?_)
              generalize wr.drew = w66 at BK281 HB HR296 HR297 hHeld ⊢
              refine pureA 0 (some 85) 23 1 HT_ ?_
              refine pureA 1 (some 86) 23 3 HT_ ?_
              refine pureA 2 (some 87) 23 7 HT_ ?_
              refine pureA 3 (some 88) 23 15 HT_ ?_
              refine oneA 4 (some 89) 23 31 HT_ (fun K hK => ?_)
              refine goes_ Try.func128 (by kernel_rfl) rfl #[.slice A295_0 ((rd_L3 y291 x81_4).take 2).length c295_0, .slice A286_0 ((rd_L3 l0_2 x49_2).take 2).length c286_0] (by rfl) rfl rfl (by (try simp only [List.map_toArray, List.map_cons, List.map_nil]); first | done | (rw [show ((rd_L3 y291 x81_4).take 2).length = 2 from (by rw [List.length_take]; have h_ : (2 : Int) ≤ ((rd_L3 y291 x81_4).length : Int) := da; omega)] <;> rfl) | (rw [show ((rd_L3 l0_2 x49_2).take 2).length = 2 from (by rw [List.length_take]; have h_ : (2 : Int) ≤ ((rd_L3 l0_2 x49_2).length : Int) := da; omega)] <;> rfl) | rfl | (simp only [List.length_drop, List.length_take]; rfl)) ?_
              with_reducible refine (slices_Equal_int_int.calls k4 _ _ ((rd_L3 y291 x81_4).take 2) _ _ ((rd_L3 l0_2 x49_2).take 2) false _ ?side1 ?side2 ?side3 ?side4 A49.out).mono ?_
              (case side1 => exact cd (Kd.C_below HR296.out HB.out))
              (case side2 => exact HC296.out)
              (case side3 => exact cd (Kd.C_below HR297.out HB.out))
              (case side4 => exact HC297.out)
              rintro e w' ⟨rfl, ⟨nd, rfl⟩⟩
              refine ⟨_, rfl, ?_⟩
              refine hK.out _ _ trivial (fun hHeld => ?_)
              clear hK K
              refine norm_ (a' := ?_) ?_ ?_
              rotate_left
              ·show Act.put _ (some 89) _ = _
               simp only [Act.put, List.setIfInBounds_toArray, List.set_cons_zero, List.set_cons_succ, i64_w, i32_w]
               rfl
              refine pureA 5 (some 90) 23 63 HT_ ?_
              refine pureB 6 (some 91) 23 127 HT_ ?_
              refine pureB 7 (some 92) 23 255 HT_ ?_
              refine pureB 8 (some 93) 23 511 HT_ ?_
              refine pureB 9 (some 94) 23 1023 HT_ ?_
              refine pureB 10 (some 95) 23 2047 HT_ ?_
              refine pureB 11 (some 96) 23 4095 HT_ ?_
              refine pureB 12 (some 97) 23 8191 HT_ ?_
              refine pureB 13 (some 98) 23 16383 HT_ ?_
              refine pureB 14 (some 99) 23 32767 HT_ ?_
              refine pureB 15 (some 100) 23 65535 HT_ ?_
              refine pureB 16 (some 101) 23 131071 HT_ ?_
              refine pureB 17 (some 102) 23 262143 HT_ ?_
              refine pureB 18 (some 103) 23 524287 HT_ ?_
              refine pureB 19 (some 104) 23 1048575 HT_ ?_
              refine pureB 20 (some 105) 23 2097151 HT_ ?_
              refine pureB 21 (some 106) 23 4194303 HT_ ?_
              refine pureA 22 (some 107) 23 8388607 HT_ ?_
              refine done_ (done_of HT_.out (by kernel_rfl)) ?_
              try go_wp2
              go_roundg k4
              case measure => have := HJ1.out; have := HK2.out; have := HJ23.out; have := HK4.out; omega
              case rel => exact ⟨(wrap64 (x81_4 + 1)), er, H', ⟨by have := HJ1.out; have := HK2.out; have := HJ23.out; have := HK4.out; omega⟩, ⟨blkd BK281⟩, ⟨belowg1 HB GE281⟩⟩
            ·rw [if_neg c44] at H
             have c44b0 : decide (x81_4 < (y291.length : Int)) = false := decide_eq_false c44
             clear c44
             have H' := Aside0.mk H
             clear H; go_wp2
             go_roundg k4
             case measure => have := HJ1.out; have := HK2.out; have := HJ23.out; have := HK4.out; omega
             case rel => exact ⟨(wrap64 (x49_2 + 1)), er, H', ⟨by have := HJ1.out; have := HK2.out; have := HJ23.out; have := HK4.out; omega⟩, ⟨blkd BK281⟩, ⟨belowg1 HB GE281⟩⟩
      ·rw [if_neg c21] at H
       have c21b0 : decide (x49_2 < (l0_2.length : Int)) = false := decide_eq_false c21
       clear c21
       obtain rfl := Option.some.inj H
       go_wp2
       go_ret
       exact ⟨er2, belowg1 HB GE281⟩

end Go.Proofs.Ytkgogglnipdcfaa.QFnBoard
