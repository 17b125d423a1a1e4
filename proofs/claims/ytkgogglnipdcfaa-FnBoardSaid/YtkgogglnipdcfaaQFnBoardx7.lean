-- printed by this session's own program (wip/tools/pp.py: the kit's print.py with changes); Lean checks it
import Derived.Test.YtkgogglnipdcfaaQFnBoardx0
import Derived.Test.YtkgogglnipdcfaaQFnBoardx6
namespace Go.Proofs.Ytkgogglnipdcfaa.QFnBoard
open Go.RowKit Go.Proofs.YtkgogglnipdcfaaW.PrintWords Go.Proofs.YtkgogglnipdcfaaW.PrintLast Go.Proofs.YtkgogglnipdcfaaW.PrintMore
attribute [local go_sem] max2_int min2_int max_two min_two max_three min_three max_four min_four strLss strGtr strLeq strGeq   -- for this text's walks alone
set_option linter.unusedVariables false
set_option linter.unusedSimpArgs false

/-! ### spec_GoodBoard: function 192 -/
mutual
def spec_GoodBoard.j0 : Nat → Int → Bool → Int → Int → List (List Int) → List Int → List Int → Option (Bool)
  | 0, _, _, _, _, _, _, _ => none
  | k + 1, x3, x52, x364000, x364001, x364002, x364003, x364004 => if x52 = true then (some false) else (spec_GoodBoard.l0 k x3 x364002 (x364002.length : Int) 0 x364000 x364001 x364002 x364003 x364004)
def spec_GoodBoard.l0 : Nat → Int → List (List Int) → Int → Int → Int → Int → List (List Int) → List Int → List Int → Option (Bool)
  | 0, _, _, _, _, _, _, _, _, _ => none
  | k + 1, x3, x54, x55, x56, x364000, x364001, x364002, x364003, x364004 => if x56 < x55 then (if 0 ≤ x56 then (if x56 < (x54.length : Int) then (if ((rd_L3 x54 x56).length : Int) = 3 then (if 0 < ((rd_L3 x54 x56).length : Int) then ((spec_l1In.f (rd (rd_L3 x54 x56) 0) 0 20).bind fun t372 => (if t372 = true then (if 1 < ((rd_L3 x54 x56).length : Int) then ((spec_l1In.f (rd (rd_L3 x54 x56) 1) 0 (wrap64 (x3 - 1))).bind fun t374 => (if t374 = true then (if 2 < ((rd_L3 x54 x56).length : Int) then ((spec_l13List.f (rd (rd_L3 x54 x56) 2)).bind fun t376 => (spec_GoodBoard.j2 k x3 x56 (rd_L3 x54 x56) x54 x55 x56 (!t376) x364000 x364001 x364002 x364003 x364004)) else (none)) else (spec_GoodBoard.j2 k x3 x56 (rd_L3 x54 x56) x54 x55 x56 true x364000 x364001 x364002 x364003 x364004))) else (none)) else (spec_GoodBoard.j2 k x3 x56 (rd_L3 x54 x56) x54 x55 x56 true x364000 x364001 x364002 x364003 x364004))) else (none)) else (spec_GoodBoard.j2 k x3 x56 (rd_L3 x54 x56) x54 x55 x56 true x364000 x364001 x364002 x364003 x364004)) else (none)) else (none)) else (some true)
def spec_GoodBoard.j2 : Nat → Int → Int → List Int → List (List Int) → Int → Int → Bool → Int → Int → List (List Int) → List Int → List Int → Option (Bool)
  | 0, _, _, _, _, _, _, _, _, _, _, _, _ => none
  | k + 1, x3, x6, x7, x54, x55, x56, x86, x364000, x364001, x364002, x364003, x364004 => if x86 = true then (some false) else (if 0 ≤ x6 then (if x6 ≤ (x364002.length : Int) then ((some (x364002.take (x6 : Int).toNat : List (List Int))).bind fun y377 => (spec_GoodBoard.l1 k x3 x7 x54 x55 x56 y377 (y377.length : Int) 0 x364000 x364001 x364002 x364003 x364004)) else (none)) else (none))
def spec_GoodBoard.l1 : Nat → Int → List Int → List (List Int) → Int → Int → List (List Int) → Int → Int → Int → Int → List (List Int) → List Int → List Int → Option (Bool)
  | 0, _, _, _, _, _, _, _, _, _, _, _, _, _ => none
  | k + 1, x3, x7, x54, x55, x56, x90, x91, x92, x364000, x364001, x364002, x364003, x364004 => if x92 < x91 then (if 0 ≤ x92 then (if x92 < (x90.length : Int) then (if 0 < ((rd_L3 x90 x92).length : Int) then (if 0 < (x7.length : Int) then (if (rd (rd_L3 x90 x92) 0) = (rd x7 0) then (if 1 < ((rd_L3 x90 x92).length : Int) then (if 1 < (x7.length : Int) then (if (rd (rd_L3 x90 x92) 1) = (rd x7 1) then (if 2 < ((rd_L3 x90 x92).length : Int) then (if 2 < (x7.length : Int) then (if (rd (rd_L3 x90 x92) 2) = (rd x7 2) then (spec_GoodBoard.l1 k x3 x7 x54 x55 x56 x90 x91 (wrap64 (x92 + 1)) x364000 x364001 x364002 x364003 x364004) else ((spec_l1Has.f k x364003 (rd x7 1)).bind fun t389 => (if t389 = true then (spec_GoodBoard.l1 k x3 x7 x54 x55 x56 x90 x91 (wrap64 (x92 + 1)) x364000 x364001 x364002 x364003 x364004) else (some false)))) else (none)) else (none)) else (spec_GoodBoard.l1 k x3 x7 x54 x55 x56 x90 x91 (wrap64 (x92 + 1)) x364000 x364001 x364002 x364003 x364004)) else (none)) else (none)) else (spec_GoodBoard.l1 k x3 x7 x54 x55 x56 x90 x91 (wrap64 (x92 + 1)) x364000 x364001 x364002 x364003 x364004)) else (none)) else (none)) else (none)) else (none)) else (spec_GoodBoard.l0 k x3 x54 x55 (wrap64 (x56 + 1)) x364000 x364001 x364002 x364003 x364004)
end
def spec_GoodBoard.f (k : Nat) (a0_0 : Int) (a0_1 : Int) (l0_2 : List (List Int)) (l0_3 : List Int) (l0_4 : List Int) : Option (Bool) := (spec_QuorumFor.f a0_0).bind fun bt364 => (if bt364.2.2 = true then ((spec_l1Rising.f k l0_3 0 (wrap64 (bt364.1 - 1))).bind fun t367 => (if t367 = true then (if (l0_3.length : Int) > a0_0 then (spec_GoodBoard.j0 k bt364.1 true a0_0 a0_1 l0_2 l0_3 l0_4) else ((spec_l1In.f a0_1 0 20).bind fun t368 => (if t368 = true then ((spec_l1Rising.f k l0_4 0 9).bind fun t369 => (if t369 = true then (spec_GoodBoard.j0 k bt364.1 (decide ((l0_2.length : Int) > 200)) a0_0 a0_1 l0_2 l0_3 l0_4) else (spec_GoodBoard.j0 k bt364.1 true a0_0 a0_1 l0_2 l0_3 l0_4))) else (spec_GoodBoard.j0 k bt364.1 true a0_0 a0_1 l0_2 l0_3 l0_4)))) else (spec_GoodBoard.j0 k bt364.1 true a0_0 a0_1 l0_2 l0_3 l0_4))) else (spec_GoodBoard.j0 k bt364.1 true a0_0 a0_1 l0_2 l0_3 l0_4))
theorem spec_GoodBoard.mono_l : ∀ k, (∀ y0 y1 y2 y3 y4 y5 y6, LeO (spec_GoodBoard.j0 k y0 y1 y2 y3 y4 y5 y6) (spec_GoodBoard.j0 (k + 1) y0 y1 y2 y3 y4 y5 y6)) ∧ (∀ y0 y1 y2 y3 y4 y5 y6 y7 y8, LeO (spec_GoodBoard.l0 k y0 y1 y2 y3 y4 y5 y6 y7 y8) (spec_GoodBoard.l0 (k + 1) y0 y1 y2 y3 y4 y5 y6 y7 y8)) ∧ (∀ y0 y1 y2 y3 y4 y5 y6 y7 y8 y9 y10 y11, LeO (spec_GoodBoard.j2 k y0 y1 y2 y3 y4 y5 y6 y7 y8 y9 y10 y11) (spec_GoodBoard.j2 (k + 1) y0 y1 y2 y3 y4 y5 y6 y7 y8 y9 y10 y11)) ∧ (∀ y0 y1 y2 y3 y4 y5 y6 y7 y8 y9 y10 y11 y12, LeO (spec_GoodBoard.l1 k y0 y1 y2 y3 y4 y5 y6 y7 y8 y9 y10 y11 y12) (spec_GoodBoard.l1 (k + 1) y0 y1 y2 y3 y4 y5 y6 y7 y8 y9 y10 y11 y12))
 | 0 => ⟨fun _ _ _ _ _ _ _ r h => by simp [spec_GoodBoard.j0] at h, fun _ _ _ _ _ _ _ _ _ r h => by simp [spec_GoodBoard.l0] at h, fun _ _ _ _ _ _ _ _ _ _ _ _ r h => by simp [spec_GoodBoard.j2] at h, fun _ _ _ _ _ _ _ _ _ _ _ _ _ r h => by simp [spec_GoodBoard.l1] at h⟩
 | k + 1 => by
  obtain ⟨ih0, ih1, ih2, ih3⟩ := spec_GoodBoard.mono_l k
  refine ⟨?_, ?_, ?_, ?_⟩
  ·intro y0 y1 y2 y3 y4 y5 y6
   unfold spec_GoodBoard.j0
   repeat' (first | (with_reducible first | exact ih0 _ _ _ _ _ _ _ | exact ih1 _ _ _ _ _ _ _ _ _ | exact ih2 _ _ _ _ _ _ _ _ _ _ _ _ | exact ih3 _ _ _ _ _ _ _ _ _ _ _ _ _ | exact spec_l1Has.mono _ _ _ | exact spec_l1Rising.mono _ _ _ _ | exact LeO.refl _ | exact LeO.none _ | refine LeO.ite ?_ ?_ | refine LeO.bind ?_ (fun _ => ?_)) | exact ih0 _ _ _ _ _ _ _ | exact ih1 _ _ _ _ _ _ _ _ _ | exact ih2 _ _ _ _ _ _ _ _ _ _ _ _ | exact ih3 _ _ _ _ _ _ _ _ _ _ _ _ _ | exact spec_l1Has.mono _ _ _ | exact spec_l1Rising.mono _ _ _ _ | exact LeO.none _ | refine LeO.ite ?_ ?_ | refine LeO.bind ?_ (fun _ => ?_))
  ·intro y0 y1 y2 y3 y4 y5 y6 y7 y8
   unfold spec_GoodBoard.l0
   repeat' (first | (with_reducible first | exact ih0 _ _ _ _ _ _ _ | exact ih1 _ _ _ _ _ _ _ _ _ | exact ih2 _ _ _ _ _ _ _ _ _ _ _ _ | exact ih3 _ _ _ _ _ _ _ _ _ _ _ _ _ | exact spec_l1Has.mono _ _ _ | exact spec_l1Rising.mono _ _ _ _ | exact LeO.refl _ | exact LeO.none _ | refine LeO.ite ?_ ?_ | refine LeO.bind ?_ (fun _ => ?_)) | exact ih0 _ _ _ _ _ _ _ | exact ih1 _ _ _ _ _ _ _ _ _ | exact ih2 _ _ _ _ _ _ _ _ _ _ _ _ | exact ih3 _ _ _ _ _ _ _ _ _ _ _ _ _ | exact spec_l1Has.mono _ _ _ | exact spec_l1Rising.mono _ _ _ _ | exact LeO.none _ | refine LeO.ite ?_ ?_ | refine LeO.bind ?_ (fun _ => ?_))
  ·intro y0 y1 y2 y3 y4 y5 y6 y7 y8 y9 y10 y11
   unfold spec_GoodBoard.j2
   repeat' (first | (with_reducible first | exact ih0 _ _ _ _ _ _ _ | exact ih1 _ _ _ _ _ _ _ _ _ | exact ih2 _ _ _ _ _ _ _ _ _ _ _ _ | exact ih3 _ _ _ _ _ _ _ _ _ _ _ _ _ | exact spec_l1Has.mono _ _ _ | exact spec_l1Rising.mono _ _ _ _ | exact LeO.refl _ | exact LeO.none _ | refine LeO.ite ?_ ?_ | refine LeO.bind ?_ (fun _ => ?_)) | exact ih0 _ _ _ _ _ _ _ | exact ih1 _ _ _ _ _ _ _ _ _ | exact ih2 _ _ _ _ _ _ _ _ _ _ _ _ | exact ih3 _ _ _ _ _ _ _ _ _ _ _ _ _ | exact spec_l1Has.mono _ _ _ | exact spec_l1Rising.mono _ _ _ _ | exact LeO.none _ | refine LeO.ite ?_ ?_ | refine LeO.bind ?_ (fun _ => ?_))
  ·intro y0 y1 y2 y3 y4 y5 y6 y7 y8 y9 y10 y11 y12
   unfold spec_GoodBoard.l1
   repeat' (first | (with_reducible first | exact ih0 _ _ _ _ _ _ _ | exact ih1 _ _ _ _ _ _ _ _ _ | exact ih2 _ _ _ _ _ _ _ _ _ _ _ _ | exact ih3 _ _ _ _ _ _ _ _ _ _ _ _ _ | exact spec_l1Has.mono _ _ _ | exact spec_l1Rising.mono _ _ _ _ | exact LeO.refl _ | exact LeO.none _ | refine LeO.ite ?_ ?_ | refine LeO.bind ?_ (fun _ => ?_)) | exact ih0 _ _ _ _ _ _ _ | exact ih1 _ _ _ _ _ _ _ _ _ | exact ih2 _ _ _ _ _ _ _ _ _ _ _ _ | exact ih3 _ _ _ _ _ _ _ _ _ _ _ _ _ | exact spec_l1Has.mono _ _ _ | exact spec_l1Rising.mono _ _ _ _ | exact LeO.none _ | refine LeO.ite ?_ ?_ | refine LeO.bind ?_ (fun _ => ?_))
theorem spec_GoodBoard.mono : ∀ a0 a1 a2 a3 a4 k, LeO (spec_GoodBoard.f k a0 a1 a2 a3 a4) (spec_GoodBoard.f (k + 1) a0 a1 a2 a3 a4) := by
 intro a0 a1 a2 a3 a4 k
 obtain ⟨ih0, ih1, ih2, ih3⟩ := spec_GoodBoard.mono_l k
 unfold spec_GoodBoard.f
 repeat' (first | (with_reducible first | exact ih0 _ _ _ _ _ _ _ | exact ih1 _ _ _ _ _ _ _ _ _ | exact ih2 _ _ _ _ _ _ _ _ _ _ _ _ | exact ih3 _ _ _ _ _ _ _ _ _ _ _ _ _ | exact spec_l1Has.mono _ _ _ | exact spec_l1Rising.mono _ _ _ _ | exact LeO.refl _ | exact LeO.none _ | refine LeO.ite ?_ ?_ | refine LeO.bind ?_ (fun _ => ?_)) | exact ih0 _ _ _ _ _ _ _ | exact ih1 _ _ _ _ _ _ _ _ _ | exact ih2 _ _ _ _ _ _ _ _ _ _ _ _ | exact ih3 _ _ _ _ _ _ _ _ _ _ _ _ _ | exact spec_l1Has.mono _ _ _ | exact spec_l1Rising.mono _ _ _ _ | exact LeO.none _ | refine LeO.ite ?_ ?_ | refine LeO.bind ?_ (fun _ => ?_))
def spec_GoodBoard.T12 : Bool × List (List Nat × List Nat) := (true, [([], []), ([0], [0]), ([1], [1]), ([], []), ([3], [3]), ([4], [4]), ([2, 5], [2, 5]), ([6], [6]), ([7], [7]), ([8, 7], [7, 8]), ([9, 7], [7, 9]), ([7], [7]), ([11, 7], [7, 11]), ([12, 7], [7, 12]), ([10, 13, 7], [7, 10, 13]), ([7, 14], [7, 14]), ([15, 7], [15]), ([16], [16]), ([17, 16], [16, 17]), ([18, 16], [16, 18]), ([16], [16]), ([20, 16], [16, 20]), ([21, 16], [16, 21]), ([19, 22, 16], [16, 19, 22]), ([16, 23], [16, 23]), ([24, 16], [24]), ([25], [25]), ([26, 25], [25, 26]), ([25], [25]), ([28, 25], [25, 28]), ([29, 25], [25, 29]), ([27, 30, 25, 25], [25, 27, 30]), ([31, 25], [25, 31]), ([25, 32], [25, 32])])
def spec_GoodBoard.B12 : List Nat := [0, 1, 3, 0, 8, 24, 63, 127, 255, 511, 1023, 255, 2303, 6399, 16383, 32767, 65535, 131071, 262143, 524287, 131071, 1179647, 3276799, 8388607, 16777215, 33554431, 67108863, 134217727, 67108863, 335544319, 872415231, 2147483647, 4294967295, 8589934591]
theorem spec_GoodBoard.tab12 : rtab .any (opsOf Try.f192 12) = spec_GoodBoard.T12 := by kernel_rfl
theorem spec_GoodBoard.bits12 : waitsOk spec_GoodBoard.T12.2 spec_GoodBoard.B12 = true := by kernel_rfl
set_option maxHeartbeats 8000000 in
set_option maxRecDepth 100000 in
theorem spec_GoodBoard.calls (k : Nat) (a0_0 : Int) (a0_1 : Int) (A0_2 : Option Addr) (c0_2 : Nat) (l0_2 : List (List Int)) (A0_3 : Option Addr) (c0_3 : Nat) (l0_3 : List Int) (A0_4 : Option Addr) (c0_4 : Nat) (l0_4 : List Int) (r : Bool) (w : World) (hr0_2 : Kd.C (Kd.slice 3 (Kd.int .i64)) w A0_2 l0_2.length l0_2) (hc0_2 : l0_2.length ≤ c0_2) (hr0_3 : Kd.C (Kd.int .i64) w A0_3 l0_3.length l0_3) (hc0_3 : l0_3.length ≤ c0_3) (hr0_4 : Kd.C (Kd.int .i64) w A0_4 l0_4.length l0_4) (hc0_4 : l0_4.length ≤ c0_4) (h : spec_GoodBoard.f k a0_0 a0_1 l0_2 l0_3 l0_4 = some r) :
  Calls Try.prog 192 #[.agg #[.int .i64 a0_0, .int .i64 a0_1, .slice A0_2 l0_2.length c0_2, .slice A0_3 l0_3.length c0_3, .slice A0_4 l0_4.length c0_4]] w fun e w' => e = .returned (.bool r) ∧ Below w.heap.size w w' := by
 have hu47 := Try.underlying47
 have HR0_2 := Aside0.mk hr0_2; have HC0_2 := Aside0.mk hc0_2; clear hr0_2 hc0_2; have HR0_3 := Aside0.mk hr0_3; have HC0_3 := Aside0.mk hc0_3; clear hr0_3 hc0_3; have HR0_4 := Aside0.mk hr0_4; have HC0_4 := Aside0.mk hc0_4; clear hr0_4 hc0_4
 have HB := Aside0.mk (Below.refl w.heap.size w)
 have H : ((spec_QuorumFor.f a0_0).bind fun bt364 => (if bt364.2.2 = true then ((spec_l1Rising.f k l0_3 0 (wrap64 (bt364.1 - 1))).bind fun t367 => (if t367 = true then (if (l0_3.length : Int) > a0_0 then (spec_GoodBoard.j0 k bt364.1 true a0_0 a0_1 l0_2 l0_3 l0_4) else ((spec_l1In.f a0_1 0 20).bind fun t368 => (if t368 = true then ((spec_l1Rising.f k l0_4 0 9).bind fun t369 => (if t369 = true then (spec_GoodBoard.j0 k bt364.1 (decide ((l0_2.length : Int) > 200)) a0_0 a0_1 l0_2 l0_3 l0_4) else (spec_GoodBoard.j0 k bt364.1 true a0_0 a0_1 l0_2 l0_3 l0_4))) else (spec_GoodBoard.j0 k bt364.1 true a0_0 a0_1 l0_2 l0_3 l0_4)))) else (spec_GoodBoard.j0 k bt364.1 true a0_0 a0_1 l0_2 l0_3 l0_4))) else (spec_GoodBoard.j0 k bt364.1 true a0_0 a0_1 l0_2 l0_3 l0_4))) = some r := h
 clear h; replace H := bS H; obtain ⟨⟨t364, t365, t366⟩, A2, H⟩ := H
 replace H : (if t366 = true then ((spec_l1Rising.f k l0_3 0 (wrap64 (t364 - 1))).bind fun t367 => (if t367 = true then (if (l0_3.length : Int) > a0_0 then (spec_GoodBoard.j0 k t364 true a0_0 a0_1 l0_2 l0_3 l0_4) else ((spec_l1In.f a0_1 0 20).bind fun t368 => (if t368 = true then ((spec_l1Rising.f k l0_4 0 9).bind fun t369 => (if t369 = true then (spec_GoodBoard.j0 k t364 (decide ((l0_2.length : Int) > 200)) a0_0 a0_1 l0_2 l0_3 l0_4) else (spec_GoodBoard.j0 k t364 true a0_0 a0_1 l0_2 l0_3 l0_4))) else (spec_GoodBoard.j0 k t364 true a0_0 a0_1 l0_2 l0_3 l0_4)))) else (spec_GoodBoard.j0 k t364 true a0_0 a0_1 l0_2 l0_3 l0_4))) else (spec_GoodBoard.j0 k t364 true a0_0 a0_1 l0_2 l0_3 l0_4)) = some r := H
 have HC3 := Aside0.mk H; clear H
 go_enter Try.func192, Try.ntmps192
 go_upto_region 2 with (first | ((with_reducible refine gate_dst (N := 1) rfl ?_); (try (refine gate_guard (by rfl) ?_; dsimp only)); refine boxev 1 #[.int .i64 a0_0, .int .i64 a0_1, .slice A0_2 l0_2.length c0_2, .slice A0_3 l0_3.length c0_3, .slice A0_4 l0_4.length c0_4] 47 ?_; intro gb363 hg w4 hbox hb; have BK363 := ak (hbox); have GW363 := ak (hgl hg (belowd HB)); have GE363 := ak (hgl hg (belowd HB)); replace HB := ak (below_step (belowd HB) hb); clear hb hbox hg; obtain ⟨hcz5_0, hcz5_1, hcz5_2, hcz5_3, hcz5_4, hfz5_0, hfz5_1, hfz5_2, hfz5_3, hfz5_4⟩ := box5 BK363) | ((with_reducible refine gate_callee (f := 193) rfl ?_); refine goesLa (some 13) rfl Try.func193 #[.int .i64 a0_0] rfl ?_; (with_reducible refine (spec_QuorumFor.calls a0_0 t364 t365 t366 _ A2.out).mono ?_); rintro e w' ⟨rfl, ⟨nd, rfl⟩⟩; refine ⟨_, rfl, ?_⟩))
 (try simp only [Act.put, List.setIfInBounds_toArray, List.set_cons_zero, List.set_cons_succ])
 go_cut [52] (fun v52 wc => ∃ (kq : Nat) (x52_2 : Bool), v52 = .bool x52_2 ∧ Aside0 (spec_GoodBoard.j0 kq t364 x52_2 a0_0 a0_1 l0_2 l0_3 l0_4 = some r) ∧ Aside0 (kq ≤ k) ∧ Aside0 (wc.heap[gb363]? = some (.cells #[.int .i64 a0_0, .int .i64 a0_1, (.slice A0_2 l0_2.length c0_2), (.slice A0_3 l0_3.length c0_3), (.slice A0_4 l0_4.length c0_4)] 47 (0, 0))) ∧ Aside0 (Below w.heap.size w wc))
 case first =>
  have H := HC3.out; clear HC3
  by_cases c6 : t366 = true
  ·subst c6
   have H1 : ((spec_l1Rising.f k l0_3 0 (wrap64 (t364 - 1))).bind fun t367 => (if t367 = true then (if (l0_3.length : Int) > a0_0 then (spec_GoodBoard.j0 k t364 true a0_0 a0_1 l0_2 l0_3 l0_4) else ((spec_l1In.f a0_1 0 20).bind fun t368 => (if t368 = true then ((spec_l1Rising.f k l0_4 0 9).bind fun t369 => (if t369 = true then (spec_GoodBoard.j0 k t364 (decide ((l0_2.length : Int) > 200)) a0_0 a0_1 l0_2 l0_3 l0_4) else (spec_GoodBoard.j0 k t364 true a0_0 a0_1 l0_2 l0_3 l0_4))) else (spec_GoodBoard.j0 k t364 true a0_0 a0_1 l0_2 l0_3 l0_4)))) else (spec_GoodBoard.j0 k t364 true a0_0 a0_1 l0_2 l0_3 l0_4))) = some r := by rw [if_pos rfl] at H; exact H
   clear H
   have H := H1
   clear H1; replace H := bS H; obtain ⟨t367, A7, H⟩ := H
   replace H : (if t367 = true then (if (l0_3.length : Int) > a0_0 then (spec_GoodBoard.j0 k t364 true a0_0 a0_1 l0_2 l0_3 l0_4) else ((spec_l1In.f a0_1 0 20).bind fun t368 => (if t368 = true then ((spec_l1Rising.f k l0_4 0 9).bind fun t369 => (if t369 = true then (spec_GoodBoard.j0 k t364 (decide ((l0_2.length : Int) > 200)) a0_0 a0_1 l0_2 l0_3 l0_4) else (spec_GoodBoard.j0 k t364 true a0_0 a0_1 l0_2 l0_3 l0_4))) else (spec_GoodBoard.j0 k t364 true a0_0 a0_1 l0_2 l0_3 l0_4)))) else (spec_GoodBoard.j0 k t364 true a0_0 a0_1 l0_2 l0_3 l0_4)) = some r := H
   by_cases c8 : t367 = true
   ·subst c8
    have H1 : (if (l0_3.length : Int) > a0_0 then (spec_GoodBoard.j0 k t364 true a0_0 a0_1 l0_2 l0_3 l0_4) else ((spec_l1In.f a0_1 0 20).bind fun t368 => (if t368 = true then ((spec_l1Rising.f k l0_4 0 9).bind fun t369 => (if t369 = true then (spec_GoodBoard.j0 k t364 (decide ((l0_2.length : Int) > 200)) a0_0 a0_1 l0_2 l0_3 l0_4) else (spec_GoodBoard.j0 k t364 true a0_0 a0_1 l0_2 l0_3 l0_4))) else (spec_GoodBoard.j0 k t364 true a0_0 a0_1 l0_2 l0_3 l0_4)))) = some r := by rw [if_pos rfl] at H; exact H
    clear H
    have H := H1
    clear H1
    by_cases c9 : (l0_3.length : Int) > a0_0
    ·rw [if_pos c9] at H
     have c9b0 : decide (a0_0 < (l0_3.length : Int)) = true := decide_eq_true c9
     clear c9
     (first | rw [c9b0] | (simp only [i64_w, i32_w]; rw [c9b0]) | skip)
     have H' := Aside0.mk H
     clear H; obtain ⟨hcz10_0, hcz10_1, hcz10_2, hcz10_3, hcz10_4, hfz10_0, hfz10_1, hfz10_2, hfz10_3, hfz10_4⟩ := box5 BK363
     go_wp2_with (first | (go_at_call 174; (with_reducible refine (spec_l1Rising.calls k _ _ l0_3 0 (wrap64 (t364 - 1)) true _ ?side1 ?side2 A7.out).mono ?_); (case side1 => exact cd (Kd.C_below HR0_3.out HB.out)); (case side2 => exact HC0_3.out); rintro e w' ⟨rfl, ⟨nd, rfl⟩⟩))
     go_meet
     case rel => exact ⟨_, (true), er, H', ⟨by first | omega | exact Nat.le_refl _⟩, ⟨blkd BK363⟩, ⟨belowg1 HB GE363⟩⟩
    ·rw [if_neg c9] at H
     have c9b0 : decide (a0_0 < (l0_3.length : Int)) = false := decide_eq_false c9
     clear c9
     (first | rw [c9b0] | (simp only [i64_w, i32_w]; rw [c9b0]) | skip)
     replace H := bS H; obtain ⟨t368, A11, H⟩ := H
     replace H : (if t368 = true then ((spec_l1Rising.f k l0_4 0 9).bind fun t369 => (if t369 = true then (spec_GoodBoard.j0 k t364 (decide ((l0_2.length : Int) > 200)) a0_0 a0_1 l0_2 l0_3 l0_4) else (spec_GoodBoard.j0 k t364 true a0_0 a0_1 l0_2 l0_3 l0_4))) else (spec_GoodBoard.j0 k t364 true a0_0 a0_1 l0_2 l0_3 l0_4)) = some r := H
     by_cases c12 : t368 = true
     ·subst c12
      have H1 : ((spec_l1Rising.f k l0_4 0 9).bind fun t369 => (if t369 = true then (spec_GoodBoard.j0 k t364 (decide ((l0_2.length : Int) > 200)) a0_0 a0_1 l0_2 l0_3 l0_4) else (spec_GoodBoard.j0 k t364 true a0_0 a0_1 l0_2 l0_3 l0_4))) = some r := by rw [if_pos rfl] at H; exact H
      clear H
      have H := H1
      clear H1; replace H := bS H; obtain ⟨t369, A13, H⟩ := H
      replace H : (if t369 = true then (spec_GoodBoard.j0 k t364 (decide ((l0_2.length : Int) > 200)) a0_0 a0_1 l0_2 l0_3 l0_4) else (spec_GoodBoard.j0 k t364 true a0_0 a0_1 l0_2 l0_3 l0_4)) = some r := H
      by_cases c14 : t369 = true
      ·subst c14
       have H1 : (spec_GoodBoard.j0 k t364 (decide ((l0_2.length : Int) > 200)) a0_0 a0_1 l0_2 l0_3 l0_4) = some r := by rw [if_pos rfl] at H; exact H
       clear H
       have H := H1
       clear H1
       have H' := Aside0.mk H
       clear H; obtain ⟨hcz15_0, hcz15_1, hcz15_2, hcz15_3, hcz15_4, hfz15_0, hfz15_1, hfz15_2, hfz15_3, hfz15_4⟩ := box5 BK363
       go_wp2_with (first | (go_at_call 174; (with_reducible refine (spec_l1Rising.calls k _ _ l0_3 0 (wrap64 (t364 - 1)) true _ ?side1 ?side2 A7.out).mono ?_); (case side1 => exact cd (Kd.C_below HR0_3.out HB.out)); (case side2 => exact HC0_3.out); rintro e w' ⟨rfl, ⟨nd, rfl⟩⟩) | (go_at_call 153; (with_reducible refine (spec_l1In.calls a0_1 0 20 true _ A11.out).mono ?_); rintro e w' ⟨rfl, ⟨nd, rfl⟩⟩) | (go_at_call 174; (with_reducible refine (spec_l1Rising.calls k _ _ l0_4 0 9 true _ ?side1 ?side2 A13.out).mono ?_); (case side1 => exact cd (Kd.C_below HR0_4.out (belowg1 HB GE363))); (case side2 => exact HC0_4.out); rintro e w' ⟨rfl, ⟨nd, rfl⟩⟩))
       go_meet
       case rel => exact ⟨_, (decide ((l0_2.length : Int) > 200)), er, H', ⟨by first | omega | exact Nat.le_refl _⟩, ⟨blkd BK363⟩, ⟨belowg1 HB GE363⟩⟩
      ·replace c14 := Bool.eq_false_iff.mpr c14
       subst c14
       have H1 : (spec_GoodBoard.j0 k t364 true a0_0 a0_1 l0_2 l0_3 l0_4) = some r := by rw [if_neg (show ¬ (false = true) by decide)] at H; exact H
       clear H
       have H := H1
       clear H1
       have H' := Aside0.mk H
       clear H; obtain ⟨hcz16_0, hcz16_1, hcz16_2, hcz16_3, hcz16_4, hfz16_0, hfz16_1, hfz16_2, hfz16_3, hfz16_4⟩ := box5 BK363
       go_wp2_with (first | (go_at_call 174; (with_reducible refine (spec_l1Rising.calls k _ _ l0_3 0 (wrap64 (t364 - 1)) true _ ?side1 ?side2 A7.out).mono ?_); (case side1 => exact cd (Kd.C_below HR0_3.out HB.out)); (case side2 => exact HC0_3.out); rintro e w' ⟨rfl, ⟨nd, rfl⟩⟩) | (go_at_call 153; (with_reducible refine (spec_l1In.calls a0_1 0 20 true _ A11.out).mono ?_); rintro e w' ⟨rfl, ⟨nd, rfl⟩⟩) | (go_at_call 174; (with_reducible refine (spec_l1Rising.calls k _ _ l0_4 0 9 false _ ?side1 ?side2 A13.out).mono ?_); (case side1 => exact cd (Kd.C_below HR0_4.out (belowg1 HB GE363))); (case side2 => exact HC0_4.out); rintro e w' ⟨rfl, ⟨nd, rfl⟩⟩))
       go_meet
       case rel => exact ⟨_, (true), er, H', ⟨by first | omega | exact Nat.le_refl _⟩, ⟨blkd BK363⟩, ⟨belowg1 HB GE363⟩⟩
     ·replace c12 := Bool.eq_false_iff.mpr c12
      subst c12
      have H1 : (spec_GoodBoard.j0 k t364 true a0_0 a0_1 l0_2 l0_3 l0_4) = some r := by rw [if_neg (show ¬ (false = true) by decide)] at H; exact H
      clear H
      have H := H1
      clear H1
      have H' := Aside0.mk H
      clear H; obtain ⟨hcz17_0, hcz17_1, hcz17_2, hcz17_3, hcz17_4, hfz17_0, hfz17_1, hfz17_2, hfz17_3, hfz17_4⟩ := box5 BK363
      go_wp2_with (first | (go_at_call 174; (with_reducible refine (spec_l1Rising.calls k _ _ l0_3 0 (wrap64 (t364 - 1)) true _ ?side1 ?side2 A7.out).mono ?_); (case side1 => exact cd (Kd.C_below HR0_3.out HB.out)); (case side2 => exact HC0_3.out); rintro e w' ⟨rfl, ⟨nd, rfl⟩⟩) | (go_at_call 153; (with_reducible refine (spec_l1In.calls a0_1 0 20 false _ A11.out).mono ?_); rintro e w' ⟨rfl, ⟨nd, rfl⟩⟩))
      go_meet
      case rel => exact ⟨_, (true), er, H', ⟨by first | omega | exact Nat.le_refl _⟩, ⟨blkd BK363⟩, ⟨belowg1 HB GE363⟩⟩
   ·replace c8 := Bool.eq_false_iff.mpr c8
    subst c8
    have H1 : (spec_GoodBoard.j0 k t364 true a0_0 a0_1 l0_2 l0_3 l0_4) = some r := by rw [if_neg (show ¬ (false = true) by decide)] at H; exact H
    clear H
    have H := H1
    clear H1
    have H' := Aside0.mk H
    clear H; obtain ⟨hcz18_0, hcz18_1, hcz18_2, hcz18_3, hcz18_4, hfz18_0, hfz18_1, hfz18_2, hfz18_3, hfz18_4⟩ := box5 BK363
    go_wp2_with (first | (go_at_call 174; (with_reducible refine (spec_l1Rising.calls k _ _ l0_3 0 (wrap64 (t364 - 1)) false _ ?side1 ?side2 A7.out).mono ?_); (case side1 => exact cd (Kd.C_below HR0_3.out HB.out)); (case side2 => exact HC0_3.out); rintro e w' ⟨rfl, ⟨nd, rfl⟩⟩))
    go_meet
    case rel => exact ⟨_, (true), er, H', ⟨by first | omega | exact Nat.le_refl _⟩, ⟨blkd BK363⟩, ⟨belowg1 HB GE363⟩⟩
  ·replace c6 := Bool.eq_false_iff.mpr c6
   subst c6
   have H1 : (spec_GoodBoard.j0 k t364 true a0_0 a0_1 l0_2 l0_3 l0_4) = some r := by rw [if_neg (show ¬ (false = true) by decide)] at H; exact H
   clear H
   have H := H1
   clear H1
   have H' := Aside0.mk H
   clear H; go_wp2
   go_meet
   case rel => exact ⟨_, (true), er, H', ⟨by first | omega | exact Nat.le_refl _⟩, ⟨blkd BK363⟩, ⟨belowg1 HB GE363⟩⟩
 case rest =>
  clear HC3; (try clear hcz5_0); (try clear hcz5_1); (try clear hcz5_2); (try clear hcz5_3); (try clear hcz5_4); (try clear hfz5_0); (try clear hfz5_1); (try clear hfz5_2); (try clear hfz5_3); (try clear hfz5_4)
  obtain ⟨kq, x52_2, rfl, HA, HJ2, BK363, HB⟩ := hcut
  cases kq with
  | zero => exact absurd HA.out (by simp [spec_GoodBoard.j0])
  | succ kj2 =>
   have H := HA.out; clear HA
   simp only [spec_GoodBoard.j0] at H
   by_cases c19 : x52_2 = true
   ·subst c19
    have H1 : (some false) = some r := by rw [if_pos rfl] at H; exact H
    clear H
    have H := H1
    clear H1
    obtain rfl := Option.some.inj H
    go_wp2
    go_ret
    exact ⟨er2, belowg1 HB GE363⟩
   ·replace c19 := Bool.eq_false_iff.mpr c19
    subst c19
    have H1 : (spec_GoodBoard.l0 kj2 t364 l0_2 (l0_2.length : Int) 0 a0_0 a0_1 l0_2 l0_3 l0_4) = some r := by rw [if_neg (show ¬ (false = true) by decide)] at H; exact H
    clear H
    have H := H1
    clear H1
    have H' := Aside0.mk H
    clear H; obtain ⟨hcz20_0, hcz20_1, hcz20_2, hcz20_3, hcz20_4, hfz20_0, hfz20_1, hfz20_2, hfz20_3, hfz20_4⟩ := box5 BK363; go_wp2
    go_loopg [56] kj2 (fun kq v56 w' => ∃ (x56_2 : Int), v56 = .int .i64 x56_2 ∧ Aside0 (spec_GoodBoard.l0 kq t364 l0_2 (l0_2.length : Int) x56_2 a0_0 a0_1 l0_2 l0_3 l0_4 = some r) ∧ Aside0 (kq ≤ kj2) ∧ Aside0 (w'.heap[gb363]? = some (.cells #[.int .i64 a0_0, .int .i64 a0_1, (.slice A0_2 l0_2.length c0_2), (.slice A0_3 l0_3.length c0_3), (.slice A0_4 l0_4.length c0_4)] 47 (0, 0))) ∧ Aside0 (Below w.heap.size w w'))
    case atStart => exact ⟨(0), er, H', ⟨Nat.le_refl _⟩, ⟨blkd BK363⟩, ⟨belowg1 HB GE363⟩⟩
    case round =>
     clear H'
     (try clear c19); (try clear hcz20_0); (try clear hcz20_1); (try clear hcz20_2); (try clear hcz20_3); (try clear hcz20_4); (try clear hfz20_0); (try clear hfz20_1); (try clear hfz20_2); (try clear hfz20_3); (try clear hfz20_4)
     obtain ⟨x56_2, rfl, HA, HK2, BK363, HB⟩ := hrel
     cases gk with
     | zero => exact absurd HA.out (by simp [spec_GoodBoard.l0])
     | succ k2 =>
      have H := HA.out; clear HA
      simp only [spec_GoodBoard.l0] at H
      by_cases c21 : x56_2 < (l0_2.length : Int)
      ·rw [if_pos c21] at H
       have c21b0 : decide (x56_2 < (l0_2.length : Int)) = true := decide_eq_true c21
       clear c21; replace H := ifS H; obtain ⟨c22, H⟩ := H; have c22b0 := decide_eq_true c22; clear c22; replace H := ifS H; obtain ⟨c23, H⟩ := H; have c23b0 := decide_eq_true c23; clear c23; have HC24 := Aside0.mk H; clear H
       have p370 : 0 ≤ (x56_2 : Int) := da
       have q370 : x56_2 < (l0_2.length : Int) := da
       obtain ⟨ad370, A370_0, c370_0, e370, hx370_0, hl370_0, hi370_0⟩ := at_L3 HR0_2.out x56_2 p370 q370
       cases e370
       replace hx370_0 := (HB.out.cell (World.block_lt_of_cell? w _ hx370_0)).trans hx370_0
       have HR370_0 := Aside0.mk hi370_0; have HC370_0 := Aside0.mk hl370_0; clear hi370_0 hl370_0; replace p370 := eq_true p370; replace q370 := eq_true q370
       go_upto_region 7 with (fail)
       go_cut [86] (fun v86 wc => ∃ (kq : Nat) (x86_23 : Bool), v86 = .bool x86_23 ∧ Aside0 (spec_GoodBoard.j2 kq t364 x56_2 (rd_L3 l0_2 x56_2) l0_2 (l0_2.length : Int) x56_2 x86_23 a0_0 a0_1 l0_2 l0_3 l0_4 = some r) ∧ Aside0 (kq ≤ k2) ∧ Aside0 (wc.heap[gb363]? = some (.cells #[.int .i64 a0_0, .int .i64 a0_1, (.slice (some ad370) l0_2.length c0_2), (.slice A0_3 l0_3.length c0_3), (.slice A0_4 l0_4.length c0_4)] 47 (0, 0))) ∧ Aside0 (Below w.heap.size w wc))
       case first =>
        have H := HC24.out; clear HC24
        by_cases c25 : ((rd_L3 l0_2 x56_2).length : Int) = 3
        ·rw [if_pos c25] at H
         have c25b0 : (((rd_L3 l0_2 x56_2).length : Int) == 3) = true := beq_iff_eq.mpr c25
         have c25b1 : (((rd_L3 l0_2 x56_2).length : Int) != 3) = false := bne_eq_false_iff_eq.mpr c25
         clear c25
         (first | rw [c25b0] | (simp only [i64_w, i32_w]; rw [c25b0]) | skip)
         replace H := ifS H; obtain ⟨c26, H⟩ := H; have c26b0 := decide_eq_true c26
         have c26b1 : decide (0 < (rd_L3 l0_2 x56_2).length) = true := decide_eq_true (by omega)
         clear c26; replace H := bS H; obtain ⟨t372, A27, H⟩ := H
         replace H : (if t372 = true then (if 1 < ((rd_L3 l0_2 x56_2).length : Int) then ((spec_l1In.f (rd (rd_L3 l0_2 x56_2) 1) 0 (wrap64 (t364 - 1))).bind fun t374 => (if t374 = true then (if 2 < ((rd_L3 l0_2 x56_2).length : Int) then ((spec_l13List.f (rd (rd_L3 l0_2 x56_2) 2)).bind fun t376 => (spec_GoodBoard.j2 k2 t364 x56_2 (rd_L3 l0_2 x56_2) l0_2 (l0_2.length : Int) x56_2 (!t376) a0_0 a0_1 l0_2 l0_3 l0_4)) else (none)) else (spec_GoodBoard.j2 k2 t364 x56_2 (rd_L3 l0_2 x56_2) l0_2 (l0_2.length : Int) x56_2 true a0_0 a0_1 l0_2 l0_3 l0_4))) else (none)) else (spec_GoodBoard.j2 k2 t364 x56_2 (rd_L3 l0_2 x56_2) l0_2 (l0_2.length : Int) x56_2 true a0_0 a0_1 l0_2 l0_3 l0_4)) = some r := H
         by_cases c28 : t372 = true
         ·subst c28
          have H1 : (if 1 < ((rd_L3 l0_2 x56_2).length : Int) then ((spec_l1In.f (rd (rd_L3 l0_2 x56_2) 1) 0 (wrap64 (t364 - 1))).bind fun t374 => (if t374 = true then (if 2 < ((rd_L3 l0_2 x56_2).length : Int) then ((spec_l13List.f (rd (rd_L3 l0_2 x56_2) 2)).bind fun t376 => (spec_GoodBoard.j2 k2 t364 x56_2 (rd_L3 l0_2 x56_2) l0_2 (l0_2.length : Int) x56_2 (!t376) a0_0 a0_1 l0_2 l0_3 l0_4)) else (none)) else (spec_GoodBoard.j2 k2 t364 x56_2 (rd_L3 l0_2 x56_2) l0_2 (l0_2.length : Int) x56_2 true a0_0 a0_1 l0_2 l0_3 l0_4))) else (none)) = some r := by rw [if_pos rfl] at H; exact H
          clear H
          have H := H1
          clear H1; replace H := ifS H; obtain ⟨c29, H⟩ := H; have c29b0 := decide_eq_true c29
          have c29b1 : decide (1 < (rd_L3 l0_2 x56_2).length) = true := decide_eq_true (by omega)
          clear c29; replace H := bS H; obtain ⟨t374, A30, H⟩ := H
          replace H : (if t374 = true then (if 2 < ((rd_L3 l0_2 x56_2).length : Int) then ((spec_l13List.f (rd (rd_L3 l0_2 x56_2) 2)).bind fun t376 => (spec_GoodBoard.j2 k2 t364 x56_2 (rd_L3 l0_2 x56_2) l0_2 (l0_2.length : Int) x56_2 (!t376) a0_0 a0_1 l0_2 l0_3 l0_4)) else (none)) else (spec_GoodBoard.j2 k2 t364 x56_2 (rd_L3 l0_2 x56_2) l0_2 (l0_2.length : Int) x56_2 true a0_0 a0_1 l0_2 l0_3 l0_4)) = some r := H
          by_cases c31 : t374 = true
          ·subst c31
           have H1 : (if 2 < ((rd_L3 l0_2 x56_2).length : Int) then ((spec_l13List.f (rd (rd_L3 l0_2 x56_2) 2)).bind fun t376 => (spec_GoodBoard.j2 k2 t364 x56_2 (rd_L3 l0_2 x56_2) l0_2 (l0_2.length : Int) x56_2 (!t376) a0_0 a0_1 l0_2 l0_3 l0_4)) else (none)) = some r := by rw [if_pos rfl] at H; exact H
           clear H
           have H := H1
           clear H1; replace H := ifS H; obtain ⟨c32, H⟩ := H; have c32b0 := decide_eq_true c32
           have c32b1 : decide (2 < (rd_L3 l0_2 x56_2).length) = true := decide_eq_true (by omega)
           clear c32; replace H := bS H; obtain ⟨t376, A33, H⟩ := H
           replace H : (spec_GoodBoard.j2 k2 t364 x56_2 (rd_L3 l0_2 x56_2) l0_2 (l0_2.length : Int) x56_2 (!t376) a0_0 a0_1 l0_2 l0_3 l0_4) = some r := H
           have H' := Aside0.mk H
           clear H
           have p371 : 0 ≤ (0 : Int) := (by omega)
           have q371 : 0 < ((rd_L3 l0_2 x56_2).length : Int) := da
           obtain ⟨ad371, e371, hx371_0⟩ := Kd.at_int HR370_0.out 0 p371 q371
           cases e371
           have qi371 : (0 < (rd_L3 l0_2 x56_2).length) = True := eq_true (by omega)
           (try rw [show ((0 : Int)).toNat = 0 from rfl] at hx371_0)
           (try rw [Addr.add_zero'] at hx371_0)
           replace hx371_0 := (HB.out.cell (World.block_lt_of_cell? w _ hx371_0)).trans hx371_0
           replace p371 := eq_true p371; replace q371 := eq_true q371
           go_wp2_with (first | (go_at_call 153; (with_reducible refine (spec_l1In.calls (rd (rd_L3 l0_2 x56_2) 0) 0 20 true _ A27.out).mono ?_); rintro e w' ⟨rfl, ⟨nd, rfl⟩⟩; have p373 : 0 ≤ (1 : Int) := (by omega); have q373 : 1 < ((rd_L3 l0_2 x56_2).length : Int) := da; obtain ⟨ad373, e373, hx373_0⟩ := Kd.at_int HR370_0.out 1 p373 q373; obtain rfl : ad371 = ad373 := (by injection e373); (try simp only [show (1 : Int).toNat = 1 from rfl, Nat.reduceMul, Nat.reduceEqDiff, Go.Addr.add, ↓reduceIte] at hx373_0); have qi373 : (1 < (rd_L3 l0_2 x56_2).length) = True := eq_true (by omega); (try rw [show ((1 : Int)).toNat = 1 from rfl] at hx373_0); replace hx373_0 := (HB.out.cell (World.block_lt_of_cell? w _ hx373_0)).trans hx373_0; replace p373 := eq_true p373; replace q373 := eq_true q373) | (go_at_call 153; (with_reducible refine (spec_l1In.calls (rd (rd_L3 l0_2 x56_2) 1) 0 (wrap64 (t364 - 1)) true _ A30.out).mono ?_); rintro e w' ⟨rfl, ⟨nd, rfl⟩⟩; have p375 : 0 ≤ (2 : Int) := (by omega); have q375 : 2 < ((rd_L3 l0_2 x56_2).length : Int) := da; obtain ⟨ad375, e375, hx375_0⟩ := Kd.at_int HR370_0.out 2 p375 q375; obtain rfl : ad371 = ad375 := (by injection e375); (try simp only [show (2 : Int).toNat = 2 from rfl, Nat.reduceMul, Nat.reduceEqDiff, Go.Addr.add, ↓reduceIte] at hx375_0); have qi375 : (2 < (rd_L3 l0_2 x56_2).length) = True := eq_true (by omega); (try rw [show ((2 : Int)).toNat = 2 from rfl] at hx375_0); replace hx375_0 := (HB.out.cell (World.block_lt_of_cell? w _ hx375_0)).trans hx375_0; replace p375 := eq_true p375; replace q375 := eq_true q375) | (go_at_call 194; (with_reducible refine (spec_l13List.calls (rd (rd_L3 l0_2 x56_2) 2) t376 _ A33.out).mono ?_); rintro e w' ⟨rfl, ⟨nd, rfl⟩⟩))
           go_meet
           case rel => exact ⟨_, (!t376), er, H', ⟨by have := HJ2.out; have := HK2.out; first | omega | exact Nat.le_refl _⟩, ⟨blkd BK363⟩, ⟨belowg1 HB GE363⟩⟩
          ·replace c31 := Bool.eq_false_iff.mpr c31
           subst c31
           have H1 : (spec_GoodBoard.j2 k2 t364 x56_2 (rd_L3 l0_2 x56_2) l0_2 (l0_2.length : Int) x56_2 true a0_0 a0_1 l0_2 l0_3 l0_4) = some r := by rw [if_neg (show ¬ (false = true) by decide)] at H; exact H
           clear H
           have H := H1
           clear H1
           have H' := Aside0.mk H
           clear H
           have p371 : 0 ≤ (0 : Int) := (by omega)
           have q371 : 0 < ((rd_L3 l0_2 x56_2).length : Int) := da
           obtain ⟨ad371, e371, hx371_0⟩ := Kd.at_int HR370_0.out 0 p371 q371
           cases e371
           have qi371 : (0 < (rd_L3 l0_2 x56_2).length) = True := eq_true (by omega)
           (try rw [show ((0 : Int)).toNat = 0 from rfl] at hx371_0)
           (try rw [Addr.add_zero'] at hx371_0)
           replace hx371_0 := (HB.out.cell (World.block_lt_of_cell? w _ hx371_0)).trans hx371_0
           replace p371 := eq_true p371; replace q371 := eq_true q371
           go_wp2_with (first | (go_at_call 153; (with_reducible refine (spec_l1In.calls (rd (rd_L3 l0_2 x56_2) 0) 0 20 true _ A27.out).mono ?_); rintro e w' ⟨rfl, ⟨nd, rfl⟩⟩; have p373 : 0 ≤ (1 : Int) := (by omega); have q373 : 1 < ((rd_L3 l0_2 x56_2).length : Int) := da; obtain ⟨ad373, e373, hx373_0⟩ := Kd.at_int HR370_0.out 1 p373 q373; obtain rfl : ad371 = ad373 := (by injection e373); (try simp only [show (1 : Int).toNat = 1 from rfl, Nat.reduceMul, Nat.reduceEqDiff, Go.Addr.add, ↓reduceIte] at hx373_0); have qi373 : (1 < (rd_L3 l0_2 x56_2).length) = True := eq_true (by omega); (try rw [show ((1 : Int)).toNat = 1 from rfl] at hx373_0); replace hx373_0 := (HB.out.cell (World.block_lt_of_cell? w _ hx373_0)).trans hx373_0; replace p373 := eq_true p373; replace q373 := eq_true q373) | (go_at_call 153; (with_reducible refine (spec_l1In.calls (rd (rd_L3 l0_2 x56_2) 1) 0 (wrap64 (t364 - 1)) false _ A30.out).mono ?_); rintro e w' ⟨rfl, ⟨nd, rfl⟩⟩))
           go_meet
           case rel => exact ⟨_, (true), er, H', ⟨by have := HJ2.out; have := HK2.out; first | omega | exact Nat.le_refl _⟩, ⟨blkd BK363⟩, ⟨belowg1 HB GE363⟩⟩
         ·replace c28 := Bool.eq_false_iff.mpr c28
          subst c28
          have H1 : (spec_GoodBoard.j2 k2 t364 x56_2 (rd_L3 l0_2 x56_2) l0_2 (l0_2.length : Int) x56_2 true a0_0 a0_1 l0_2 l0_3 l0_4) = some r := by rw [if_neg (show ¬ (false = true) by decide)] at H; exact H
          clear H
          have H := H1
          clear H1
          have H' := Aside0.mk H
          clear H
          have p371 : 0 ≤ (0 : Int) := (by omega)
          have q371 : 0 < ((rd_L3 l0_2 x56_2).length : Int) := da
          obtain ⟨ad371, e371, hx371_0⟩ := Kd.at_int HR370_0.out 0 p371 q371
          cases e371
          have qi371 : (0 < (rd_L3 l0_2 x56_2).length) = True := eq_true (by omega)
          (try rw [show ((0 : Int)).toNat = 0 from rfl] at hx371_0)
          (try rw [Addr.add_zero'] at hx371_0)
          replace hx371_0 := (HB.out.cell (World.block_lt_of_cell? w _ hx371_0)).trans hx371_0
          replace p371 := eq_true p371; replace q371 := eq_true q371
          go_wp2_with (first | (go_at_call 153; (with_reducible refine (spec_l1In.calls (rd (rd_L3 l0_2 x56_2) 0) 0 20 false _ A27.out).mono ?_); rintro e w' ⟨rfl, ⟨nd, rfl⟩⟩))
          go_meet
          case rel => exact ⟨_, (true), er, H', ⟨by have := HJ2.out; have := HK2.out; first | omega | exact Nat.le_refl _⟩, ⟨blkd BK363⟩, ⟨belowg1 HB GE363⟩⟩
        ·rw [if_neg c25] at H
         have c25b0 : (((rd_L3 l0_2 x56_2).length : Int) == 3) = false := beq_eq_false_iff_ne.mpr c25
         have c25b1 : (((rd_L3 l0_2 x56_2).length : Int) != 3) = true := bne_iff_ne.mpr c25
         (first | rw [c25b0] | (simp only [i64_w, i32_w]; rw [c25b0]) | skip)
         have H' := Aside0.mk H
         clear H; go_wp2
         go_meet
         case rel => exact ⟨_, (true), er, H', ⟨by have := HJ2.out; have := HK2.out; first | omega | exact Nat.le_refl _⟩, ⟨blkd BK363⟩, ⟨belowg1 HB GE363⟩⟩
       case rest =>
        clear HC24; (try clear c21b0); (try clear c22b0); (try clear c23b0); (try clear hx370_0); (try clear p370); (try clear q370)
        obtain ⟨kq, x86_23, rfl, HA, HJ23, BK363, HB⟩ := hcut
        cases kq with
        | zero => exact absurd HA.out (by simp [spec_GoodBoard.j2])
        | succ kj23 =>
         have H := HA.out; clear HA
         simp only [spec_GoodBoard.j2] at H
         by_cases c34 : x86_23 = true
         ·subst c34
          have H1 : (some false) = some r := by rw [if_pos rfl] at H; exact H
          clear H
          have H := H1
          clear H1
          obtain rfl := Option.some.inj H
          go_wp2
          go_ret
          exact ⟨er2, belowg1 HB GE363⟩
         ·replace c34 := Bool.eq_false_iff.mpr c34
          subst c34
          have H1 : (if 0 ≤ x56_2 then (if x56_2 ≤ (l0_2.length : Int) then ((some (l0_2.take (x56_2 : Int).toNat : List (List Int))).bind fun y377 => (spec_GoodBoard.l1 kj23 t364 (rd_L3 l0_2 x56_2) l0_2 (l0_2.length : Int) x56_2 y377 (y377.length : Int) 0 a0_0 a0_1 l0_2 l0_3 l0_4)) else (none)) else (none)) = some r := by rw [if_neg (show ¬ (false = true) by decide)] at H; exact H
          clear H
          have H := H1
          clear H1; replace H := ifS H; obtain ⟨c35, H⟩ := H; have c35b0 := eq_true c35
          have c35b1 : decide (0 ≤ x56_2) = true := decide_eq_true c35
          clear c35; replace H := ifS H; obtain ⟨c36, H⟩ := H; have c36b0 := eq_true c36
          have c36b1 : decide (x56_2 ≤ (l0_2.length : Int)) = true := decide_eq_true c36
          clear c36
          obtain ⟨y377, hy_⟩ : ∃ y_ : List (List Int), y_ = (l0_2.take (x56_2 : Int).toNat) := ⟨_, rfl⟩
          replace H : (spec_GoodBoard.l1 kj23 t364 (rd_L3 l0_2 x56_2) l0_2 (l0_2.length : Int) x56_2 y377 (y377.length : Int) 0 a0_0 a0_1 l0_2 l0_3 l0_4) = some r := yH
          have Ny377 := ak hy_; clear hy_
          have H' := Aside0.mk H
          clear H; obtain ⟨hcz37_0, hcz37_1, hcz37_2, hcz37_3, hcz37_4, hfz37_0, hfz37_1, hfz37_2, hfz37_3, hfz37_4⟩ := box5 BK363
          have q38 : (x56_2 : Int) ≤ ((l0_2.length : Int) : Int) := da
          obtain ⟨i038, hi038, _, hsz38, _⟩ := info_parts info23
          have hroom38 : l0_2.length ≤ c0_2 := HC0_2.out
          have hC38 : Kd.C (Kd.slice 3 (Kd.int .i64)) _ (some ad370) l0_2.length l0_2 := HR0_2.out
          have hcut38 := cut_to (P := Try.prog) 45 23 .i64 Try.underlying45 hi038 (some ad370) l0_2.length c0_2 x56_2 (da) q38 hroom38
          have hr38 := Kd.C_take (m := (x56_2 : Int).toNat) hC38 (by omega)
          have hy38 : y377.length = (x56_2 : Int).toNat := (by rw [Ny377.out, List.length_take]; omega)
          rw [← Ny377.out] at hr38
          rw [← hy38] at hcut38
          have HR380 := Aside0.mk hr38
          have HC380 := Aside0.mk (show y377.length ≤ c0_2 from by omega)
          clear hr38 hC38 hroom38 hi038 hsz38; have KY38 := Aside0.mk hy38; clear hy38; replace q38 := eq_true q38; go_wp2
          go_loopg [92] kj23 (fun kq v92 w' => ∃ (x92_4 : Int), v92 = .int .i64 x92_4 ∧ Aside0 (spec_GoodBoard.l1 kq t364 (rd_L3 l0_2 x56_2) l0_2 (l0_2.length : Int) x56_2 y377 (y377.length : Int) x92_4 a0_0 a0_1 l0_2 l0_3 l0_4 = some r) ∧ Aside0 (kq ≤ kj23) ∧ Aside0 (w'.heap[gb363]? = some (.cells #[.int .i64 a0_0, .int .i64 a0_1, (.slice (some ad370) l0_2.length c0_2), (.slice A0_3 l0_3.length c0_3), (.slice A0_4 l0_4.length c0_4)] 47 (0, 0))) ∧ Aside0 (Below w.heap.size w w'))
          case atStart => exact ⟨(0), er, H', ⟨Nat.le_refl _⟩, ⟨blkd BK363⟩, ⟨belowg1 HB GE363⟩⟩
          case round =>
           clear H'
           (try clear c34); (try clear c35b0); (try clear c35b1); (try clear c36b0); (try clear c36b1); (try clear q38); (try clear hcz37_0); (try clear hcz37_1); (try clear hcz37_2); (try clear hcz37_3); (try clear hcz37_4); (try clear hfz37_0); (try clear hfz37_1); (try clear hfz37_2); (try clear hfz37_3); (try clear hfz37_4)
           obtain ⟨x92_4, rfl, HA, HK4, BK363, HB⟩ := hrel
           cases gk with
           | zero => exact absurd HA.out (by simp [spec_GoodBoard.l1])
           | succ k4 =>
            have H := HA.out; clear HA
            simp only [spec_GoodBoard.l1] at H
            by_cases c39 : x92_4 < (y377.length : Int)
            ·rw [if_pos c39] at H
             have c39b0 : decide (x92_4 < (y377.length : Int)) = true := decide_eq_true c39
             clear c39; replace H := ifS H; obtain ⟨c40, H⟩ := H; have c40b0 := decide_eq_true c40; clear c40; replace H := ifS H; obtain ⟨c41, H⟩ := H; have c41b0 := decide_eq_true c41; clear c41; replace H := ifS H; obtain ⟨c42, H⟩ := H; have c42b0 := decide_eq_true c42
             have c42b1 : decide (0 < (rd_L3 y377 x92_4).length) = true := decide_eq_true (by omega)
             clear c42; replace H := ifS H; obtain ⟨c43, H⟩ := H; have c43b0 := decide_eq_true c43
             have c43b1 : decide (0 < (rd_L3 l0_2 x56_2).length) = true := decide_eq_true (by omega)
             clear c43
             by_cases c44 : (rd (rd_L3 y377 x92_4) 0) = (rd (rd_L3 l0_2 x56_2) 0)
             ·rw [if_pos c44] at H
              have c44b0 : ((rd (rd_L3 y377 x92_4) 0) == (rd (rd_L3 l0_2 x56_2) 0)) = true := beq_iff_eq.mpr c44
              have c44b1 : ((rd (rd_L3 y377 x92_4) 0) != (rd (rd_L3 l0_2 x56_2) 0)) = false := bne_eq_false_iff_eq.mpr c44
              clear c44; replace H := ifS H; obtain ⟨c45, H⟩ := H; have c45b0 := decide_eq_true c45
              have c45b1 : decide (1 < (rd_L3 y377 x92_4).length) = true := decide_eq_true (by omega)
              clear c45; replace H := ifS H; obtain ⟨c46, H⟩ := H; have c46b0 := decide_eq_true c46
              have c46b1 : decide (1 < (rd_L3 l0_2 x56_2).length) = true := decide_eq_true (by omega)
              clear c46
              by_cases c47 : (rd (rd_L3 y377 x92_4) 1) = (rd (rd_L3 l0_2 x56_2) 1)
              ·rw [if_pos c47] at H
               have c47b0 : ((rd (rd_L3 y377 x92_4) 1) == (rd (rd_L3 l0_2 x56_2) 1)) = true := beq_iff_eq.mpr c47
               have c47b1 : ((rd (rd_L3 y377 x92_4) 1) != (rd (rd_L3 l0_2 x56_2) 1)) = false := bne_eq_false_iff_eq.mpr c47
               clear c47; replace H := ifS H; obtain ⟨c48, H⟩ := H; have c48b0 := decide_eq_true c48
               have c48b1 : decide (2 < (rd_L3 y377 x92_4).length) = true := decide_eq_true (by omega)
               clear c48; replace H := ifS H; obtain ⟨c49, H⟩ := H; have c49b0 := decide_eq_true c49
               have c49b1 : decide (2 < (rd_L3 l0_2 x56_2).length) = true := decide_eq_true (by omega)
               clear c49
               by_cases c50 : (rd (rd_L3 y377 x92_4) 2) = (rd (rd_L3 l0_2 x56_2) 2)
               ·rw [if_pos c50] at H
                have c50b0 : ((rd (rd_L3 y377 x92_4) 2) == (rd (rd_L3 l0_2 x56_2) 2)) = true := beq_iff_eq.mpr c50
                have c50b1 : ((rd (rd_L3 y377 x92_4) 2) != (rd (rd_L3 l0_2 x56_2) 2)) = false := bne_eq_false_iff_eq.mpr c50
                clear c50
                have H' := Aside0.mk H
                clear H
                have p381 : 0 ≤ (x92_4 : Int) := da
                have q381 : x92_4 < (y377.length : Int) := da
                obtain ⟨ad381, A381_0, c381_0, e381, hx381_0, hl381_0, hi381_0⟩ := at_L3 HR380.out x92_4 p381 q381
                obtain rfl : ad370 = ad381 := (by injection e381)
                replace hx381_0 := (HB.out.cell (World.block_lt_of_cell? w _ hx381_0)).trans hx381_0
                have HR381_0 := Aside0.mk hi381_0; have HC381_0 := Aside0.mk hl381_0; clear hi381_0 hl381_0; replace p381 := eq_true p381; replace q381 := eq_true q381
                try go_wp2
                replace BK363 := ak (blk_drew BK363.out)
                replace HB := ak (below_drew1 HB.out)
                have p382 : 0 ≤ (0 : Int) := (by omega)
                have q382 : 0 < ((rd_L3 y377 x92_4).length : Int) := da
                obtain ⟨ad382, e382, hx382_0⟩ := Kd.at_int HR381_0.out 0 p382 q382
                have hw382_0 := hx382_0
                (try rw [show ((0 : Int)).toNat = 0 from rfl] at hw382_0)
                (try rw [show 0 * 1 = 0 from rfl] at hw382_0)
                (try rw [Addr.add_zero'] at hw382_0)
                cases e382
                have qi382 : (0 < (rd_L3 y377 x92_4).length) = True := eq_true (by omega)
                (try rw [show ((0 : Int)).toNat = 0 from rfl] at hx382_0)
                (try rw [Addr.add_zero'] at hx382_0)
                replace hx382_0 := (HB.out.cell (World.block_lt_of_cell? w _ hx382_0)).trans hx382_0
                replace p382 := eq_true p382; replace q382 := eq_true q382
                have p383 : 0 ≤ (0 : Int) := (by omega)
                have q383 : 0 < ((rd_L3 l0_2 x56_2).length : Int) := da
                obtain ⟨ad383, e383, hx383_0⟩ := Kd.at_int HR370_0.out 0 p383 q383
                have hw383_0 := hx383_0
                (try rw [show ((0 : Int)).toNat = 0 from rfl] at hw383_0)
                (try rw [show 0 * 1 = 0 from rfl] at hw383_0)
                (try rw [Addr.add_zero'] at hw383_0)
                cases e383
                have qi383 : (0 < (rd_L3 l0_2 x56_2).length) = True := eq_true (by omega)
                (try rw [show ((0 : Int)).toNat = 0 from rfl] at hx383_0)
                (try rw [Addr.add_zero'] at hx383_0)
                replace hx383_0 := (HB.out.cell (World.block_lt_of_cell? w _ hx383_0)).trans hx383_0
                replace p383 := eq_true p383; replace q383 := eq_true q383
                have p384 : 0 ≤ (1 : Int) := (by omega)
                have q384 : 1 < ((rd_L3 y377 x92_4).length : Int) := da
                obtain ⟨ad384, e384, hx384_0⟩ := Kd.at_int HR381_0.out 1 p384 q384
                have hw384_0 := hx384_0
                (try rw [show ((1 : Int)).toNat = 1 from rfl] at hw384_0)
                (try rw [show 1 * 1 = 1 from rfl] at hw384_0)
                (try simp only [Nat.reduceMul, Nat.reduceEqDiff, Go.Addr.add, ↓reduceIte] at hw384_0)
                obtain rfl : ad382 = ad384 := (by injection e384)
                (try simp only [show (1 : Int).toNat = 1 from rfl, Nat.reduceMul, Nat.reduceEqDiff, Go.Addr.add, ↓reduceIte] at hx384_0)
                have qi384 : (1 < (rd_L3 y377 x92_4).length) = True := eq_true (by omega)
                (try rw [show ((1 : Int)).toNat = 1 from rfl] at hx384_0)
                replace hx384_0 := (HB.out.cell (World.block_lt_of_cell? w _ hx384_0)).trans hx384_0
                replace p384 := eq_true p384; replace q384 := eq_true q384
                have p385 : 0 ≤ (1 : Int) := (by omega)
                have q385 : 1 < ((rd_L3 l0_2 x56_2).length : Int) := da
                obtain ⟨ad385, e385, hx385_0⟩ := Kd.at_int HR370_0.out 1 p385 q385
                have hw385_0 := hx385_0
                (try rw [show ((1 : Int)).toNat = 1 from rfl] at hw385_0)
                (try rw [show 1 * 1 = 1 from rfl] at hw385_0)
                (try simp only [Nat.reduceMul, Nat.reduceEqDiff, Go.Addr.add, ↓reduceIte] at hw385_0)
                obtain rfl : ad383 = ad385 := (by injection e385)
                (try simp only [show (1 : Int).toNat = 1 from rfl, Nat.reduceMul, Nat.reduceEqDiff, Go.Addr.add, ↓reduceIte] at hx385_0)
                have qi385 : (1 < (rd_L3 l0_2 x56_2).length) = True := eq_true (by omega)
                (try rw [show ((1 : Int)).toNat = 1 from rfl] at hx385_0)
                replace hx385_0 := (HB.out.cell (World.block_lt_of_cell? w _ hx385_0)).trans hx385_0
                replace p385 := eq_true p385; replace q385 := eq_true q385
                have p386 : 0 ≤ (2 : Int) := (by omega)
                have q386 : 2 < ((rd_L3 y377 x92_4).length : Int) := da
                obtain ⟨ad386, e386, hx386_0⟩ := Kd.at_int HR381_0.out 2 p386 q386
                have hw386_0 := hx386_0
                (try rw [show ((2 : Int)).toNat = 2 from rfl] at hw386_0)
                (try rw [show 2 * 1 = 2 from rfl] at hw386_0)
                (try simp only [Nat.reduceMul, Nat.reduceEqDiff, Go.Addr.add, ↓reduceIte] at hw386_0)
                obtain rfl : ad382 = ad386 := (by injection e386)
                (try simp only [show (2 : Int).toNat = 2 from rfl, Nat.reduceMul, Nat.reduceEqDiff, Go.Addr.add, ↓reduceIte] at hx386_0)
                have qi386 : (2 < (rd_L3 y377 x92_4).length) = True := eq_true (by omega)
                (try rw [show ((2 : Int)).toNat = 2 from rfl] at hx386_0)
                replace hx386_0 := (HB.out.cell (World.block_lt_of_cell? w _ hx386_0)).trans hx386_0
                replace p386 := eq_true p386; replace q386 := eq_true q386
                have p387 : 0 ≤ (2 : Int) := (by omega)
                have q387 : 2 < ((rd_L3 l0_2 x56_2).length : Int) := da
                obtain ⟨ad387, e387, hx387_0⟩ := Kd.at_int HR370_0.out 2 p387 q387
                have hw387_0 := hx387_0
                (try rw [show ((2 : Int)).toNat = 2 from rfl] at hw387_0)
                (try rw [show 2 * 1 = 2 from rfl] at hw387_0)
                (try simp only [Nat.reduceMul, Nat.reduceEqDiff, Go.Addr.add, ↓reduceIte] at hw387_0)
                obtain rfl : ad383 = ad387 := (by injection e387)
                (try simp only [show (2 : Int).toNat = 2 from rfl, Nat.reduceMul, Nat.reduceEqDiff, Go.Addr.add, ↓reduceIte] at hx387_0)
                have qi387 : (2 < (rd_L3 l0_2 x56_2).length) = True := eq_true (by omega)
                (try rw [show ((2 : Int)).toNat = 2 from rfl] at hx387_0)
                replace hx387_0 := (HB.out.cell (World.block_lt_of_cell? w _ hx387_0)).trans hx387_0
                replace p387 := eq_true p387; replace q387 := eq_true q387
                refine start_ (n := 34) (S := fun w' => w'.cell? ad382 = some (.int .i64 (rd (rd_L3 y377 x92_4) 0)) ∧ w'.cell? ad383 = some (.int .i64 (rd (rd_L3 l0_2 x56_2) 0)) ∧ w'.cell? ⟨ad382.block, ad382.off + 1, none⟩ = some (.int .i64 (rd (rd_L3 y377 x92_4) 1)) ∧ w'.cell? ⟨ad383.block, ad383.off + 1, none⟩ = some (.int .i64 (rd (rd_L3 l0_2 x56_2) 1)) ∧ w'.cell? ⟨ad382.block, ad382.off + 2, none⟩ = some (.int .i64 (rd (rd_L3 y377 x92_4) 2)) ∧ w'.cell? ⟨ad383.block, ad383.off + 2, none⟩ = some (.int .i64 (rd (rd_L3 l0_2 x56_2) 2))) (ds := []) (bl 34 0) (by kernel_rfl) rfl rfl ⟨((HB.out.cell (World.block_lt_of_cell? w _ hw382_0)).trans hw382_0), ((HB.out.cell (World.block_lt_of_cell? w _ hw383_0)).trans hw383_0), ((HB.out.cell (World.block_lt_of_cell? w _ hw384_0)).trans hw384_0), ((HB.out.cell (World.block_lt_of_cell? w _ hw385_0)).trans hw385_0), ((HB.out.cell (World.block_lt_of_cell? w _ hw386_0)).trans hw386_0), ((HB.out.cell (World.block_lt_of_cell? w _ hw387_0)).trans hw387_0)⟩ (fun hHeld => ?_); refine with_tabW spec_GoodBoard.tab12 spec_GoodBoard.bits12 (fun HT_ HW_ => ?_)
                generalize wr.drew = w51 at BK363 HB hx382_0 hx383_0 hx384_0 hx385_0 hx386_0 hx387_0 hHeld ⊢
                refine pureA 0 (some 96) 34 1 HT_ ?_
                refine pureA 1 (some 97) 34 3 HT_ ?_
                refine pureA 3 (some 99) 34 11 HT_ ?_
                refine pureA 4 (some 100) 34 27 HT_ ?_
                refine takeA 2 (some 98) 34 31 HT_ HW_ hHeld ?_ (hy := by rintro w' ⟨s0, s1, s2, s3, s4, s5⟩; go_simp; with_reducible rfl)
                refine takeA 5 (some 101) 34 63 HT_ HW_ hHeld ?_ (hy := by rintro w' ⟨s0, s1, s2, s3, s4, s5⟩; go_simp; with_reducible rfl)
                refine pureA 6 (some 102) 34 127 HT_ ?_
                refine pureA 7 (some 103) 34 255 HT_ ?_
                refine pureA 8 (some 104) 34 511 HT_ ?_
                refine pureA 9 (some 105) 34 1023 HT_ ?_
                refine pureA 11 (some 107) 34 3071 HT_ ?_
                refine pureA 12 (some 108) 34 7167 HT_ ?_
                refine takeA 10 (some 106) 34 8191 HT_ HW_ hHeld ?_ (hy := by rintro w' ⟨s0, s1, s2, s3, s4, s5⟩; go_simp; with_reducible rfl)
                refine takeA 13 (some 109) 34 16383 HT_ HW_ hHeld ?_ (hy := by rintro w' ⟨s0, s1, s2, s3, s4, s5⟩; go_simp; with_reducible rfl)
                refine pureA 14 (some 110) 34 32767 HT_ ?_
                refine pureA 15 (some 111) 34 65535 HT_ ?_
                refine pureA 16 (some 112) 34 131071 HT_ ?_
                refine pureA 17 (some 113) 34 262143 HT_ ?_
                refine pureA 18 (some 114) 34 524287 HT_ ?_
                refine pureA 20 (some 116) 34 1572863 HT_ ?_
                refine pureA 21 (some 117) 34 3670015 HT_ ?_
                refine takeA 19 (some 115) 34 4194303 HT_ HW_ hHeld ?_ (hy := by rintro w' ⟨s0, s1, s2, s3, s4, s5⟩; go_simp; with_reducible rfl)
                refine takeA 22 (some 118) 34 8388607 HT_ HW_ hHeld ?_ (hy := by rintro w' ⟨s0, s1, s2, s3, s4, s5⟩; go_simp; with_reducible rfl)
                refine pureA 23 (some 119) 34 16777215 HT_ ?_
                refine pureA 24 (some 120) 34 33554431 HT_ ?_
                refine pureA 25 (some 121) 34 67108863 HT_ ?_
                refine pureB 26 (some 122) 34 134217727 HT_ ?_
                refine pureB 27 (some 123) 34 268435455 HT_ ?_
                refine pureB 28 (some 124) 34 536870911 HT_ ?_
                refine pureB 29 (some 125) 34 1073741823 HT_ ?_
                refine pureB 30 (some 126) 34 2147483647 HT_ ?_
                refine pureB 31 (some 127) 34 4294967295 HT_ ?_
                refine pureB 32 (some 128) 34 8589934591 HT_ ?_
                refine pureA 33 (some 129) 34 17179869183 HT_ ?_
                refine done_ (done_of HT_.out (by kernel_rfl)) ?_
                try go_wp2
                go_roundg k4
                case measure => have := HJ2.out; have := HK2.out; have := HJ23.out; have := HK4.out; omega
                case rel => exact ⟨(wrap64 (x92_4 + 1)), er, H', ⟨by have := HJ2.out; have := HK2.out; have := HJ23.out; have := HK4.out; omega⟩, ⟨blkd BK363⟩, ⟨belowg1 HB GE363⟩⟩
               ·rw [if_neg c50] at H
                have c50b0 : ((rd (rd_L3 y377 x92_4) 2) == (rd (rd_L3 l0_2 x56_2) 2)) = false := beq_eq_false_iff_ne.mpr c50
                have c50b1 : ((rd (rd_L3 y377 x92_4) 2) != (rd (rd_L3 l0_2 x56_2) 2)) = true := bne_iff_ne.mpr c50
                replace H := bS H; obtain ⟨t389, A52, H⟩ := H
                replace H : (if t389 = true then (spec_GoodBoard.l1 k4 t364 (rd_L3 l0_2 x56_2) l0_2 (l0_2.length : Int) x56_2 y377 (y377.length : Int) (wrap64 (x92_4 + 1)) a0_0 a0_1 l0_2 l0_3 l0_4) else (some false)) = some r := H
                by_cases c53 : t389 = true
                ·subst c53
                 have H1 : (spec_GoodBoard.l1 k4 t364 (rd_L3 l0_2 x56_2) l0_2 (l0_2.length : Int) x56_2 y377 (y377.length : Int) (wrap64 (x92_4 + 1)) a0_0 a0_1 l0_2 l0_3 l0_4) = some r := by rw [if_pos rfl] at H; exact H
                 clear H
                 have H := H1
                 clear H1
                 have H' := Aside0.mk H
                 clear H
                 have p381 : 0 ≤ (x92_4 : Int) := da
                 have q381 : x92_4 < (y377.length : Int) := da
                 obtain ⟨ad381, A381_0, c381_0, e381, hx381_0, hl381_0, hi381_0⟩ := at_L3 HR380.out x92_4 p381 q381
                 obtain rfl : ad370 = ad381 := (by injection e381)
                 replace hx381_0 := (HB.out.cell (World.block_lt_of_cell? w _ hx381_0)).trans hx381_0
                 have HR381_0 := Aside0.mk hi381_0; have HC381_0 := Aside0.mk hl381_0; clear hi381_0 hl381_0; replace p381 := eq_true p381; replace q381 := eq_true q381
                 try go_wp2
                 replace BK363 := ak (blk_drew BK363.out)
                 replace HB := ak (below_drew1 HB.out)
                 have p382 : 0 ≤ (0 : Int) := (by omega)
                 have q382 : 0 < ((rd_L3 y377 x92_4).length : Int) := da
                 obtain ⟨ad382, e382, hx382_0⟩ := Kd.at_int HR381_0.out 0 p382 q382
                 have hw382_0 := hx382_0
                 (try rw [show ((0 : Int)).toNat = 0 from rfl] at hw382_0)
                 (try rw [show 0 * 1 = 0 from rfl] at hw382_0)
                 (try rw [Addr.add_zero'] at hw382_0)
                 cases e382
                 have qi382 : (0 < (rd_L3 y377 x92_4).length) = True := eq_true (by omega)
                 (try rw [show ((0 : Int)).toNat = 0 from rfl] at hx382_0)
                 (try rw [Addr.add_zero'] at hx382_0)
                 replace hx382_0 := (HB.out.cell (World.block_lt_of_cell? w _ hx382_0)).trans hx382_0
                 replace p382 := eq_true p382; replace q382 := eq_true q382
                 have p383 : 0 ≤ (0 : Int) := (by omega)
                 have q383 : 0 < ((rd_L3 l0_2 x56_2).length : Int) := da
                 obtain ⟨ad383, e383, hx383_0⟩ := Kd.at_int HR370_0.out 0 p383 q383
                 have hw383_0 := hx383_0
                 (try rw [show ((0 : Int)).toNat = 0 from rfl] at hw383_0)
                 (try rw [show 0 * 1 = 0 from rfl] at hw383_0)
                 (try rw [Addr.add_zero'] at hw383_0)
                 cases e383
                 have qi383 : (0 < (rd_L3 l0_2 x56_2).length) = True := eq_true (by omega)
                 (try rw [show ((0 : Int)).toNat = 0 from rfl] at hx383_0)
                 (try rw [Addr.add_zero'] at hx383_0)
                 replace hx383_0 := (HB.out.cell (World.block_lt_of_cell? w _ hx383_0)).trans hx383_0
                 replace p383 := eq_true p383; replace q383 := eq_true q383
                 have p384 : 0 ≤ (1 : Int) := (by omega)
                 have q384 : 1 < ((rd_L3 y377 x92_4).length : Int) := da
                 obtain ⟨ad384, e384, hx384_0⟩ := Kd.at_int HR381_0.out 1 p384 q384
                 have hw384_0 := hx384_0
                 (try rw [show ((1 : Int)).toNat = 1 from rfl] at hw384_0)
                 (try rw [show 1 * 1 = 1 from rfl] at hw384_0)
                 (try simp only [Nat.reduceMul, Nat.reduceEqDiff, Go.Addr.add, ↓reduceIte] at hw384_0)
                 obtain rfl : ad382 = ad384 := (by injection e384)
                 (try simp only [show (1 : Int).toNat = 1 from rfl, Nat.reduceMul, Nat.reduceEqDiff, Go.Addr.add, ↓reduceIte] at hx384_0)
                 have qi384 : (1 < (rd_L3 y377 x92_4).length) = True := eq_true (by omega)
                 (try rw [show ((1 : Int)).toNat = 1 from rfl] at hx384_0)
                 replace hx384_0 := (HB.out.cell (World.block_lt_of_cell? w _ hx384_0)).trans hx384_0
                 replace p384 := eq_true p384; replace q384 := eq_true q384
                 have p385 : 0 ≤ (1 : Int) := (by omega)
                 have q385 : 1 < ((rd_L3 l0_2 x56_2).length : Int) := da
                 obtain ⟨ad385, e385, hx385_0⟩ := Kd.at_int HR370_0.out 1 p385 q385
                 have hw385_0 := hx385_0
                 (try rw [show ((1 : Int)).toNat = 1 from rfl] at hw385_0)
                 (try rw [show 1 * 1 = 1 from rfl] at hw385_0)
                 (try simp only [Nat.reduceMul, Nat.reduceEqDiff, Go.Addr.add, ↓reduceIte] at hw385_0)
                 obtain rfl : ad383 = ad385 := (by injection e385)
                 (try simp only [show (1 : Int).toNat = 1 from rfl, Nat.reduceMul, Nat.reduceEqDiff, Go.Addr.add, ↓reduceIte] at hx385_0)
                 have qi385 : (1 < (rd_L3 l0_2 x56_2).length) = True := eq_true (by omega)
                 (try rw [show ((1 : Int)).toNat = 1 from rfl] at hx385_0)
                 replace hx385_0 := (HB.out.cell (World.block_lt_of_cell? w _ hx385_0)).trans hx385_0
                 replace p385 := eq_true p385; replace q385 := eq_true q385
                 have p386 : 0 ≤ (2 : Int) := (by omega)
                 have q386 : 2 < ((rd_L3 y377 x92_4).length : Int) := da
                 obtain ⟨ad386, e386, hx386_0⟩ := Kd.at_int HR381_0.out 2 p386 q386
                 have hw386_0 := hx386_0
                 (try rw [show ((2 : Int)).toNat = 2 from rfl] at hw386_0)
                 (try rw [show 2 * 1 = 2 from rfl] at hw386_0)
                 (try simp only [Nat.reduceMul, Nat.reduceEqDiff, Go.Addr.add, ↓reduceIte] at hw386_0)
                 obtain rfl : ad382 = ad386 := (by injection e386)
                 (try simp only [show (2 : Int).toNat = 2 from rfl, Nat.reduceMul, Nat.reduceEqDiff, Go.Addr.add, ↓reduceIte] at hx386_0)
                 have qi386 : (2 < (rd_L3 y377 x92_4).length) = True := eq_true (by omega)
                 (try rw [show ((2 : Int)).toNat = 2 from rfl] at hx386_0)
                 replace hx386_0 := (HB.out.cell (World.block_lt_of_cell? w _ hx386_0)).trans hx386_0
                 replace p386 := eq_true p386; replace q386 := eq_true q386
                 have p387 : 0 ≤ (2 : Int) := (by omega)
                 have q387 : 2 < ((rd_L3 l0_2 x56_2).length : Int) := da
                 obtain ⟨ad387, e387, hx387_0⟩ := Kd.at_int HR370_0.out 2 p387 q387
                 have hw387_0 := hx387_0
                 (try rw [show ((2 : Int)).toNat = 2 from rfl] at hw387_0)
                 (try rw [show 2 * 1 = 2 from rfl] at hw387_0)
                 (try simp only [Nat.reduceMul, Nat.reduceEqDiff, Go.Addr.add, ↓reduceIte] at hw387_0)
                 obtain rfl : ad383 = ad387 := (by injection e387)
                 (try simp only [show (2 : Int).toNat = 2 from rfl, Nat.reduceMul, Nat.reduceEqDiff, Go.Addr.add, ↓reduceIte] at hx387_0)
                 have qi387 : (2 < (rd_L3 l0_2 x56_2).length) = True := eq_true (by omega)
                 (try rw [show ((2 : Int)).toNat = 2 from rfl] at hx387_0)
                 replace hx387_0 := (HB.out.cell (World.block_lt_of_cell? w _ hx387_0)).trans hx387_0
                 replace p387 := eq_true p387; replace q387 := eq_true q387
                 have p388 : 0 ≤ (1 : Int) := (by omega)
                 have q388 : 1 < ((rd_L3 l0_2 x56_2).length : Int) := da
                 obtain ⟨ad388, e388, hx388_0⟩ := Kd.at_int HR370_0.out 1 p388 q388
                 have hw388_0 := hx388_0
                 (try rw [show ((1 : Int)).toNat = 1 from rfl] at hw388_0)
                 (try rw [show 1 * 1 = 1 from rfl] at hw388_0)
                 (try simp only [Nat.reduceMul, Nat.reduceEqDiff, Go.Addr.add, ↓reduceIte] at hw388_0)
                 obtain rfl : ad383 = ad388 := (by injection e388)
                 (try simp only [show (1 : Int).toNat = 1 from rfl, Nat.reduceMul, Nat.reduceEqDiff, Go.Addr.add, ↓reduceIte] at hx388_0)
                 have qi388 : (1 < (rd_L3 l0_2 x56_2).length) = True := eq_true (by omega)
                 (try rw [show ((1 : Int)).toNat = 1 from rfl] at hx388_0)
                 replace hx388_0 := (HB.out.cell (World.block_lt_of_cell? w _ hx388_0)).trans hx388_0
                 replace p388 := eq_true p388; replace q388 := eq_true q388
                 refine start_ (n := 34) (S := fun w' => w'.cell? ⟨gb363, 0, none⟩ = some (.int .i64 a0_0) ∧ w'.cell? ⟨gb363, 1, none⟩ = some (.int .i64 a0_1) ∧ w'.cell? ⟨gb363, 2, none⟩ = some (.slice (some ad370) l0_2.length c0_2) ∧ w'.cell? ⟨gb363, 3, none⟩ = some (.slice A0_3 l0_3.length c0_3) ∧ w'.cell? ⟨gb363, 4, none⟩ = some (.slice A0_4 l0_4.length c0_4) ∧ w'.cell? ad382 = some (.int .i64 (rd (rd_L3 y377 x92_4) 0)) ∧ w'.cell? ad383 = some (.int .i64 (rd (rd_L3 l0_2 x56_2) 0)) ∧ w'.cell? ⟨ad382.block, ad382.off + 1, none⟩ = some (.int .i64 (rd (rd_L3 y377 x92_4) 1)) ∧ w'.cell? ⟨ad383.block, ad383.off + 1, none⟩ = some (.int .i64 (rd (rd_L3 l0_2 x56_2) 1)) ∧ w'.cell? ⟨ad382.block, ad382.off + 2, none⟩ = some (.int .i64 (rd (rd_L3 y377 x92_4) 2)) ∧ w'.cell? ⟨ad383.block, ad383.off + 2, none⟩ = some (.int .i64 (rd (rd_L3 l0_2 x56_2) 2)) ∧ w'.cell? ⟨ad383.block, ad383.off + 1, none⟩ = some (.int .i64 (rd (rd_L3 l0_2 x56_2) 1))) (ds := []) (bl 34 0) (by kernel_rfl) rfl rfl ⟨bq BK363 0, bq BK363 1, bq BK363 2, bq BK363 3, bq BK363 4, ((HB.out.cell (World.block_lt_of_cell? w _ hw382_0)).trans hw382_0), ((HB.out.cell (World.block_lt_of_cell? w _ hw383_0)).trans hw383_0), ((HB.out.cell (World.block_lt_of_cell? w _ hw384_0)).trans hw384_0), ((HB.out.cell (World.block_lt_of_cell? w _ hw385_0)).trans hw385_0), ((HB.out.cell (World.block_lt_of_cell? w _ hw386_0)).trans hw386_0), ((HB.out.cell (World.block_lt_of_cell? w _ hw387_0)).trans hw387_0), ((HB.out.cell (World.block_lt_of_cell? w _ hw388_0)).trans hw388_0)⟩ (fun hHeld => ?_); refine with_tabW spec_GoodBoard.tab12 spec_GoodBoard.bits12 (fun HT_ HW_ => ?_)
                 generalize wr.drew = w54 at BK363 HB hx382_0 hx383_0 hx384_0 hx385_0 hx386_0 hx387_0 hx388_0 hHeld ⊢
                 refine pureA 0 (some 96) 34 1 HT_ ?_
                 refine pureA 1 (some 97) 34 3 HT_ ?_
                 refine pureA 3 (some 99) 34 11 HT_ ?_
                 refine pureA 4 (some 100) 34 27 HT_ ?_
                 refine takeA 2 (some 98) 34 31 HT_ HW_ hHeld ?_ (hy := by rintro w' ⟨s0, s1, s2, s3, s4, s5, s6, s7, s8, s9, s10, s11⟩; go_simp; with_reducible rfl)
                 refine takeA 5 (some 101) 34 63 HT_ HW_ hHeld ?_ (hy := by rintro w' ⟨s0, s1, s2, s3, s4, s5, s6, s7, s8, s9, s10, s11⟩; go_simp; with_reducible rfl)
                 refine pureA 6 (some 102) 34 127 HT_ ?_
                 refine pureA 7 (some 103) 34 255 HT_ ?_
                 refine pureA 8 (some 104) 34 511 HT_ ?_
                 refine pureA 9 (some 105) 34 1023 HT_ ?_
                 refine pureA 11 (some 107) 34 3071 HT_ ?_
                 refine pureA 12 (some 108) 34 7167 HT_ ?_
                 refine takeA 10 (some 106) 34 8191 HT_ HW_ hHeld ?_ (hy := by rintro w' ⟨s0, s1, s2, s3, s4, s5, s6, s7, s8, s9, s10, s11⟩; go_simp; with_reducible rfl)
                 refine takeA 13 (some 109) 34 16383 HT_ HW_ hHeld ?_ (hy := by rintro w' ⟨s0, s1, s2, s3, s4, s5, s6, s7, s8, s9, s10, s11⟩; go_simp; with_reducible rfl)
                 refine pureA 14 (some 110) 34 32767 HT_ ?_
                 refine pureA 15 (some 111) 34 65535 HT_ ?_
                 refine pureA 16 (some 112) 34 131071 HT_ ?_
                 refine pureA 17 (some 113) 34 262143 HT_ ?_
                 refine pureA 18 (some 114) 34 524287 HT_ ?_
                 refine pureA 20 (some 116) 34 1572863 HT_ ?_
                 refine pureA 21 (some 117) 34 3670015 HT_ ?_
                 refine takeA 19 (some 115) 34 4194303 HT_ HW_ hHeld ?_ (hy := by rintro w' ⟨s0, s1, s2, s3, s4, s5, s6, s7, s8, s9, s10, s11⟩; go_simp; with_reducible rfl)
                 refine takeA 22 (some 118) 34 8388607 HT_ HW_ hHeld ?_ (hy := by rintro w' ⟨s0, s1, s2, s3, s4, s5, s6, s7, s8, s9, s10, s11⟩; go_simp; with_reducible rfl)
                 refine pureA 23 (some 119) 34 16777215 HT_ ?_
                 refine pureA 24 (some 120) 34 33554431 HT_ ?_
                 refine pureA 25 (some 121) 34 67108863 HT_ ?_
                 refine pureA 26 (some 122) 34 134217727 HT_ ?_
                 refine pureA 28 (some 124) 34 402653183 HT_ ?_
                 refine pureA 29 (some 125) 34 939524095 HT_ ?_
                 refine takeA 27 (some 123) 34 1073741823 HT_ HW_ hHeld ?_ (hy := by rintro w' ⟨s0, s1, s2, s3, s4, s5, s6, s7, s8, s9, s10, s11⟩; go_simp; with_reducible rfl)
                 refine takeA 30 (some 126) 34 2147483647 HT_ HW_ hHeld ?_ (hy := by rintro w' ⟨s0, s1, s2, s3, s4, s5, s6, s7, s8, s9, s10, s11⟩; go_simp; with_reducible rfl)
                 refine oneA 31 (some 127) 34 4294967295 HT_ (fun K hK => ?_)
                 refine goes_ Try.func173 (by kernel_rfl) rfl #[.slice A0_3 l0_3.length c0_3, .int .i64 (rd (rd_L3 l0_2 x56_2) 1)] (by rfl) rfl rfl (by (try simp only [List.map_toArray, List.map_cons, List.map_nil]); first | done | rfl | (simp only [List.length_drop, List.length_take]; rfl)) ?_
                 with_reducible refine (spec_l1Has.calls k4 _ _ l0_3 (rd (rd_L3 l0_2 x56_2) 1) true _ ?side1 ?side2 A52.out).mono ?_
                 (case side1 => exact cd (Kd.C_below HR0_3.out HB.out))
                 (case side2 => exact HC0_3.out)
                 rintro e w' ⟨rfl, ⟨nd, rfl⟩⟩
                 refine ⟨_, rfl, ?_⟩
                 refine hK.out _ _ ⟨bq BK363 0, bq BK363 1, bq BK363 2, bq BK363 3, bq BK363 4, ((HB.out.cell (World.block_lt_of_cell? w _ hw382_0)).trans hw382_0), ((HB.out.cell (World.block_lt_of_cell? w _ hw383_0)).trans hw383_0), ((HB.out.cell (World.block_lt_of_cell? w _ hw384_0)).trans hw384_0), ((HB.out.cell (World.block_lt_of_cell? w _ hw385_0)).trans hw385_0), ((HB.out.cell (World.block_lt_of_cell? w _ hw386_0)).trans hw386_0), ((HB.out.cell (World.block_lt_of_cell? w _ hw387_0)).trans hw387_0), ((HB.out.cell (World.block_lt_of_cell? w _ hw388_0)).trans hw388_0)⟩ (fun hHeld => ?_)
                 clear hK K
                 refine norm_ (a' := ?_) ?_ ?_
                 rotate_left
                 ·show Act.put _ (some 127) _ = _
                  simp only [Act.put, List.setIfInBounds_toArray, List.set_cons_zero, List.set_cons_succ, i64_w, i32_w]
                  rfl
                 refine pureA 32 (some 128) 34 8589934591 HT_ ?_
                 refine pureA 33 (some 129) 34 17179869183 HT_ ?_
                 refine done_ (done_of HT_.out (by kernel_rfl)) ?_
                 try go_wp2
                 go_roundg k4
                 case measure => have := HJ2.out; have := HK2.out; have := HJ23.out; have := HK4.out; omega
                 case rel => exact ⟨(wrap64 (x92_4 + 1)), er, H', ⟨by have := HJ2.out; have := HK2.out; have := HJ23.out; have := HK4.out; omega⟩, ⟨blkd BK363⟩, ⟨belowg1 HB GE363⟩⟩
                ·replace c53 := Bool.eq_false_iff.mpr c53
                 subst c53
                 have H1 : (some false) = some r := by rw [if_neg (show ¬ (false = true) by decide)] at H; exact H
                 clear H
                 have H := H1
                 clear H1
                 obtain rfl := Option.some.inj H
                 have p381 : 0 ≤ (x92_4 : Int) := da
                 have q381 : x92_4 < (y377.length : Int) := da
                 obtain ⟨ad381, A381_0, c381_0, e381, hx381_0, hl381_0, hi381_0⟩ := at_L3 HR380.out x92_4 p381 q381
                 obtain rfl : ad370 = ad381 := (by injection e381)
                 replace hx381_0 := (HB.out.cell (World.block_lt_of_cell? w _ hx381_0)).trans hx381_0
                 have HR381_0 := Aside0.mk hi381_0; have HC381_0 := Aside0.mk hl381_0; clear hi381_0 hl381_0; replace p381 := eq_true p381; replace q381 := eq_true q381
                 try go_wp2
                 replace BK363 := ak (blk_drew BK363.out)
                 replace HB := ak (below_drew1 HB.out)
                 have p382 : 0 ≤ (0 : Int) := (by omega)
                 have q382 : 0 < ((rd_L3 y377 x92_4).length : Int) := da
                 obtain ⟨ad382, e382, hx382_0⟩ := Kd.at_int HR381_0.out 0 p382 q382
                 have hw382_0 := hx382_0
                 (try rw [show ((0 : Int)).toNat = 0 from rfl] at hw382_0)
                 (try rw [show 0 * 1 = 0 from rfl] at hw382_0)
                 (try rw [Addr.add_zero'] at hw382_0)
                 cases e382
                 have qi382 : (0 < (rd_L3 y377 x92_4).length) = True := eq_true (by omega)
                 (try rw [show ((0 : Int)).toNat = 0 from rfl] at hx382_0)
                 (try rw [Addr.add_zero'] at hx382_0)
                 replace hx382_0 := (HB.out.cell (World.block_lt_of_cell? w _ hx382_0)).trans hx382_0
                 replace p382 := eq_true p382; replace q382 := eq_true q382
                 have p383 : 0 ≤ (0 : Int) := (by omega)
                 have q383 : 0 < ((rd_L3 l0_2 x56_2).length : Int) := da
                 obtain ⟨ad383, e383, hx383_0⟩ := Kd.at_int HR370_0.out 0 p383 q383
                 have hw383_0 := hx383_0
                 (try rw [show ((0 : Int)).toNat = 0 from rfl] at hw383_0)
                 (try rw [show 0 * 1 = 0 from rfl] at hw383_0)
                 (try rw [Addr.add_zero'] at hw383_0)
                 cases e383
                 have qi383 : (0 < (rd_L3 l0_2 x56_2).length) = True := eq_true (by omega)
                 (try rw [show ((0 : Int)).toNat = 0 from rfl] at hx383_0)
                 (try rw [Addr.add_zero'] at hx383_0)
                 replace hx383_0 := (HB.out.cell (World.block_lt_of_cell? w _ hx383_0)).trans hx383_0
                 replace p383 := eq_true p383; replace q383 := eq_true q383
                 have p384 : 0 ≤ (1 : Int) := (by omega)
                 have q384 : 1 < ((rd_L3 y377 x92_4).length : Int) := da
                 obtain ⟨ad384, e384, hx384_0⟩ := Kd.at_int HR381_0.out 1 p384 q384
                 have hw384_0 := hx384_0
                 (try rw [show ((1 : Int)).toNat = 1 from rfl] at hw384_0)
                 (try rw [show 1 * 1 = 1 from rfl] at hw384_0)
                 (try simp only [Nat.reduceMul, Nat.reduceEqDiff, Go.Addr.add, ↓reduceIte] at hw384_0)
                 obtain rfl : ad382 = ad384 := (by injection e384)
                 (try simp only [show (1 : Int).toNat = 1 from rfl, Nat.reduceMul, Nat.reduceEqDiff, Go.Addr.add, ↓reduceIte] at hx384_0)
                 have qi384 : (1 < (rd_L3 y377 x92_4).length) = True := eq_true (by omega)
                 (try rw [show ((1 : Int)).toNat = 1 from rfl] at hx384_0)
                 replace hx384_0 := (HB.out.cell (World.block_lt_of_cell? w _ hx384_0)).trans hx384_0
                 replace p384 := eq_true p384; replace q384 := eq_true q384
                 have p385 : 0 ≤ (1 : Int) := (by omega)
                 have q385 : 1 < ((rd_L3 l0_2 x56_2).length : Int) := da
                 obtain ⟨ad385, e385, hx385_0⟩ := Kd.at_int HR370_0.out 1 p385 q385
                 have hw385_0 := hx385_0
                 (try rw [show ((1 : Int)).toNat = 1 from rfl] at hw385_0)
                 (try rw [show 1 * 1 = 1 from rfl] at hw385_0)
                 (try simp only [Nat.reduceMul, Nat.reduceEqDiff, Go.Addr.add, ↓reduceIte] at hw385_0)
                 obtain rfl : ad383 = ad385 := (by injection e385)
                 (try simp only [show (1 : Int).toNat = 1 from rfl, Nat.reduceMul, Nat.reduceEqDiff, Go.Addr.add, ↓reduceIte] at hx385_0)
                 have qi385 : (1 < (rd_L3 l0_2 x56_2).length) = True := eq_true (by omega)
                 (try rw [show ((1 : Int)).toNat = 1 from rfl] at hx385_0)
                 replace hx385_0 := (HB.out.cell (World.block_lt_of_cell? w _ hx385_0)).trans hx385_0
                 replace p385 := eq_true p385; replace q385 := eq_true q385
                 have p386 : 0 ≤ (2 : Int) := (by omega)
                 have q386 : 2 < ((rd_L3 y377 x92_4).length : Int) := da
                 obtain ⟨ad386, e386, hx386_0⟩ := Kd.at_int HR381_0.out 2 p386 q386
                 have hw386_0 := hx386_0
                 (try rw [show ((2 : Int)).toNat = 2 from rfl] at hw386_0)
                 (try rw [show 2 * 1 = 2 from rfl] at hw386_0)
                 (try simp only [Nat.reduceMul, Nat.reduceEqDiff, Go.Addr.add, ↓reduceIte] at hw386_0)
                 obtain rfl : ad382 = ad386 := (by injection e386)
                 (try simp only [show (2 : Int).toNat = 2 from rfl, Nat.reduceMul, Nat.reduceEqDiff, Go.Addr.add, ↓reduceIte] at hx386_0)
                 have qi386 : (2 < (rd_L3 y377 x92_4).length) = True := eq_true (by omega)
                 (try rw [show ((2 : Int)).toNat = 2 from rfl] at hx386_0)
                 replace hx386_0 := (HB.out.cell (World.block_lt_of_cell? w _ hx386_0)).trans hx386_0
                 replace p386 := eq_true p386; replace q386 := eq_true q386
                 have p387 : 0 ≤ (2 : Int) := (by omega)
                 have q387 : 2 < ((rd_L3 l0_2 x56_2).length : Int) := da
                 obtain ⟨ad387, e387, hx387_0⟩ := Kd.at_int HR370_0.out 2 p387 q387
                 have hw387_0 := hx387_0
                 (try rw [show ((2 : Int)).toNat = 2 from rfl] at hw387_0)
                 (try rw [show 2 * 1 = 2 from rfl] at hw387_0)
                 (try simp only [Nat.reduceMul, Nat.reduceEqDiff, Go.Addr.add, ↓reduceIte] at hw387_0)
                 obtain rfl : ad383 = ad387 := (by injection e387)
                 (try simp only [show (2 : Int).toNat = 2 from rfl, Nat.reduceMul, Nat.reduceEqDiff, Go.Addr.add, ↓reduceIte] at hx387_0)
                 have qi387 : (2 < (rd_L3 l0_2 x56_2).length) = True := eq_true (by omega)
                 (try rw [show ((2 : Int)).toNat = 2 from rfl] at hx387_0)
                 replace hx387_0 := (HB.out.cell (World.block_lt_of_cell? w _ hx387_0)).trans hx387_0
                 replace p387 := eq_true p387; replace q387 := eq_true q387
                 have p388 : 0 ≤ (1 : Int) := (by omega)
                 have q388 : 1 < ((rd_L3 l0_2 x56_2).length : Int) := da
                 obtain ⟨ad388, e388, hx388_0⟩ := Kd.at_int HR370_0.out 1 p388 q388
                 have hw388_0 := hx388_0
                 (try rw [show ((1 : Int)).toNat = 1 from rfl] at hw388_0)
                 (try rw [show 1 * 1 = 1 from rfl] at hw388_0)
                 (try simp only [Nat.reduceMul, Nat.reduceEqDiff, Go.Addr.add, ↓reduceIte] at hw388_0)
                 obtain rfl : ad383 = ad388 := (by injection e388)
                 (try simp only [show (1 : Int).toNat = 1 from rfl, Nat.reduceMul, Nat.reduceEqDiff, Go.Addr.add, ↓reduceIte] at hx388_0)
                 have qi388 : (1 < (rd_L3 l0_2 x56_2).length) = True := eq_true (by omega)
                 (try rw [show ((1 : Int)).toNat = 1 from rfl] at hx388_0)
                 replace hx388_0 := (HB.out.cell (World.block_lt_of_cell? w _ hx388_0)).trans hx388_0
                 replace p388 := eq_true p388; replace q388 := eq_true q388
                 refine start_ (n := 34) (S := fun w' => w'.cell? ⟨gb363, 0, none⟩ = some (.int .i64 a0_0) ∧ w'.cell? ⟨gb363, 1, none⟩ = some (.int .i64 a0_1) ∧ w'.cell? ⟨gb363, 2, none⟩ = some (.slice (some ad370) l0_2.length c0_2) ∧ w'.cell? ⟨gb363, 3, none⟩ = some (.slice A0_3 l0_3.length c0_3) ∧ w'.cell? ⟨gb363, 4, none⟩ = some (.slice A0_4 l0_4.length c0_4) ∧ w'.cell? ad382 = some (.int .i64 (rd (rd_L3 y377 x92_4) 0)) ∧ w'.cell? ad383 = some (.int .i64 (rd (rd_L3 l0_2 x56_2) 0)) ∧ w'.cell? ⟨ad382.block, ad382.off + 1, none⟩ = some (.int .i64 (rd (rd_L3 y377 x92_4) 1)) ∧ w'.cell? ⟨ad383.block, ad383.off + 1, none⟩ = some (.int .i64 (rd (rd_L3 l0_2 x56_2) 1)) ∧ w'.cell? ⟨ad382.block, ad382.off + 2, none⟩ = some (.int .i64 (rd (rd_L3 y377 x92_4) 2)) ∧ w'.cell? ⟨ad383.block, ad383.off + 2, none⟩ = some (.int .i64 (rd (rd_L3 l0_2 x56_2) 2)) ∧ w'.cell? ⟨ad383.block, ad383.off + 1, none⟩ = some (.int .i64 (rd (rd_L3 l0_2 x56_2) 1))) (ds := []) (bl 34 0) (by kernel_rfl) rfl rfl ⟨bq BK363 0, bq BK363 1, bq BK363 2, bq BK363 3, bq BK363 4, ((HB.out.cell (World.block_lt_of_cell? w _ hw382_0)).trans hw382_0), ((HB.out.cell (World.block_lt_of_cell? w _ hw383_0)).trans hw383_0), ((HB.out.cell (World.block_lt_of_cell? w _ hw384_0)).trans hw384_0), ((HB.out.cell (World.block_lt_of_cell? w _ hw385_0)).trans hw385_0), ((HB.out.cell (World.block_lt_of_cell? w _ hw386_0)).trans hw386_0), ((HB.out.cell (World.block_lt_of_cell? w _ hw387_0)).trans hw387_0), ((HB.out.cell (World.block_lt_of_cell? w _ hw388_0)).trans hw388_0)⟩ (fun hHeld => ?_); refine with_tabW spec_GoodBoard.tab12 spec_GoodBoard.bits12 (fun HT_ HW_ => ?_)
                 generalize wr.drew = w55 at BK363 HB hx382_0 hx383_0 hx384_0 hx385_0 hx386_0 hx387_0 hx388_0 hHeld ⊢
                 refine pureA 0 (some 96) 34 1 HT_ ?_
                 refine pureA 1 (some 97) 34 3 HT_ ?_
                 refine pureA 3 (some 99) 34 11 HT_ ?_
                 refine pureA 4 (some 100) 34 27 HT_ ?_
                 refine takeA 2 (some 98) 34 31 HT_ HW_ hHeld ?_ (hy := by rintro w' ⟨s0, s1, s2, s3, s4, s5, s6, s7, s8, s9, s10, s11⟩; go_simp; with_reducible rfl)
                 refine takeA 5 (some 101) 34 63 HT_ HW_ hHeld ?_ (hy := by rintro w' ⟨s0, s1, s2, s3, s4, s5, s6, s7, s8, s9, s10, s11⟩; go_simp; with_reducible rfl)
                 refine pureA 6 (some 102) 34 127 HT_ ?_
                 refine pureA 7 (some 103) 34 255 HT_ ?_
                 refine pureA 8 (some 104) 34 511 HT_ ?_
                 refine pureA 9 (some 105) 34 1023 HT_ ?_
                 refine pureA 11 (some 107) 34 3071 HT_ ?_
                 refine pureA 12 (some 108) 34 7167 HT_ ?_
                 refine takeA 10 (some 106) 34 8191 HT_ HW_ hHeld ?_ (hy := by rintro w' ⟨s0, s1, s2, s3, s4, s5, s6, s7, s8, s9, s10, s11⟩; go_simp; with_reducible rfl)
                 refine takeA 13 (some 109) 34 16383 HT_ HW_ hHeld ?_ (hy := by rintro w' ⟨s0, s1, s2, s3, s4, s5, s6, s7, s8, s9, s10, s11⟩; go_simp; with_reducible rfl)
                 refine pureA 14 (some 110) 34 32767 HT_ ?_
                 refine pureA 15 (some 111) 34 65535 HT_ ?_
                 refine pureA 16 (some 112) 34 131071 HT_ ?_
                 refine pureA 17 (some 113) 34 262143 HT_ ?_
                 refine pureA 18 (some 114) 34 524287 HT_ ?_
                 refine pureA 20 (some 116) 34 1572863 HT_ ?_
                 refine pureA 21 (some 117) 34 3670015 HT_ ?_
                 refine takeA 19 (some 115) 34 4194303 HT_ HW_ hHeld ?_ (hy := by rintro w' ⟨s0, s1, s2, s3, s4, s5, s6, s7, s8, s9, s10, s11⟩; go_simp; with_reducible rfl)
                 refine takeA 22 (some 118) 34 8388607 HT_ HW_ hHeld ?_ (hy := by rintro w' ⟨s0, s1, s2, s3, s4, s5, s6, s7, s8, s9, s10, s11⟩; go_simp; with_reducible rfl)
                 refine pureA 23 (some 119) 34 16777215 HT_ ?_
                 refine pureA 24 (some 120) 34 33554431 HT_ ?_
                 refine pureA 25 (some 121) 34 67108863 HT_ ?_
                 refine pureA 26 (some 122) 34 134217727 HT_ ?_
                 refine pureA 28 (some 124) 34 402653183 HT_ ?_
                 refine pureA 29 (some 125) 34 939524095 HT_ ?_
                 refine takeA 27 (some 123) 34 1073741823 HT_ HW_ hHeld ?_ (hy := by rintro w' ⟨s0, s1, s2, s3, s4, s5, s6, s7, s8, s9, s10, s11⟩; go_simp; with_reducible rfl)
                 refine takeA 30 (some 126) 34 2147483647 HT_ HW_ hHeld ?_ (hy := by rintro w' ⟨s0, s1, s2, s3, s4, s5, s6, s7, s8, s9, s10, s11⟩; go_simp; with_reducible rfl)
                 refine oneA 31 (some 127) 34 4294967295 HT_ (fun K hK => ?_)
                 refine goes_ Try.func173 (by kernel_rfl) rfl #[.slice A0_3 l0_3.length c0_3, .int .i64 (rd (rd_L3 l0_2 x56_2) 1)] (by rfl) rfl rfl (by (try simp only [List.map_toArray, List.map_cons, List.map_nil]); first | done | rfl | (simp only [List.length_drop, List.length_take]; rfl)) ?_
                 with_reducible refine (spec_l1Has.calls k4 _ _ l0_3 (rd (rd_L3 l0_2 x56_2) 1) false _ ?side1 ?side2 A52.out).mono ?_
                 (case side1 => exact cd (Kd.C_below HR0_3.out HB.out))
                 (case side2 => exact HC0_3.out)
                 rintro e w' ⟨rfl, ⟨nd, rfl⟩⟩
                 refine ⟨_, rfl, ?_⟩
                 refine hK.out _ _ ⟨bq BK363 0, bq BK363 1, bq BK363 2, bq BK363 3, bq BK363 4, ((HB.out.cell (World.block_lt_of_cell? w _ hw382_0)).trans hw382_0), ((HB.out.cell (World.block_lt_of_cell? w _ hw383_0)).trans hw383_0), ((HB.out.cell (World.block_lt_of_cell? w _ hw384_0)).trans hw384_0), ((HB.out.cell (World.block_lt_of_cell? w _ hw385_0)).trans hw385_0), ((HB.out.cell (World.block_lt_of_cell? w _ hw386_0)).trans hw386_0), ((HB.out.cell (World.block_lt_of_cell? w _ hw387_0)).trans hw387_0), ((HB.out.cell (World.block_lt_of_cell? w _ hw388_0)).trans hw388_0)⟩ (fun hHeld => ?_)
                 clear hK K
                 refine norm_ (a' := ?_) ?_ ?_
                 rotate_left
                 ·show Act.put _ (some 127) _ = _
                  simp only [Act.put, List.setIfInBounds_toArray, List.set_cons_zero, List.set_cons_succ, i64_w, i32_w]
                  rfl
                 refine pureA 32 (some 128) 34 8589934591 HT_ ?_
                 refine pureA 33 (some 129) 34 17179869183 HT_ ?_
                 refine done_ (done_of HT_.out (by kernel_rfl)) ?_
                 try go_wp2
                 go_ret
                 exact ⟨er2, belowg1 HB GE363⟩
              ·rw [if_neg c47] at H
               have c47b0 : ((rd (rd_L3 y377 x92_4) 1) == (rd (rd_L3 l0_2 x56_2) 1)) = false := beq_eq_false_iff_ne.mpr c47
               have c47b1 : ((rd (rd_L3 y377 x92_4) 1) != (rd (rd_L3 l0_2 x56_2) 1)) = true := bne_iff_ne.mpr c47
               have H' := Aside0.mk H
               clear H
               have p381 : 0 ≤ (x92_4 : Int) := da
               have q381 : x92_4 < (y377.length : Int) := da
               obtain ⟨ad381, A381_0, c381_0, e381, hx381_0, hl381_0, hi381_0⟩ := at_L3 HR380.out x92_4 p381 q381
               obtain rfl : ad370 = ad381 := (by injection e381)
               replace hx381_0 := (HB.out.cell (World.block_lt_of_cell? w _ hx381_0)).trans hx381_0
               have HR381_0 := Aside0.mk hi381_0; have HC381_0 := Aside0.mk hl381_0; clear hi381_0 hl381_0; replace p381 := eq_true p381; replace q381 := eq_true q381
               try go_wp2
               replace BK363 := ak (blk_drew BK363.out)
               replace HB := ak (below_drew1 HB.out)
               have p382 : 0 ≤ (0 : Int) := (by omega)
               have q382 : 0 < ((rd_L3 y377 x92_4).length : Int) := da
               obtain ⟨ad382, e382, hx382_0⟩ := Kd.at_int HR381_0.out 0 p382 q382
               have hw382_0 := hx382_0
               (try rw [show ((0 : Int)).toNat = 0 from rfl] at hw382_0)
               (try rw [show 0 * 1 = 0 from rfl] at hw382_0)
               (try rw [Addr.add_zero'] at hw382_0)
               cases e382
               have qi382 : (0 < (rd_L3 y377 x92_4).length) = True := eq_true (by omega)
               (try rw [show ((0 : Int)).toNat = 0 from rfl] at hx382_0)
               (try rw [Addr.add_zero'] at hx382_0)
               replace hx382_0 := (HB.out.cell (World.block_lt_of_cell? w _ hx382_0)).trans hx382_0
               replace p382 := eq_true p382; replace q382 := eq_true q382
               have p383 : 0 ≤ (0 : Int) := (by omega)
               have q383 : 0 < ((rd_L3 l0_2 x56_2).length : Int) := da
               obtain ⟨ad383, e383, hx383_0⟩ := Kd.at_int HR370_0.out 0 p383 q383
               have hw383_0 := hx383_0
               (try rw [show ((0 : Int)).toNat = 0 from rfl] at hw383_0)
               (try rw [show 0 * 1 = 0 from rfl] at hw383_0)
               (try rw [Addr.add_zero'] at hw383_0)
               cases e383
               have qi383 : (0 < (rd_L3 l0_2 x56_2).length) = True := eq_true (by omega)
               (try rw [show ((0 : Int)).toNat = 0 from rfl] at hx383_0)
               (try rw [Addr.add_zero'] at hx383_0)
               replace hx383_0 := (HB.out.cell (World.block_lt_of_cell? w _ hx383_0)).trans hx383_0
               replace p383 := eq_true p383; replace q383 := eq_true q383
               have p384 : 0 ≤ (1 : Int) := (by omega)
               have q384 : 1 < ((rd_L3 y377 x92_4).length : Int) := da
               obtain ⟨ad384, e384, hx384_0⟩ := Kd.at_int HR381_0.out 1 p384 q384
               have hw384_0 := hx384_0
               (try rw [show ((1 : Int)).toNat = 1 from rfl] at hw384_0)
               (try rw [show 1 * 1 = 1 from rfl] at hw384_0)
               (try simp only [Nat.reduceMul, Nat.reduceEqDiff, Go.Addr.add, ↓reduceIte] at hw384_0)
               obtain rfl : ad382 = ad384 := (by injection e384)
               (try simp only [show (1 : Int).toNat = 1 from rfl, Nat.reduceMul, Nat.reduceEqDiff, Go.Addr.add, ↓reduceIte] at hx384_0)
               have qi384 : (1 < (rd_L3 y377 x92_4).length) = True := eq_true (by omega)
               (try rw [show ((1 : Int)).toNat = 1 from rfl] at hx384_0)
               replace hx384_0 := (HB.out.cell (World.block_lt_of_cell? w _ hx384_0)).trans hx384_0
               replace p384 := eq_true p384; replace q384 := eq_true q384
               have p385 : 0 ≤ (1 : Int) := (by omega)
               have q385 : 1 < ((rd_L3 l0_2 x56_2).length : Int) := da
               obtain ⟨ad385, e385, hx385_0⟩ := Kd.at_int HR370_0.out 1 p385 q385
               have hw385_0 := hx385_0
               (try rw [show ((1 : Int)).toNat = 1 from rfl] at hw385_0)
               (try rw [show 1 * 1 = 1 from rfl] at hw385_0)
               (try simp only [Nat.reduceMul, Nat.reduceEqDiff, Go.Addr.add, ↓reduceIte] at hw385_0)
               obtain rfl : ad383 = ad385 := (by injection e385)
               (try simp only [show (1 : Int).toNat = 1 from rfl, Nat.reduceMul, Nat.reduceEqDiff, Go.Addr.add, ↓reduceIte] at hx385_0)
               have qi385 : (1 < (rd_L3 l0_2 x56_2).length) = True := eq_true (by omega)
               (try rw [show ((1 : Int)).toNat = 1 from rfl] at hx385_0)
               replace hx385_0 := (HB.out.cell (World.block_lt_of_cell? w _ hx385_0)).trans hx385_0
               replace p385 := eq_true p385; replace q385 := eq_true q385
               refine start_ (n := 34) (S := fun w' => w'.cell? ad382 = some (.int .i64 (rd (rd_L3 y377 x92_4) 0)) ∧ w'.cell? ad383 = some (.int .i64 (rd (rd_L3 l0_2 x56_2) 0)) ∧ w'.cell? ⟨ad382.block, ad382.off + 1, none⟩ = some (.int .i64 (rd (rd_L3 y377 x92_4) 1)) ∧ w'.cell? ⟨ad383.block, ad383.off + 1, none⟩ = some (.int .i64 (rd (rd_L3 l0_2 x56_2) 1))) (ds := []) (bl 34 0) (by kernel_rfl) rfl rfl ⟨((HB.out.cell (World.block_lt_of_cell? w _ hw382_0)).trans hw382_0), ((HB.out.cell (World.block_lt_of_cell? w _ hw383_0)).trans hw383_0), ((HB.out.cell (World.block_lt_of_cell? w _ hw384_0)).trans hw384_0), ((HB.out.cell (World.block_lt_of_cell? w _ hw385_0)).trans hw385_0)⟩ (fun hHeld => ?_); refine with_tabW spec_GoodBoard.tab12 spec_GoodBoard.bits12 (fun HT_ HW_ => ?_)
               generalize wr.drew = w56 at BK363 HB hx382_0 hx383_0 hx384_0 hx385_0 hHeld ⊢
               refine pureA 0 (some 96) 34 1 HT_ ?_
               refine pureA 1 (some 97) 34 3 HT_ ?_
               refine pureA 3 (some 99) 34 11 HT_ ?_
               refine pureA 4 (some 100) 34 27 HT_ ?_
               refine takeA 2 (some 98) 34 31 HT_ HW_ hHeld ?_ (hy := by rintro w' ⟨s0, s1, s2, s3⟩; go_simp; with_reducible rfl)
               refine takeA 5 (some 101) 34 63 HT_ HW_ hHeld ?_ (hy := by rintro w' ⟨s0, s1, s2, s3⟩; go_simp; with_reducible rfl)
               refine pureA 6 (some 102) 34 127 HT_ ?_
               refine pureA 7 (some 103) 34 255 HT_ ?_
               refine pureA 8 (some 104) 34 511 HT_ ?_
               refine pureA 9 (some 105) 34 1023 HT_ ?_
               refine pureA 11 (some 107) 34 3071 HT_ ?_
               refine pureA 12 (some 108) 34 7167 HT_ ?_
               refine takeA 10 (some 106) 34 8191 HT_ HW_ hHeld ?_ (hy := by rintro w' ⟨s0, s1, s2, s3⟩; go_simp; with_reducible rfl)
               refine takeA 13 (some 109) 34 16383 HT_ HW_ hHeld ?_ (hy := by rintro w' ⟨s0, s1, s2, s3⟩; go_simp; with_reducible rfl)
               refine pureA 14 (some 110) 34 32767 HT_ ?_
               refine pureA 15 (some 111) 34 65535 HT_ ?_
               refine pureA 16 (some 112) 34 131071 HT_ ?_
               refine pureB 17 (some 113) 34 262143 HT_ ?_
               refine pureB 18 (some 114) 34 524287 HT_ ?_
               refine pureB 19 (some 115) 34 1048575 HT_ ?_
               refine pureB 20 (some 116) 34 2097151 HT_ ?_
               refine pureB 21 (some 117) 34 4194303 HT_ ?_
               refine pureB 22 (some 118) 34 8388607 HT_ ?_
               refine pureB 23 (some 119) 34 16777215 HT_ ?_
               refine pureA 24 (some 120) 34 33554431 HT_ ?_
               refine pureA 25 (some 121) 34 67108863 HT_ ?_
               refine pureB 26 (some 122) 34 134217727 HT_ ?_
               refine pureB 27 (some 123) 34 268435455 HT_ ?_
               refine pureB 28 (some 124) 34 536870911 HT_ ?_
               refine pureB 29 (some 125) 34 1073741823 HT_ ?_
               refine pureB 30 (some 126) 34 2147483647 HT_ ?_
               refine pureB 31 (some 127) 34 4294967295 HT_ ?_
               refine pureB 32 (some 128) 34 8589934591 HT_ ?_
               refine pureA 33 (some 129) 34 17179869183 HT_ ?_
               refine done_ (done_of HT_.out (by kernel_rfl)) ?_
               try go_wp2
               go_roundg k4
               case measure => have := HJ2.out; have := HK2.out; have := HJ23.out; have := HK4.out; omega
               case rel => exact ⟨(wrap64 (x92_4 + 1)), er, H', ⟨by have := HJ2.out; have := HK2.out; have := HJ23.out; have := HK4.out; omega⟩, ⟨blkd BK363⟩, ⟨belowg1 HB GE363⟩⟩
             ·rw [if_neg c44] at H
              have c44b0 : ((rd (rd_L3 y377 x92_4) 0) == (rd (rd_L3 l0_2 x56_2) 0)) = false := beq_eq_false_iff_ne.mpr c44
              have c44b1 : ((rd (rd_L3 y377 x92_4) 0) != (rd (rd_L3 l0_2 x56_2) 0)) = true := bne_iff_ne.mpr c44
              have H' := Aside0.mk H
              clear H
              have p381 : 0 ≤ (x92_4 : Int) := da
              have q381 : x92_4 < (y377.length : Int) := da
              obtain ⟨ad381, A381_0, c381_0, e381, hx381_0, hl381_0, hi381_0⟩ := at_L3 HR380.out x92_4 p381 q381
              obtain rfl : ad370 = ad381 := (by injection e381)
              replace hx381_0 := (HB.out.cell (World.block_lt_of_cell? w _ hx381_0)).trans hx381_0
              have HR381_0 := Aside0.mk hi381_0; have HC381_0 := Aside0.mk hl381_0; clear hi381_0 hl381_0; replace p381 := eq_true p381; replace q381 := eq_true q381
              try go_wp2
              replace BK363 := ak (blk_drew BK363.out)
              replace HB := ak (below_drew1 HB.out)
              have p382 : 0 ≤ (0 : Int) := (by omega)
              have q382 : 0 < ((rd_L3 y377 x92_4).length : Int) := da
              obtain ⟨ad382, e382, hx382_0⟩ := Kd.at_int HR381_0.out 0 p382 q382
              have hw382_0 := hx382_0
              (try rw [show ((0 : Int)).toNat = 0 from rfl] at hw382_0)
              (try rw [show 0 * 1 = 0 from rfl] at hw382_0)
              (try rw [Addr.add_zero'] at hw382_0)
              cases e382
              have qi382 : (0 < (rd_L3 y377 x92_4).length) = True := eq_true (by omega)
              (try rw [show ((0 : Int)).toNat = 0 from rfl] at hx382_0)
              (try rw [Addr.add_zero'] at hx382_0)
              replace hx382_0 := (HB.out.cell (World.block_lt_of_cell? w _ hx382_0)).trans hx382_0
              replace p382 := eq_true p382; replace q382 := eq_true q382
              have p383 : 0 ≤ (0 : Int) := (by omega)
              have q383 : 0 < ((rd_L3 l0_2 x56_2).length : Int) := da
              obtain ⟨ad383, e383, hx383_0⟩ := Kd.at_int HR370_0.out 0 p383 q383
              have hw383_0 := hx383_0
              (try rw [show ((0 : Int)).toNat = 0 from rfl] at hw383_0)
              (try rw [show 0 * 1 = 0 from rfl] at hw383_0)
              (try rw [Addr.add_zero'] at hw383_0)
              cases e383
              have qi383 : (0 < (rd_L3 l0_2 x56_2).length) = True := eq_true (by omega)
              (try rw [show ((0 : Int)).toNat = 0 from rfl] at hx383_0)
              (try rw [Addr.add_zero'] at hx383_0)
              replace hx383_0 := (HB.out.cell (World.block_lt_of_cell? w _ hx383_0)).trans hx383_0
              replace p383 := eq_true p383; replace q383 := eq_true q383
              refine start_ (n := 34) (S := fun w' => w'.cell? ad382 = some (.int .i64 (rd (rd_L3 y377 x92_4) 0)) ∧ w'.cell? ad383 = some (.int .i64 (rd (rd_L3 l0_2 x56_2) 0))) (ds := []) (bl 34 0) (by kernel_rfl) rfl rfl ⟨((HB.out.cell (World.block_lt_of_cell? w _ hw382_0)).trans hw382_0), ((HB.out.cell (World.block_lt_of_cell? w _ hw383_0)).trans hw383_0)⟩ (fun hHeld => ?_); refine with_tabW spec_GoodBoard.tab12 spec_GoodBoard.bits12 (fun HT_ HW_ => ?_)
              generalize wr.drew = w57 at BK363 HB hx382_0 hx383_0 hHeld ⊢
              refine pureA 0 (some 96) 34 1 HT_ ?_
              refine pureA 1 (some 97) 34 3 HT_ ?_
              refine pureA 3 (some 99) 34 11 HT_ ?_
              refine pureA 4 (some 100) 34 27 HT_ ?_
              refine takeA 2 (some 98) 34 31 HT_ HW_ hHeld ?_ (hy := by rintro w' ⟨s0, s1⟩; go_simp; with_reducible rfl)
              refine takeA 5 (some 101) 34 63 HT_ HW_ hHeld ?_ (hy := by rintro w' ⟨s0, s1⟩; go_simp; with_reducible rfl)
              refine pureA 6 (some 102) 34 127 HT_ ?_
              refine pureA 7 (some 103) 34 255 HT_ ?_
              refine pureB 8 (some 104) 34 511 HT_ ?_
              refine pureB 9 (some 105) 34 1023 HT_ ?_
              refine pureB 10 (some 106) 34 2047 HT_ ?_
              refine pureB 11 (some 107) 34 4095 HT_ ?_
              refine pureB 12 (some 108) 34 8191 HT_ ?_
              refine pureB 13 (some 109) 34 16383 HT_ ?_
              refine pureB 14 (some 110) 34 32767 HT_ ?_
              refine pureA 15 (some 111) 34 65535 HT_ ?_
              refine pureA 16 (some 112) 34 131071 HT_ ?_
              refine pureB 17 (some 113) 34 262143 HT_ ?_
              refine pureB 18 (some 114) 34 524287 HT_ ?_
              refine pureB 19 (some 115) 34 1048575 HT_ ?_
              refine pureB 20 (some 116) 34 2097151 HT_ ?_
              refine pureB 21 (some 117) 34 4194303 HT_ ?_
              refine pureB 22 (some 118) 34 8388607 HT_ ?_
              refine pureB 23 (some 119) 34 16777215 HT_ ?_
              refine pureA 24 (some 120) 34 33554431 HT_ ?_
              refine pureA 25 (some 121) 34 67108863 HT_ ?_
              refine pureB 26 (some 122) 34 134217727 HT_ ?_
              refine pureB 27 (some 123) 34 268435455 HT_ ?_
              refine pureB 28 (some 124) 34 536870911 HT_ ?_
              refine pureB 29 (some 125) 34 1073741823 HT_ ?_
              refine pureB 30 (some 126) 34 2147483647 HT_ ?_
              refine pureB 31 (some 127) 34 4294967295 HT_ ?_
              refine pureB 32 (some 128) 34 8589934591 HT_ ?_
              refine pureA 33 (some 129) 34 17179869183 HT_ ?_
              refine done_ (done_of HT_.out (by kernel_rfl)) ?_
              try go_wp2
              go_roundg k4
              case measure => have := HJ2.out; have := HK2.out; have := HJ23.out; have := HK4.out; omega
              case rel => exact ⟨(wrap64 (x92_4 + 1)), er, H', ⟨by have := HJ2.out; have := HK2.out; have := HJ23.out; have := HK4.out; omega⟩, ⟨blkd BK363⟩, ⟨belowg1 HB GE363⟩⟩
            ·rw [if_neg c39] at H
             have c39b0 : decide (x92_4 < (y377.length : Int)) = false := decide_eq_false c39
             clear c39
             have H' := Aside0.mk H
             clear H; go_wp2
             go_roundg k4
             case measure => have := HJ2.out; have := HK2.out; have := HJ23.out; have := HK4.out; omega
             case rel => exact ⟨(wrap64 (x56_2 + 1)), er, H', ⟨by have := HJ2.out; have := HK2.out; have := HJ23.out; have := HK4.out; omega⟩, ⟨blkd BK363⟩, ⟨belowg1 HB GE363⟩⟩
      ·rw [if_neg c21] at H
       have c21b0 : decide (x56_2 < (l0_2.length : Int)) = false := decide_eq_false c21
       clear c21
       obtain rfl := Option.some.inj H
       go_wp2
       go_ret
       exact ⟨er2, belowg1 HB GE363⟩

end Go.Proofs.Ytkgogglnipdcfaa.QFnBoard
