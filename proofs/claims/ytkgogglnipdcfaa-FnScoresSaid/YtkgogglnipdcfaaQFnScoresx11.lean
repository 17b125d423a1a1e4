-- printed by this session's own program (wip/tools/pp.py: the kit's print.py with changes); Lean checks it
import Derived.Test.YtkgogglnipdcfaaQFnScoresx0
import Derived.Test.YtkgogglnipdcfaaQFnScoresx8
import Derived.Test.YtkgogglnipdcfaaQFnScoresx9
import Derived.Test.YtkgogglnipdcfaaQFnScoresx10
namespace Go.Proofs.Ytkgogglnipdcfaa.QFnScores
open Go.RowKit Go.Proofs.YtkgogglnipdcfaaW.PrintWords Go.Proofs.YtkgogglnipdcfaaW.PrintLast Go.Proofs.YtkgogglnipdcfaaW.PrintMore
attribute [local go_sem] max2_int min2_int max_two min_two max_three min_three max_four min_four strLss strGtr strLeq strGeq   -- for this text's walks alone
set_option linter.unusedVariables false
set_option linter.unusedSimpArgs false

/-! ### spec_AddTallies: function 81 -/
mutual
def spec_AddTallies.j0 : Nat → List (S110) → List (S110) → Bool → Option ((List (S110)) × Bool)
  | 0, _, _, _ => none
  | k + 1, x0, x1, x23 => if x23 = true then (some (([] : List (S110)), false)) else (spec_AddTallies.l0 k x1 ([] : List (S110)) x0 (x0.length : Int) 0)
def spec_AddTallies.l0 : Nat → List (S110) → List (S110) → List (S110) → Int → Int → Option ((List (S110)) × Bool)
  | 0, _, _, _, _, _ => none
  | k + 1, x1, x6, x24, x25, x26 => if x26 < x25 then (if 0 ≤ x26 then (if x26 < (x24.length : Int) then (if x26 < (x1.length : Int) then (if x6.length < 5864062014805 then (spec_AddTallies.l0 k x1 (x6 ++ [(⟨x26, wrap64 (((rd_T110 x24 x26).f1) + ((rd_T110 x1 x26).f1)), wrap64 (((rd_T110 x24 x26).f2) + ((rd_T110 x1 x26).f2))⟩ : S110)]) x24 x25 (wrap64 (x26 + 1))) else (none)) else (none)) else (none)) else (none)) else ((spec_GoodTallies.f k x6).bind fun t547 => (if t547 = true then (some (x6, true)) else (some (([] : List (S110)), false))))
end
def spec_AddTallies.f (k : Nat) (l0 : List (S110)) (l1 : List (S110)) : Option ((List (S110)) × Bool) := (spec_GoodTallies.f k l0).bind fun t538 => (if t538 = true then ((spec_GoodTallies.f k l1).bind fun t539 => (if t539 = true then (spec_AddTallies.j0 k l0 l1 ((l0.length : Int) != (l1.length : Int))) else (spec_AddTallies.j0 k l0 l1 true))) else (spec_AddTallies.j0 k l0 l1 true))
theorem spec_AddTallies.mono_l : ∀ k, (∀ y0 y1 y2, LeO (spec_AddTallies.j0 k y0 y1 y2) (spec_AddTallies.j0 (k + 1) y0 y1 y2)) ∧ (∀ y0 y1 y2 y3 y4, LeO (spec_AddTallies.l0 k y0 y1 y2 y3 y4) (spec_AddTallies.l0 (k + 1) y0 y1 y2 y3 y4))
 | 0 => ⟨fun _ _ _ r h => by simp [spec_AddTallies.j0] at h, fun _ _ _ _ _ r h => by simp [spec_AddTallies.l0] at h⟩
 | k + 1 => by
  obtain ⟨ih0, ih1⟩ := spec_AddTallies.mono_l k
  refine ⟨?_, ?_⟩
  ·intro y0 y1 y2
   unfold spec_AddTallies.j0
   repeat' (first | (with_reducible first | exact ih0 _ _ _ | exact ih1 _ _ _ _ _ | exact spec_GoodTallies.mono _ _ | exact LeO.refl _ | exact LeO.none _ | refine LeO.ite ?_ ?_ | refine LeO.bind ?_ (fun _ => ?_)) | exact ih0 _ _ _ | exact ih1 _ _ _ _ _ | exact spec_GoodTallies.mono _ _ | exact LeO.none _ | refine LeO.ite ?_ ?_ | refine LeO.bind ?_ (fun _ => ?_))
  ·intro y0 y1 y2 y3 y4
   unfold spec_AddTallies.l0
   repeat' (first | (with_reducible first | exact ih0 _ _ _ | exact ih1 _ _ _ _ _ | exact spec_GoodTallies.mono _ _ | exact LeO.refl _ | exact LeO.none _ | refine LeO.ite ?_ ?_ | refine LeO.bind ?_ (fun _ => ?_)) | exact ih0 _ _ _ | exact ih1 _ _ _ _ _ | exact spec_GoodTallies.mono _ _ | exact LeO.none _ | refine LeO.ite ?_ ?_ | refine LeO.bind ?_ (fun _ => ?_))
theorem spec_AddTallies.mono : ∀ a0 a1 k, LeO (spec_AddTallies.f k a0 a1) (spec_AddTallies.f (k + 1) a0 a1) := by
 intro a0 a1 k
 obtain ⟨ih0, ih1⟩ := spec_AddTallies.mono_l k
 unfold spec_AddTallies.f
 repeat' (first | (with_reducible first | exact ih0 _ _ _ | exact ih1 _ _ _ _ _ | exact spec_GoodTallies.mono _ _ | exact LeO.refl _ | exact LeO.none _ | refine LeO.ite ?_ ?_ | refine LeO.bind ?_ (fun _ => ?_)) | exact ih0 _ _ _ | exact ih1 _ _ _ _ _ | exact spec_GoodTallies.mono _ _ | exact LeO.none _ | refine LeO.ite ?_ ?_ | refine LeO.bind ?_ (fun _ => ?_))
def spec_AddTallies.T7 : Bool × List (List Nat × List Nat) := (true, [([], []), ([], []), ([], []), ([2], [2]), ([], []), ([], []), ([4, 5], [4, 5]), ([6], [6]), ([7], [7]), ([3, 8], [3, 8]), ([], []), ([10], [10]), ([], []), ([], []), ([12, 13], [12, 13]), ([14], [14]), ([15], [15]), ([11, 16], [11, 16]), ([1, 9, 17], [1, 9, 17]), ([18], [18]), ([0, 19], [0, 19]), ([20, 20, 0, 1, 2, 3, 4, 5, 6, 7, 8, 9, 10, 11, 12, 13, 14, 15, 16, 17, 18, 19, 20], [0, 20])])
def spec_AddTallies.B7 : List Nat := [0, 0, 0, 4, 0, 0, 48, 112, 240, 508, 0, 1024, 0, 0, 12288, 28672, 61440, 130048, 262142, 524286, 1048575, 2097151]
theorem spec_AddTallies.tab7 : rtab .any (opsOf Try.f81 7) = spec_AddTallies.T7 := by kernel_rfl
theorem spec_AddTallies.bits7 : waitsOk spec_AddTallies.T7.2 spec_AddTallies.B7 = true := by kernel_rfl
set_option maxHeartbeats 8000000 in
set_option maxRecDepth 100000 in
theorem spec_AddTallies.calls (k : Nat) (A0 : Option Addr) (c0 : Nat) (l0 : List (S110)) (A1 : Option Addr) (c1 : Nat) (l1 : List (S110)) (r1 : List (S110)) (r2 : Bool) (w : World) (hr0 : Kd.C k110 w A0 l0.length l0) (hc0 : l0.length ≤ c0) (hr1 : Kd.C k110 w A1 l1.length l1) (hc1 : l1.length ≤ c1) (h : spec_AddTallies.f k l0 l1 = some (r1, r2)) :
  Calls Try.prog 81 #[.slice A0 l0.length c0, .slice A1 l1.length c1] w fun e w' => ∃ v0_ : Value, e = .returned (.tuple #[v0_, .bool r2]) ∧ Kd.R k110 110 w' w.heap.size (fun _ => True) v0_ r1 ∧ Below w.heap.size w w' := by
 have hu110 := Try.underlying110
 have HR0 := Aside0.mk hr0; have HC0 := Aside0.mk hc0; clear hr0 hc0; have HR1 := Aside0.mk hr1; have HC1 := Aside0.mk hc1; clear hr1 hc1
 have HB := Aside0.mk (Below.refl w.heap.size w)
 have H : ((spec_GoodTallies.f k l0).bind fun t538 => (if t538 = true then ((spec_GoodTallies.f k l1).bind fun t539 => (if t539 = true then (spec_AddTallies.j0 k l0 l1 ((l0.length : Int) != (l1.length : Int))) else (spec_AddTallies.j0 k l0 l1 true))) else (spec_AddTallies.j0 k l0 l1 true))) = some (r1, r2) := h
 clear h; have HC3 := Aside0.mk H; clear H
 go_enter Try.func81, Try.ntmps81
 go_upto_region 1 with (fail)
 go_cut [23] (fun v23 wc => ∃ (kq : Nat) (x23_2 : Bool), v23 = .bool x23_2 ∧ Aside0 (spec_AddTallies.j0 kq l0 l1 x23_2 = some (r1, r2)) ∧ Aside0 (kq ≤ k) ∧ Aside0 (Below w.heap.size w wc))
 case first =>
  have H := HC3.out; clear HC3; replace H := bS H; obtain ⟨t538, A4, H⟩ := H
  replace H : (if t538 = true then ((spec_GoodTallies.f k l1).bind fun t539 => (if t539 = true then (spec_AddTallies.j0 k l0 l1 ((l0.length : Int) != (l1.length : Int))) else (spec_AddTallies.j0 k l0 l1 true))) else (spec_AddTallies.j0 k l0 l1 true)) = some (r1, r2) := H
  by_cases c5 : t538 = true
  ·subst c5
   have H1 : ((spec_GoodTallies.f k l1).bind fun t539 => (if t539 = true then (spec_AddTallies.j0 k l0 l1 ((l0.length : Int) != (l1.length : Int))) else (spec_AddTallies.j0 k l0 l1 true))) = some (r1, r2) := by rw [if_pos rfl] at H; exact H
   clear H
   have H := H1
   clear H1; replace H := bS H; obtain ⟨t539, A6, H⟩ := H
   replace H : (if t539 = true then (spec_AddTallies.j0 k l0 l1 ((l0.length : Int) != (l1.length : Int))) else (spec_AddTallies.j0 k l0 l1 true)) = some (r1, r2) := H
   by_cases c7 : t539 = true
   ·subst c7
    have H1 : (spec_AddTallies.j0 k l0 l1 ((l0.length : Int) != (l1.length : Int))) = some (r1, r2) := by rw [if_pos rfl] at H; exact H
    clear H
    have H := H1
    clear H1
    have H' := Aside0.mk H
    clear H
    go_wp2_with (first | ((with_reducible refine gate_callee (f := 165) rfl ?_); refine goesLa (some 10) rfl Try.func165 #[.slice A0 l0.length c0] rfl ?_; (with_reducible refine (spec_GoodTallies.calls k _ _ l0 true _ ?side1 ?side2 A4.out).mono ?_); (case side1 => exact cd (Kd.C_below HR0.out HB.out)); (case side2 => exact HC0.out); rintro e w8 ⟨rfl, hb⟩; refine ⟨_, rfl, ?_⟩; replace HB := ak (below_step (belowd HB) hb); (try clear hb)) | (go_at_call 165; (with_reducible refine (spec_GoodTallies.calls k _ _ l1 true _ ?side1 ?side2 A6.out).mono ?_); (case side1 => exact cd (Kd.C_below HR1.out HB.out)); (case side2 => exact HC1.out); rintro e w9 ⟨rfl, hb⟩; replace HB := ak (below_step (belowd HB) hb); (try clear hb)))
    go_meet
    case rel => exact ⟨_, (((l0.length : Int) != (l1.length : Int))), er, H', ⟨by first | omega | exact Nat.le_refl _⟩, ⟨belowd HB⟩⟩
   ·replace c7 := Bool.eq_false_iff.mpr c7
    subst c7
    have H1 : (spec_AddTallies.j0 k l0 l1 true) = some (r1, r2) := by rw [if_neg (show ¬ (false = true) by decide)] at H; exact H
    clear H
    have H := H1
    clear H1
    have H' := Aside0.mk H
    clear H
    go_wp2_with (first | ((with_reducible refine gate_callee (f := 165) rfl ?_); refine goesLa (some 10) rfl Try.func165 #[.slice A0 l0.length c0] rfl ?_; (with_reducible refine (spec_GoodTallies.calls k _ _ l0 true _ ?side1 ?side2 A4.out).mono ?_); (case side1 => exact cd (Kd.C_below HR0.out HB.out)); (case side2 => exact HC0.out); rintro e w10 ⟨rfl, hb⟩; refine ⟨_, rfl, ?_⟩; replace HB := ak (below_step (belowd HB) hb); (try clear hb)) | (go_at_call 165; (with_reducible refine (spec_GoodTallies.calls k _ _ l1 false _ ?side1 ?side2 A6.out).mono ?_); (case side1 => exact cd (Kd.C_below HR1.out HB.out)); (case side2 => exact HC1.out); rintro e w11 ⟨rfl, hb⟩; replace HB := ak (below_step (belowd HB) hb); (try clear hb)))
    go_meet
    case rel => exact ⟨_, (true), er, H', ⟨by first | omega | exact Nat.le_refl _⟩, ⟨belowd HB⟩⟩
  ·replace c5 := Bool.eq_false_iff.mpr c5
   subst c5
   have H1 : (spec_AddTallies.j0 k l0 l1 true) = some (r1, r2) := by rw [if_neg (show ¬ (false = true) by decide)] at H; exact H
   clear H
   have H := H1
   clear H1
   have H' := Aside0.mk H
   clear H
   go_wp2_with (first | ((with_reducible refine gate_callee (f := 165) rfl ?_); refine goesLa (some 10) rfl Try.func165 #[.slice A0 l0.length c0] rfl ?_; (with_reducible refine (spec_GoodTallies.calls k _ _ l0 false _ ?side1 ?side2 A4.out).mono ?_); (case side1 => exact cd (Kd.C_below HR0.out HB.out)); (case side2 => exact HC0.out); rintro e w12 ⟨rfl, hb⟩; refine ⟨_, rfl, ?_⟩; replace HB := ak (below_step (belowd HB) hb); (try clear hb)))
   go_meet
   case rel => exact ⟨_, (true), er, H', ⟨by first | omega | exact Nat.le_refl _⟩, ⟨belowd HB⟩⟩
 case rest =>
  clear HC3; (try clear c1)
  obtain ⟨kq, x23_2, rfl, HA, HJ2, HB⟩ := hcut
  cases kq with
  | zero => exact absurd HA.out (by simp [spec_AddTallies.j0])
  | succ kj2 =>
   have H := HA.out; clear HA
   simp only [spec_AddTallies.j0] at H
   by_cases c13 : x23_2 = true
   ·subst c13
    have H1 : (some (([] : List (S110)), false)) = some (r1, r2) := by rw [if_pos rfl] at H; exact H
    clear H
    have H := H1
    clear H1
    simp only [Option.some.injEq, Prod.mk.injEq] at H
    obtain ⟨rfl, rfl⟩ := H; go_wp2
    go_ret2
    exact ⟨_, er2, by first | exact Kd.R_nil _ _ _ _ _ | exact Kd.N_nil _ _ _ _ _ | exact Kd.V_nil _ _ _ _ _ | exact Kd.Q_nil _ _ _ _ _ | exact Kd.S_nil _ _ _ _ _, belowd HB⟩
   ·replace c13 := Bool.eq_false_iff.mpr c13
    subst c13
    have H1 : (spec_AddTallies.l0 kj2 l1 ([] : List (S110)) l0 (l0.length : Int) 0) = some (r1, r2) := by rw [if_neg (show ¬ (false = true) by decide)] at H; exact H
    clear H
    have H := H1
    clear H1
    have H' := Aside0.mk H
    clear H; go_wp2
    go_loopg [6, 26] kj2 (fun kq v6 v26 w' => ∃ (x6_2 : List (S110)) (x26_2 : Int), v26 = .int .i64 x26_2 ∧ Aside0 (spec_AddTallies.l0 kq l1 x6_2 l0 (l0.length : Int) x26_2 = some (r1, r2)) ∧ Aside0 (kq ≤ kj2) ∧ Aside0 (Kd.R k110 110 w' w.heap.size (fun _ => True) v6 x6_2) ∧ Aside0 (Below w.heap.size w w'))
    case atStart => exact ⟨(([] : List (S110))), (0), er, H', ⟨Nat.le_refl _⟩, ⟨by first | exact Kd.R_nil _ _ _ _ _ | exact Kd.N_nil _ _ _ _ _ | exact Kd.V_nil _ _ _ _ _ | exact Kd.Q_nil _ _ _ _ _ | exact Kd.S_nil _ _ _ _ _⟩, ⟨belowd HB⟩⟩
    case round =>
     clear H'
     (try clear c13)
     obtain ⟨x6_2, x26_2, rfl, HA, HK2, HO_6, HB⟩ := hrel
     cases gk with
     | zero => exact absurd HA.out (by simp [spec_AddTallies.l0])
     | succ k2 =>
      have H := HA.out; clear HA
      simp only [spec_AddTallies.l0] at H
      by_cases c14 : x26_2 < (l0.length : Int)
      ·rw [if_pos c14] at H
       have c14b0 : decide (x26_2 < (l0.length : Int)) = true := decide_eq_true c14
       clear c14; replace H := ifS H; obtain ⟨c15, H⟩ := H; have c15b0 := decide_eq_true c15; clear c15; replace H := ifS H; obtain ⟨c16, H⟩ := H; have c16b0 := decide_eq_true c16; clear c16; replace H := ifS H; obtain ⟨c17, H⟩ := H; have c17b0 := decide_eq_true c17; clear c17; replace H := ifS H; obtain ⟨c18, H⟩ := H; have LMc18 := Aside0.mk c18; clear c18
       obtain ⟨y544, hy_⟩ : ∃ y_ : List (S110), y_ = (x6_2 ++ [(⟨x26_2, wrap64 (((rd_T110 l0 x26_2).f1) + ((rd_T110 l1 x26_2).f1)), wrap64 (((rd_T110 l0 x26_2).f2) + ((rd_T110 l1 x26_2).f2))⟩ : S110)]) := ⟨_, rfl⟩
       replace H : (spec_AddTallies.l0 k2 l1 y544 l0 (l0.length : Int) (wrap64 (x26_2 + 1))) = some (r1, r2) := yH
       have Ny544 := ak hy_; clear hy_
       have H' := Aside0.mk H
       clear H
       have p540 : 0 ≤ (x26_2 : Int) := da
       have q540 : x26_2 < (l0.length : Int) := da
       obtain ⟨ad540, e540, hx540_0, hx540_1, hx540_2⟩ := at_T110 HR0.out x26_2 p540 q540
       cases e540
       replace hx540_0 := (HB.out.cell (World.block_lt_of_cell? w _ hx540_0)).trans hx540_0
       replace hx540_1 := (HB.out.cell (World.block_lt_of_cell? w _ hx540_1)).trans hx540_1
       replace hx540_2 := (HB.out.cell (World.block_lt_of_cell? w _ hx540_2)).trans hx540_2
       replace p540 := eq_true p540; replace q540 := eq_true q540
       try go_wp2_with (first | ((with_reducible refine gate_dst (N := 8) rfl ?_); (try (refine gate_guard (by rfl) ?_; dsimp only)); refine boxev 8 #[.int .i64 0, .int .i64 0, .int .i64 0] 110 ?_; intro gb541 hg w19 hbox hb; replace HO_6 := ak (Kd.R_below (Kd.R_elderB (rdl HO_6) gb541 (Nat.le_of_eq hg.symm)) hb); have BK541 := ak (hbox); have GW541 := ak (hgl hg (belowd HB)); have GE541 := ak (hgl hg (belowd HB)); replace HB := ak (below_step (belowd HB) hb); clear hb hbox hg; obtain ⟨hcz20_0, hcz20_1, hcz20_2, hfz20_0, hfz20_1, hfz20_2⟩ := box3 BK541))
       have n0_ : Aside0 (Kd.R k110 110 (((w19.setCell ⟨gb541, 0, none⟩ (.int .i64 ((rd_T110 l0 x26_2).f0))).setCell ⟨gb541, 1, none⟩ (.int .i64 ((rd_T110 l0 x26_2).f1))).setCell ⟨gb541, 2, none⟩ (.int .i64 ((rd_T110 l0 x26_2).f2))) w.heap.size (fun k_ => k_ ≠ gb541) u6 x6_2) := ⟨by (with_reducible repeat (first | apply Kd.R_alloc | apply Kd.R_drewN | apply Kd.R_drew)); exact Kd.R_mono (farsR (Kd.R_mono HO_6.out (fun k_ hk => (⟨hk, hk.2⟩ : _ ∧ k_ ≠ gb541)))) (fun _ hk => hk.1.2)⟩
       have n1_ : Aside0 ((((w19.setCell ⟨gb541, 0, none⟩ (.int .i64 ((rd_T110 l0 x26_2).f0))).setCell ⟨gb541, 1, none⟩ (.int .i64 ((rd_T110 l0 x26_2).f1))).setCell ⟨gb541, 2, none⟩ (.int .i64 ((rd_T110 l0 x26_2).f2))).heap[gb541]? = some (.cells #[.int .i64 ((rd_T110 l0 x26_2).f0), .int .i64 ((rd_T110 l0 x26_2).f1), .int .i64 ((rd_T110 l0 x26_2).f2)] 110 (0, 0))) := ⟨by (with_reducible repeat (first | refine blk_drewN ?_ _ | refine blk_drew ?_ | refine blk_alloc ?_ _)); refine blk_put (cs := #[.int .i64 ((rd_T110 l0 x26_2).f0), .int .i64 ((rd_T110 l0 x26_2).f1), .int .i64 0]) ?_ 2 _ rfl; (with_reducible repeat (first | refine blk_drewN ?_ _ | refine blk_drew ?_ | refine blk_alloc ?_ _)); refine blk_put (cs := #[.int .i64 ((rd_T110 l0 x26_2).f0), .int .i64 0, .int .i64 0]) ?_ 1 _ rfl; (with_reducible repeat (first | refine blk_drewN ?_ _ | refine blk_drew ?_ | refine blk_alloc ?_ _)); refine blk_put (cs := #[.int .i64 0, .int .i64 0, .int .i64 0]) ?_ 0 _ rfl; (with_reducible repeat (first | refine blk_drewN ?_ _ | refine blk_drew ?_ | refine blk_alloc ?_ _)); exact BK541.out⟩
       have n2_ : Aside0 (Below w.heap.size w (((w19.setCell ⟨gb541, 0, none⟩ (.int .i64 ((rd_T110 l0 x26_2).f0))).setCell ⟨gb541, 1, none⟩ (.int .i64 ((rd_T110 l0 x26_2).f1))).setCell ⟨gb541, 2, none⟩ (.int .i64 ((rd_T110 l0 x26_2).f2)))) := ⟨belowg1 HB GE541⟩
       (try clear HO_6); (try clear BK541); (try clear HB)
       generalize (((w19.setCell ⟨gb541, 0, none⟩ (.int .i64 ((rd_T110 l0 x26_2).f0))).setCell ⟨gb541, 1, none⟩ (.int .i64 ((rd_T110 l0 x26_2).f1))).setCell ⟨gb541, 2, none⟩ (.int .i64 ((rd_T110 l0 x26_2).f2))) = w21 at n0_ n1_ n2_ ⊢
       have HO_6 := n0_
       have BK541 := n1_
       have HB := n2_
       clear n0_ n1_ n2_
       replace HO_6 := ak (Kd.R_drew HO_6.out)
       replace BK541 := ak (blk_drew BK541.out)
       replace HB := ak (below_drew1 HB.out)
       have p542 : 0 ≤ (x26_2 : Int) := da
       have q542 : x26_2 < (l1.length : Int) := da
       obtain ⟨ad542, e542, hx542_0, hx542_1, hx542_2⟩ := at_T110 HR1.out x26_2 p542 q542
       have hw542_2 := hx542_2
       have hw542_1 := hx542_1
       have hw542_0 := hx542_0
       cases e542
       replace hx542_0 := (HB.out.cell (World.block_lt_of_cell? w _ hx542_0)).trans hx542_0
       replace hx542_1 := (HB.out.cell (World.block_lt_of_cell? w _ hx542_1)).trans hx542_1
       replace hx542_2 := (HB.out.cell (World.block_lt_of_cell? w _ hx542_2)).trans hx542_2
       replace p542 := eq_true p542; replace q542 := eq_true q542
       have p543 : 0 ≤ (x26_2 : Int) := da
       have q543 : x26_2 < (l1.length : Int) := da
       obtain ⟨ad543, e543, hx543_0, hx543_1, hx543_2⟩ := at_T110 HR1.out x26_2 p543 q543
       have hw543_2 := hx543_2
       have hw543_1 := hx543_1
       have hw543_0 := hx543_0
       obtain rfl : ad542 = ad543 := (by injection e543)
       replace hx543_0 := (HB.out.cell (World.block_lt_of_cell? w _ hx543_0)).trans hx543_0
       replace hx543_1 := (HB.out.cell (World.block_lt_of_cell? w _ hx543_1)).trans hx543_1
       replace hx543_2 := (HB.out.cell (World.block_lt_of_cell? w _ hx543_2)).trans hx543_2
       replace p543 := eq_true p543; replace q543 := eq_true q543
       refine start_ (n := 22) (S := fun w' => w'.cell? ⟨gb541, 0, none⟩ = some (.int .i64 ((rd_T110 l0 x26_2).f0)) ∧ w'.cell? ⟨gb541, 1, none⟩ = some (.int .i64 ((rd_T110 l0 x26_2).f1)) ∧ w'.cell? ⟨gb541, 2, none⟩ = some (.int .i64 ((rd_T110 l0 x26_2).f2)) ∧ w'.cell? (ad542.add ((x26_2).toNat * 3)) = some (.int .i64 ((rd_T110 l1 x26_2).f0)) ∧ w'.cell? ⟨(ad542.add ((x26_2).toNat * 3)).block, (ad542.add ((x26_2).toNat * 3)).off + 1, none⟩ = some (.int .i64 ((rd_T110 l1 x26_2).f1)) ∧ w'.cell? ⟨(ad542.add ((x26_2).toNat * 3)).block, (ad542.add ((x26_2).toNat * 3)).off + 2, none⟩ = some (.int .i64 ((rd_T110 l1 x26_2).f2)) ∧ w'.cell? (ad542.add ((x26_2).toNat * 3)) = some (.int .i64 ((rd_T110 l1 x26_2).f0)) ∧ w'.cell? ⟨(ad542.add ((x26_2).toNat * 3)).block, (ad542.add ((x26_2).toNat * 3)).off + 1, none⟩ = some (.int .i64 ((rd_T110 l1 x26_2).f1)) ∧ w'.cell? ⟨(ad542.add ((x26_2).toNat * 3)).block, (ad542.add ((x26_2).toNat * 3)).off + 2, none⟩ = some (.int .i64 ((rd_T110 l1 x26_2).f2))) (ds := []) (bl 22 0) (by kernel_rfl) rfl rfl ⟨bq BK541 0, bq BK541 1, bq BK541 2, ((HB.out.cell (World.block_lt_of_cell? w _ hw542_0)).trans hw542_0), ((HB.out.cell (World.block_lt_of_cell? w _ hw542_1)).trans hw542_1), ((HB.out.cell (World.block_lt_of_cell? w _ hw542_2)).trans hw542_2), ((HB.out.cell (World.block_lt_of_cell? w _ hw543_0)).trans hw543_0), ((HB.out.cell (World.block_lt_of_cell? w _ hw543_1)).trans hw543_1), ((HB.out.cell (World.block_lt_of_cell? w _ hw543_2)).trans hw543_2)⟩ (fun hHeld => ?_); refine with_tabW spec_AddTallies.tab7 spec_AddTallies.bits7 (fun HT_ HW_ => ?_)
       generalize w21.drew = w22 at HO_6 BK541 HB hx542_0 hx542_1 hx542_2 hx543_0 hx543_1 hx543_2 hHeld ⊢
       refine pureA 0 (some 31) 22 1 HT_ ?_
       refine pureA 1 (some 32) 22 3 HT_ ?_
       refine pureA 2 (some 33) 22 7 HT_ ?_
       refine pureA 4 (some 35) 22 23 HT_ ?_
       refine pureA 5 (some 36) 22 55 HT_ ?_
       refine pureA 6 (some 37) 22 119 HT_ ?_
       refine pureA 7 (some 38) 22 247 HT_ ?_
       refine pureA 10 (some 41) 22 1271 HT_ ?_
       refine pureA 12 (some 43) 22 5367 HT_ ?_
       refine pureA 13 (some 44) 22 13559 HT_ ?_
       refine pureA 14 (some 45) 22 29943 HT_ ?_
       refine pureA 15 (some 46) 22 62711 HT_ ?_
       refine takeA 3 (some 34) 22 62719 HT_ HW_ hHeld ?_ (hy := by rintro w' ⟨s0, s1, s2, s3, s4, s5, s6, s7, s8⟩; go_simp; with_reducible rfl)
       refine takeA 8 (some 39) 22 62975 HT_ HW_ hHeld ?_ (hy := by rintro w' ⟨s0, s1, s2, s3, s4, s5, s6, s7, s8⟩; go_simp; with_reducible rfl)
       refine pureA 9 (some 40) 22 63487 HT_ ?_
       refine takeA 11 (some 42) 22 65535 HT_ HW_ hHeld ?_ (hy := by rintro w' ⟨s0, s1, s2, s3, s4, s5, s6, s7, s8⟩; go_simp; with_reducible rfl)
       refine takeA 16 (some 47) 22 131071 HT_ HW_ hHeld ?_ (hy := by rintro w' ⟨s0, s1, s2, s3, s4, s5, s6, s7, s8⟩; go_simp; with_reducible rfl)
       refine pureA 17 (some 48) 22 262143 HT_ ?_
       refine pureA 18 (some 49) 22 524287 HT_ ?_
       refine oneA 19 (some 50) 22 1048575 HT_ (fun K hK => ?_)
       refine value_ (w1 := ?_) (v := ?_) (by rfl) rfl ?_ ?_
       rotate_left 2
       ·go_simp
        constructor
        ·rfl
        ·rfl
       refine hK.out _ _ ⟨(blk_cell (blk_alloc BK541.out _) 0).trans rfl, (blk_cell (blk_alloc BK541.out _) 1).trans rfl, (blk_cell (blk_alloc BK541.out _) 2).trans rfl, (World.cell?_alloc_lt _ _ _ (World.block_lt_of_cell? _ _ (((HB.out.cell (World.block_lt_of_cell? w _ hw542_0)).trans hw542_0)))).trans (((HB.out.cell (World.block_lt_of_cell? w _ hw542_0)).trans hw542_0)), (World.cell?_alloc_lt _ _ _ (World.block_lt_of_cell? _ _ (((HB.out.cell (World.block_lt_of_cell? w _ hw542_1)).trans hw542_1)))).trans (((HB.out.cell (World.block_lt_of_cell? w _ hw542_1)).trans hw542_1)), (World.cell?_alloc_lt _ _ _ (World.block_lt_of_cell? _ _ (((HB.out.cell (World.block_lt_of_cell? w _ hw542_2)).trans hw542_2)))).trans (((HB.out.cell (World.block_lt_of_cell? w _ hw542_2)).trans hw542_2)), (World.cell?_alloc_lt _ _ _ (World.block_lt_of_cell? _ _ (((HB.out.cell (World.block_lt_of_cell? w _ hw543_0)).trans hw543_0)))).trans (((HB.out.cell (World.block_lt_of_cell? w _ hw543_0)).trans hw543_0)), (World.cell?_alloc_lt _ _ _ (World.block_lt_of_cell? _ _ (((HB.out.cell (World.block_lt_of_cell? w _ hw543_1)).trans hw543_1)))).trans (((HB.out.cell (World.block_lt_of_cell? w _ hw543_1)).trans hw543_1)), (World.cell?_alloc_lt _ _ _ (World.block_lt_of_cell? _ _ (((HB.out.cell (World.block_lt_of_cell? w _ hw543_2)).trans hw543_2)))).trans (((HB.out.cell (World.block_lt_of_cell? w _ hw543_2)).trans hw543_2))⟩ (fun hHeld => ?_)
       clear hK K
       refine norm_ (a' := ?_) ?_ ?_
       rotate_left
       ·show Act.put _ (some 50) _ = _
        simp only [Act.put, List.setIfInBounds_toArray, List.set_cons_zero, List.set_cons_succ, i64_w, i32_w]
        rfl
       refine oneA 20 (some 51) 22 2097151 HT_ (fun K hK => ?_)
       refine Kd.R_append_step k110 (w0 := w) w.heap.size (by rfl) (.tmp 31) (.tmp 50) 99 110 (.agg #[(.int .i64 0), (.int .i64 0), (.int .i64 0)]) 24 rfl Try.underlying99 info110 rfl (by decide) (by omega) u6 x6_2 (⟨x26_2, wrap64 (((rd_T110 l0 x26_2).f1) + ((rd_T110 l1 x26_2).f1)), wrap64 (((rd_T110 l0 x26_2).f2) + ((rd_T110 l1 x26_2).f2))⟩ : S110) [.int .i64 x26_2, .int .i64 (wrap64 (((rd_T110 l0 x26_2).f1) + ((rd_T110 l1 x26_2).f1))), .int .i64 (wrap64 (((rd_T110 l0 x26_2).f2) + ((rd_T110 l1 x26_2).f2)))] (fun k_ => k_ ≠ gb541) (fun _ => False) rfl rfl ?aP (fun _ hk => hk.elim) ?aF ?aO ?aB ?aS ?aL ?_
       (case aP => exact k110_mkM _ _ _ (⟨x26_2, wrap64 (((rd_T110 l0 x26_2).f1) + ((rd_T110 l1 x26_2).f1)), wrap64 (((rd_T110 l0 x26_2).f2) + ((rd_T110 l1 x26_2).f2))⟩ : S110))
       (case aB => exact (belowg1 HB GE541))
       (case aF => exact (fun k_ hk => Kd.freshB (blkd BK541) k_ hk))
       (case aO => exact (rdl HO_6))
       (case aS => exact (below_size (belowg1 HB GE541)))
       (case aL => have := LMc18.out; omega)
       intro v545 w23 ho hb hg hat
       rw [← Ny544.out] at ho
       replace BK541 := ak (blk_grown (blkd BK541) hg (Kd.R_away HO_6.out (fun _ hk => hk)))
       replace HB := ak (hb)
       have HO546 := ak (ho); clear HO_6; clear ho hb hg hat
       refine hK.out _ _ ⟨bq BK541 0, bq BK541 1, bq BK541 2, ((HB.out.cell (World.block_lt_of_cell? w _ hw542_0)).trans hw542_0), ((HB.out.cell (World.block_lt_of_cell? w _ hw542_1)).trans hw542_1), ((HB.out.cell (World.block_lt_of_cell? w _ hw542_2)).trans hw542_2), ((HB.out.cell (World.block_lt_of_cell? w _ hw543_0)).trans hw543_0), ((HB.out.cell (World.block_lt_of_cell? w _ hw543_1)).trans hw543_1), ((HB.out.cell (World.block_lt_of_cell? w _ hw543_2)).trans hw543_2)⟩ (fun hHeld => ?_)
       clear hK K
       refine norm_ (a' := ?_) ?_ ?_
       rotate_left
       ·show Act.put _ (some 51) _ = _
        simp only [Act.put, List.setIfInBounds_toArray, List.set_cons_zero, List.set_cons_succ, i64_w, i32_w]
        rfl
       refine pureA 21 (some 6) 22 4194303 HT_ ?_
       refine done_ (done_of HT_.out (by kernel_rfl)) ?_
       try go_wp2
       go_roundg k2
       case measure => have := HJ2.out; have := HK2.out; omega
       case rel => exact ⟨(y544), (wrap64 (x26_2 + 1)), er, H', ⟨by have := HJ2.out; have := HK2.out; omega⟩, ⟨by (with_reducible repeat (first | apply Kd.R_alloc | apply Kd.R_drewN | apply Kd.R_drew)); exact Kd.R_mono HO546.out (fun _ hk => trivial)⟩, ⟨belowg1 HB GE541⟩⟩
      ·rw [if_neg c14] at H
       have c14b0 : decide (x26_2 < (l0.length : Int)) = false := decide_eq_false c14
       clear c14; replace H := bS H; obtain ⟨t547, A24, H⟩ := H
       replace H : (if t547 = true then (some (x6_2, true)) else (some (([] : List (S110)), false))) = some (r1, r2) := H
       by_cases c25 : t547 = true
       ·subst c25
        have H1 : (some (x6_2, true)) = some (r1, r2) := by rw [if_pos rfl] at H; exact H
        clear H
        have H := H1
        clear H1
        simp only [Option.some.injEq, Prod.mk.injEq] at H
        obtain ⟨rfl, rfl⟩ := H
        obtain ⟨Ao26, co26, eo26⟩ := Kd.R_slice HO_6.out
        subst eo26
        go_wp2_with (first | ((with_reducible refine gate_callee (f := 165) rfl ?_); refine goesLa (some 54) rfl Try.func165 #[.slice Ao26 x6_2.length co26] rfl ?_; (with_reducible refine (spec_GoodTallies.calls k2 _ _ x6_2 true _ ?side1 ?side2 A24.out).mono ?_); (case side1 => exact cd (Kd.R_reads' HO_6.out).2.2); (case side2 => exact (Kd.R_reads' HO_6.out).2.1); rintro e w27 ⟨rfl, hb⟩; refine ⟨_, rfl, ?_⟩; replace HO_6 := ak (Kd.R_below (rdl HO_6) hb); replace HB := ak (below_step (belowd HB) hb); (try clear hb)))
        go_ret2
        exact ⟨_, er2, by (with_reducible repeat (first | apply Kd.R_alloc | apply Kd.R_drewN | apply Kd.R_drew)); exact HO_6.out, belowd HB⟩
       ·replace c25 := Bool.eq_false_iff.mpr c25
        subst c25
        have H1 : (some (([] : List (S110)), false)) = some (r1, r2) := by rw [if_neg (show ¬ (false = true) by decide)] at H; exact H
        clear H
        have H := H1
        clear H1
        simp only [Option.some.injEq, Prod.mk.injEq] at H
        obtain ⟨rfl, rfl⟩ := H
        obtain ⟨Ao28, co28, eo28⟩ := Kd.R_slice HO_6.out
        subst eo28
        go_wp2_with (first | ((with_reducible refine gate_callee (f := 165) rfl ?_); refine goesLa (some 54) rfl Try.func165 #[.slice Ao28 x6_2.length co28] rfl ?_; (with_reducible refine (spec_GoodTallies.calls k2 _ _ x6_2 false _ ?side1 ?side2 A24.out).mono ?_); (case side1 => exact cd (Kd.R_reads' HO_6.out).2.2); (case side2 => exact (Kd.R_reads' HO_6.out).2.1); rintro e w29 ⟨rfl, hb⟩; refine ⟨_, rfl, ?_⟩; replace HO_6 := ak (Kd.R_below (rdl HO_6) hb); replace HB := ak (below_step (belowd HB) hb); (try clear hb)))
        go_ret2
        exact ⟨_, er2, by first | exact Kd.R_nil _ _ _ _ _ | exact Kd.N_nil _ _ _ _ _ | exact Kd.V_nil _ _ _ _ _ | exact Kd.Q_nil _ _ _ _ _ | exact Kd.S_nil _ _ _ _ _, belowd HB⟩

/-! ### spec_DrawDebitsFor: function 82 -/
def spec_DrawDebitsFor.f (k : Nat) (l0 : List Int) : Option (Int × (List (S91)) × Int) := (spec_l1Cur_pick.f l0 0 0 4).bind fun bt549 => ((spec_l1Cur_statements.f k l0 bt549.2.1 bt549.2.2).bind fun bt552 => ((spec_l1Cur_among.f l0 bt552.2.1 bt552.2.2 (([(-1), 0, 0, 1, 20, 21] : List Int))).bind fun bt560 => (some (bt549.1, bt552.1, bt560.1))))
theorem spec_DrawDebitsFor.mono : ∀ a0 k, LeO (spec_DrawDebitsFor.f k a0) (spec_DrawDebitsFor.f (k + 1) a0) := by
 intro a0 k
 unfold spec_DrawDebitsFor.f
 repeat' (first | (with_reducible first | exact spec_l1Cur_statements.mono _ _ _ _ | exact LeO.refl _ | exact LeO.none _ | refine LeO.ite ?_ ?_ | refine LeO.bind ?_ (fun _ => ?_)) | exact spec_l1Cur_statements.mono _ _ _ _ | exact LeO.none _ | refine LeO.ite ?_ ?_ | refine LeO.bind ?_ (fun _ => ?_))
set_option maxHeartbeats 8000000 in
set_option maxRecDepth 100000 in
theorem spec_DrawDebitsFor.calls (k : Nat) (A0 : Option Addr) (c0 : Nat) (l0 : List Int) (r1 : Int) (r2 : List (S91)) (r3 : Int) (w : World) (hr0 : Kd.C (Kd.int .u8) w A0 l0.length l0) (hc0 : l0.length ≤ c0) (h : spec_DrawDebitsFor.f k l0 = some (r1, r2, r3)) :
  Calls Try.prog 82 #[.slice A0 l0.length c0] w fun e w' => ∃ v1_ : Value, e = .returned (.tuple #[.int .i64 r1, v1_, .int .i64 r3]) ∧ Kd.R k91 91 w' w.heap.size (fun _ => True) v1_ r2 ∧ Below w.heap.size w w' := by
 have hu151 := Try.underlying151
 have HR0 := Aside0.mk hr0; have HC0 := Aside0.mk hc0; clear hr0 hc0
 have HB := Aside0.mk (Below.refl w.heap.size w)
 have H : ((spec_l1Cur_pick.f l0 0 0 4).bind fun bt549 => ((spec_l1Cur_statements.f k l0 bt549.2.1 bt549.2.2).bind fun bt552 => ((spec_l1Cur_among.f l0 bt552.2.1 bt552.2.2 (([(-1), 0, 0, 1, 20, 21] : List Int))).bind fun bt560 => (some (bt549.1, bt552.1, bt560.1))))) = some (r1, r2, r3) := h
 clear h; replace H := bS H; obtain ⟨⟨t549, t550, t551⟩, A2, H⟩ := H
 replace H : ((spec_l1Cur_statements.f k l0 t550 t551).bind fun bt552 => ((spec_l1Cur_among.f l0 bt552.2.1 bt552.2.2 (([(-1), 0, 0, 1, 20, 21] : List Int))).bind fun bt560 => (some (t549, bt552.1, bt560.1)))) = some (r1, r2, r3) := H
 replace H := bS H; obtain ⟨⟨t552, t555, t556⟩, A3, H⟩ := H
 replace H : ((spec_l1Cur_among.f l0 t555 t556 (([(-1), 0, 0, 1, 20, 21] : List Int))).bind fun bt560 => (some (t549, t552, bt560.1))) = some (r1, r2, r3) := H
 obtain ⟨y557, hy_⟩ : ∃ y_ : List Int, y_ = (([(-1), 0, 0, 1, 20, 21] : List Int)) := ⟨_, rfl⟩
 replace H : ((spec_l1Cur_among.f l0 t555 t556 y557).bind fun bt560 => (some (t549, t552, bt560.1))) = some (r1, r2, r3) := yH
 have Ny557 := ak hy_; clear hy_; replace H := bS H; obtain ⟨⟨t560, t561, t562⟩, A4, H⟩ := H
 replace H : (some (t549, t552, t560)) = some (r1, r2, r3) := H
 simp only [Option.some.injEq, Prod.mk.injEq] at H
 obtain ⟨rfl, rfl, rfl⟩ := H
 go_enter Try.func82, Try.ntmps82
 go_wp2_with (first | ((with_reducible refine gate_dst (N := 8) rfl ?_); refine boxev 8 #[.slice A0 l0.length c0, .int .i64 0, .int .u64 0] 151 ?_; intro gb548 hg w5 hbox hb; have HI548 := ak ((show IsS151 w w5 gb548 l0 0 0 from IsS151.of_blk hbox (by rw [hg]; exact (below_size (belowd HB))) HR0.out)); replace HB := ak (below_step (belowd HB) hb); clear hb hbox hg) | ((with_reducible refine gate_callee (f := 147) rfl ?_); refine goesLa (some 10) rfl Try.func147 #[.pointer (some ⟨gb548, 0, none⟩), .int .i64 4] rfl ?_; (with_reducible refine (spec_l1Cur_pick.calls gb548 l0 0 0 4 t549 t550 t551 w _ ?side1 ?side2 A2.out).mono ?_); (case side1 => repeat (first | (with_reducible first | exact HI548.out | apply IsS151.alloc | apply IsS151.drewN | apply IsS151.drew | apply IsS151.set_1 | apply IsS151.set_2) | exact HI548.out)); (case side2 => repeat (first | (with_reducible first | exact HB.out | apply below_alloc | apply pw_below_drewN | apply below_drew1 | refine below_set ?_ (IsS151.ge HI548.out)) | exact HB.out)); rintro e w6 ⟨rfl, hi, hb, hk⟩; refine ⟨_, rfl, ?_⟩; replace HB := ak (hb); replace HI548 := ak (hi); (try clear hb); (try clear hk); (try clear hi)) | ((with_reducible refine gate_callee (f := 142) rfl ?_); refine goesLa (some 12) rfl Try.func142 #[.pointer (some ⟨gb548, 0, none⟩)] rfl ?_; (with_reducible refine (spec_l1Cur_statements.calls k gb548 l0 t550 t551 t552 t555 t556 w _ ?side1 ?side2 A3.out).mono ?_); (case side1 => repeat (first | (with_reducible first | exact HI548.out | apply IsS151.alloc | apply IsS151.drewN | apply IsS151.drew | apply IsS151.set_1 | apply IsS151.set_2) | exact HI548.out)); (case side2 => repeat (first | (with_reducible first | exact HB.out | apply below_alloc | apply pw_below_drewN | apply below_drew1 | refine below_set ?_ (IsS151.ge HI548.out)) | exact HB.out)); rintro e w7 ⟨v553, rfl, ho0, hi, hb, hk⟩; refine ⟨_, rfl, ?_⟩; have HO554 := ak (Kd.R_lower ho0 (below_size (by repeat (first | (with_reducible first | exact HB.out | apply below_alloc | apply pw_below_drewN | apply below_drew1 | refine below_set ?_ (IsS151.ge HI548.out)) | exact HB.out)))); replace HB := ak (hb); replace HI548 := ak (hi); (try clear hb); (try clear hk); (try clear hi); (try clear ho0)) | ((with_reducible refine gate_dst (N := 14) rfl ?_); refine Kd.R_lit (Kd.int .i64) _ 3 ?hg (N := 14) ?hd (xs := ([(-1), 0, 0, 1, 20, 21] : List Int)) (inner := [.int .i64 (-1), .int .i64 0, .int .i64 0, .int .i64 1, .int .i64 20, .int .i64 21]) (ok := fun _ => True) (okp := fun _ => True) ?hr ?hp (fun _ hk => hk) trivial (Below.refl _ _) (Nat.le_refl _) (by simp) ?_; (case hd => rfl); (case hg => rfl); (case hr => first | (go_simp; done) | (go_simp; rfl)); (case hp => exact (Reps.one (show Kd.M (Kd.int .i64) _ _ _ (-1) [.int .i64 (-1)] from rfl) (Reps.one (show Kd.M (Kd.int .i64) _ _ _ 0 [.int .i64 0] from rfl) (Reps.one (show Kd.M (Kd.int .i64) _ _ _ 0 [.int .i64 0] from rfl) (Reps.one (show Kd.M (Kd.int .i64) _ _ _ 1 [.int .i64 1] from rfl) (Reps.one (show Kd.M (Kd.int .i64) _ _ _ 20 [.int .i64 20] from rfl) (Reps.one (show Kd.M (Kd.int .i64) _ _ _ 21 [.int .i64 21] from rfl) (Reps.none _ _)))))))); intro v558 w8 ho9 hb hg_ hnew_; clear hg_ hnew_; (first | rw [← Ny557.out] at ho9 | (simp only [Int.reduceToNat] at ho9; rw [← Ny557.out] at ho9)); replace HO554 := ak (Kd.R_below (rdl HO554) hb); have HO559 := ak (Kd.R_lower ho9 (below_size (by repeat (first | (with_reducible first | exact HB.out | apply below_alloc | apply pw_below_drewN | apply below_drew1 | refine below_set ?_ (IsS151.ge HI548.out)) | exact HB.out)))); replace HB := ak (below_step (by repeat (first | (with_reducible first | exact HB.out | apply below_alloc | apply pw_below_drewN | apply below_drew1 | refine below_set ?_ (IsS151.ge HI548.out)) | exact HB.out)) hb); replace HI548 := ak (IsS151.below (by repeat (first | (with_reducible first | exact HI548.out | apply IsS151.alloc | apply IsS151.drewN | apply IsS151.drew | apply IsS151.set_1 | apply IsS151.set_2) | exact HI548.out)) hb); clear hb ho9; obtain ⟨Ao10, co10, eo10⟩ := Kd.R_slice HO559.out; subst eo10) | ((with_reducible refine gate_callee (f := 166) rfl ?_); refine goesLa (some 15) rfl Try.func166 #[.pointer (some ⟨gb548, 0, none⟩), .slice Ao10 y557.length co10] rfl ?_; (with_reducible refine (spec_l1Cur_among.calls gb548 l0 t555 t556 _ _ y557 t560 t561 t562 w _ ?side1 ?side2 ?side3 ?side4 ?side5 A4.out).mono ?_); (case side1 => repeat (first | (with_reducible first | exact HI548.out | apply IsS151.alloc | apply IsS151.drewN | apply IsS151.drew | apply IsS151.set_1 | apply IsS151.set_2) | exact HI548.out)); (case side2 => repeat (first | (with_reducible first | exact HB.out | apply below_alloc | apply pw_below_drewN | apply below_drew1 | refine below_set ?_ (IsS151.ge HI548.out)) | exact HB.out)); (case side3 => exact cd (Kd.R_reads' HO559.out).2.2); (case side4 => exact (Kd.R_reads' HO559.out).2.1); (case side5 => exact far_slice (IsS151.own_ne HI548.out HO559.out (by decide))); rintro e w11 ⟨rfl, hi, hb, hk⟩; refine ⟨_, rfl, ?_⟩; replace HO554 := ak (Kd.R_mono (Kd.R_keep (IsS151.apart (show IsS151 w _ gb548 l0 t555 t556 from by repeat (first | (with_reducible first | exact HI548.out | apply IsS151.alloc | apply IsS151.drewN | apply IsS151.drew | apply IsS151.set_1 | apply IsS151.set_2) | exact HI548.out)) (rdl HO554) (by decide)) hk (fun _ h => h.2)) (fun _ h => h.1)); replace HO559 := ak (Kd.R_mono (Kd.R_keep (IsS151.apart (show IsS151 w _ gb548 l0 t555 t556 from by repeat (first | (with_reducible first | exact HI548.out | apply IsS151.alloc | apply IsS151.drewN | apply IsS151.drew | apply IsS151.set_1 | apply IsS151.set_2) | exact HI548.out)) (rdl HO559) (by decide)) hk (fun _ h => h.2)) (fun _ h => h.1)); replace HB := ak (hb); replace HI548 := ak (hi); (try clear hb); (try clear hk); (try clear hi)))
 go_ret3
 exact ⟨_, er2, by (with_reducible repeat (first | apply Kd.R_alloc | apply Kd.R_drewN | apply Kd.R_drew)); exact HO554.out, by repeat (first | (with_reducible first | exact HB.out | apply below_alloc | apply pw_below_drewN | apply below_drew1 | refine below_set ?_ (IsS151.ge HI548.out)) | exact HB.out)⟩

end Go.Proofs.Ytkgogglnipdcfaa.QFnScores
