-- printed by this session's own program (wip/tools/pp.py: the kit's print.py with changes); Lean checks it
import Derived.Test.YtkgogglnipdcfaaQFnScoresx0
import Derived.Test.YtkgogglnipdcfaaQFnScoresx1
import Derived.Test.YtkgogglnipdcfaaQFnScoresx4
namespace Go.Proofs.Ytkgogglnipdcfaa.QFnScores
open Go.RowKit Go.Proofs.YtkgogglnipdcfaaW.PrintWords Go.Proofs.YtkgogglnipdcfaaW.PrintLast Go.Proofs.YtkgogglnipdcfaaW.PrintMore
attribute [local go_sem] max2_int min2_int max_two min_two max_three min_three max_four min_four strLss strGtr strLeq strGeq   -- for this text's walks alone
set_option linter.unusedVariables false
set_option linter.unusedSimpArgs false

attribute [local go_sem high] eqA85
/-! ### spec_l12Refused: function 207 -/
mutual
def spec_l12Refused.l0 : Nat → List (S91) → List Int → Int → Int → Int → Int → Option (List Int)
  | 0, _, _, _, _, _, _ => none
  | k + 1, x0, x5, x6, x158000, x158001, x158002 => if x6 < 7 then (spec_l12Refused.l1 k x0 x5 x6 false false x0 (x0.length : Int) 0 x158000 x158001 x158002) else (some x5)
def spec_l12Refused.l1 : Nat → List (S91) → List Int → Int → Bool → Bool → List (S91) → Int → Int → Int → Int → Int → Option (List Int)
  | 0, _, _, _, _, _, _, _, _, _, _, _ => none
  | k + 1, x0, x5, x6, x7, x8, x15, x16, x17, x158000, x158001, x158002 => if x17 < x16 then (if 0 ≤ x17 then (if x17 < (x15.length : Int) then (if ((rd_T91 x15 x17).f0) = x6 then (if (((rd_T91 x15 x17).f1.f0) == x158000 && (((rd_T91 x15 x17).f1.f1) == x158001 && (((rd_T91 x15 x17).f1.f2) == x158002))) = true then (if x7 = true then (if x8 = true then (spec_l12Refused.l1 k x0 x5 x6 true true x15 x16 (wrap64 (x17 + 1)) x158000 x158001 x158002) else (spec_l12Refused.l1 k x0 x5 x6 true (!((rd_T91 x15 x17).f2)) x15 x16 (wrap64 (x17 + 1)) x158000 x158001 x158002)) else (if x8 = true then (spec_l12Refused.l1 k x0 x5 x6 ((rd_T91 x15 x17).f2) true x15 x16 (wrap64 (x17 + 1)) x158000 x158001 x158002) else (spec_l12Refused.l1 k x0 x5 x6 ((rd_T91 x15 x17).f2) (!((rd_T91 x15 x17).f2)) x15 x16 (wrap64 (x17 + 1)) x158000 x158001 x158002))) else (spec_l12Refused.l1 k x0 x5 x6 x7 x8 x15 x16 (wrap64 (x17 + 1)) x158000 x158001 x158002)) else (spec_l12Refused.l1 k x0 x5 x6 x7 x8 x15 x16 (wrap64 (x17 + 1)) x158000 x158001 x158002)) else (none)) else (none)) else (if x7 = true then (if x8 = true then (spec_l12Refused.l0 k x0 x5 (wrap64 (x6 + 1)) x158000 x158001 x158002) else (if x5.length < 17592186044416 then (spec_l12Refused.l0 k x0 (x5 ++ [x6]) (wrap64 (x6 + 1)) x158000 x158001 x158002) else (none))) else (spec_l12Refused.l0 k x0 x5 (wrap64 (x6 + 1)) x158000 x158001 x158002))
end
def spec_l12Refused.f (k : Nat) (l0 : List (S91)) (a1_0 : Int) (a1_1 : Int) (a1_2 : Int) : Option (List Int) := spec_l12Refused.l0 k l0 ([] : List Int) 0 a1_0 a1_1 a1_2
theorem spec_l12Refused.mono_l : ∀ k, (∀ y0 y1 y2 y3 y4 y5, LeO (spec_l12Refused.l0 k y0 y1 y2 y3 y4 y5) (spec_l12Refused.l0 (k + 1) y0 y1 y2 y3 y4 y5)) ∧ (∀ y0 y1 y2 y3 y4 y5 y6 y7 y8 y9 y10, LeO (spec_l12Refused.l1 k y0 y1 y2 y3 y4 y5 y6 y7 y8 y9 y10) (spec_l12Refused.l1 (k + 1) y0 y1 y2 y3 y4 y5 y6 y7 y8 y9 y10))
 | 0 => ⟨fun _ _ _ _ _ _ r h => by simp [spec_l12Refused.l0] at h, fun _ _ _ _ _ _ _ _ _ _ _ r h => by simp [spec_l12Refused.l1] at h⟩
 | k + 1 => by
  obtain ⟨ih0, ih1⟩ := spec_l12Refused.mono_l k
  refine ⟨?_, ?_⟩
  ·intro y0 y1 y2 y3 y4 y5
   unfold spec_l12Refused.l0
   repeat' (first | (with_reducible first | exact ih0 _ _ _ _ _ _ | exact ih1 _ _ _ _ _ _ _ _ _ _ _ | exact LeO.refl _ | exact LeO.none _ | refine LeO.ite ?_ ?_ | refine LeO.bind ?_ (fun _ => ?_)) | exact ih0 _ _ _ _ _ _ | exact ih1 _ _ _ _ _ _ _ _ _ _ _ | exact LeO.none _ | refine LeO.ite ?_ ?_ | refine LeO.bind ?_ (fun _ => ?_))
  ·intro y0 y1 y2 y3 y4 y5 y6 y7 y8 y9 y10
   unfold spec_l12Refused.l1
   repeat' (first | (with_reducible first | exact ih0 _ _ _ _ _ _ | exact ih1 _ _ _ _ _ _ _ _ _ _ _ | exact LeO.refl _ | exact LeO.none _ | refine LeO.ite ?_ ?_ | refine LeO.bind ?_ (fun _ => ?_)) | exact ih0 _ _ _ _ _ _ | exact ih1 _ _ _ _ _ _ _ _ _ _ _ | exact LeO.none _ | refine LeO.ite ?_ ?_ | refine LeO.bind ?_ (fun _ => ?_))
theorem spec_l12Refused.mono : ∀ a0 a1 a2 a3 k, LeO (spec_l12Refused.f k a0 a1 a2 a3) (spec_l12Refused.f (k + 1) a0 a1 a2 a3) := by
 intro a0 a1 a2 a3 k
 obtain ⟨ih0, ih1⟩ := spec_l12Refused.mono_l k
 unfold spec_l12Refused.f
 repeat' (first | (with_reducible first | exact ih0 _ _ _ _ _ _ | exact ih1 _ _ _ _ _ _ _ _ _ _ _ | exact LeO.refl _ | exact LeO.none _ | refine LeO.ite ?_ ?_ | refine LeO.bind ?_ (fun _ => ?_)) | exact ih0 _ _ _ _ _ _ | exact ih1 _ _ _ _ _ _ _ _ _ _ _ | exact LeO.none _ | refine LeO.ite ?_ ?_ | refine LeO.bind ?_ (fun _ => ?_))
set_option maxHeartbeats 8000000 in
set_option maxRecDepth 100000 in
theorem spec_l12Refused.calls (k : Nat) (A0 : Option Addr) (c0 : Nat) (l0 : List (S91)) (a1_0 : Int) (a1_1 : Int) (a1_2 : Int) (r : List Int) (w : World) (hr0 : Kd.C k91 w A0 l0.length l0) (hc0 : l0.length ≤ c0) (h : spec_l12Refused.f k l0 a1_0 a1_1 a1_2 = some r) :
  Calls Try.prog 207 #[.slice A0 l0.length c0, .agg #[.int .i64 a1_0, .int .i64 a1_1, .int .i64 a1_2]] w fun e w' => ∃ v0_ : Value, e = .returned (v0_) ∧ Kd.R (Kd.int .i64) 3 w' w.heap.size (fun _ => True) v0_ r ∧ Below w.heap.size w w' := by
 have hu85 := Try.underlying85
 have hu91 := Try.underlying91
 have HR0 := Aside0.mk hr0; have HC0 := Aside0.mk hc0; clear hr0 hc0
 have HB := Aside0.mk (Below.refl w.heap.size w)
 have H : (spec_l12Refused.l0 k l0 ([] : List Int) 0 a1_0 a1_1 a1_2) = some r := h
 clear h
 have H' := Aside0.mk H
 clear H
 go_enter Try.func207, Try.ntmps207
 go_wp2_with (first | ((with_reducible refine gate_dst (N := 3) rfl ?_); refine boxev 3 #[.int .i64 a1_0, .int .i64 a1_1, .int .i64 a1_2] 85 ?_; intro gb157 hg w3 hbox hb; have BK157 := ak (hbox); have GW157 := ak (hgl hg (belowd HB)); have GE157 := ak (hgl hg (belowd HB)); replace HB := ak (below_step (belowd HB) hb); clear hb hbox hg))
 go_loopg [5, 6] k (fun kq v5 v6 w' => ∃ (x5_1 : List Int) (x6_1 : Int), v6 = .int .i64 x6_1 ∧ Aside0 (spec_l12Refused.l0 kq l0 x5_1 x6_1 a1_0 a1_1 a1_2 = some r) ∧ Aside0 (kq ≤ k) ∧ Aside0 (Kd.R (Kd.int .i64) 3 w' w.heap.size (fun _ => True) v5 x5_1) ∧ Aside0 (w'.heap[gb157]? = some (.cells #[.int .i64 a1_0, .int .i64 a1_1, .int .i64 a1_2] 85 (0, 0))) ∧ Aside0 (Below w.heap.size w w'))
 case atStart => exact ⟨(([] : List Int)), (0), er, H', ⟨Nat.le_refl _⟩, ⟨by first | exact Kd.R_nil _ _ _ _ _ | exact Kd.N_nil _ _ _ _ _ | exact Kd.V_nil _ _ _ _ _ | exact Kd.Q_nil _ _ _ _ _ | exact Kd.S_nil _ _ _ _ _⟩, ⟨blkd BK157⟩, ⟨belowg1 HB GE157⟩⟩
 case round =>
  clear H'
  obtain ⟨x5_1, x6_1, rfl, HA, HK1, HO_5, BK157, HB⟩ := hrel
  cases gk with
  | zero => exact absurd HA.out (by simp [spec_l12Refused.l0])
  | succ k1 =>
   have H := HA.out; clear HA
   simp only [spec_l12Refused.l0] at H
   by_cases c4 : x6_1 < 7
   ·rw [if_pos c4] at H
    have c4b0 : decide (x6_1 < 7) = true := decide_eq_true c4
    clear c4
    have H' := Aside0.mk H
    clear H; go_wp2
    go_loopg [7, 8, 17] k1 (fun kq v7 v8 v17 w' => ∃ (x7_2 : Bool) (x8_2 : Bool) (x17_2 : Int), v7 = .bool x7_2 ∧ v8 = .bool x8_2 ∧ v17 = .int .i64 x17_2 ∧ Aside0 (spec_l12Refused.l1 kq l0 x5_1 x6_1 x7_2 x8_2 l0 (l0.length : Int) x17_2 a1_0 a1_1 a1_2 = some r) ∧ Aside0 (kq ≤ k1) ∧ Aside0 (Kd.R (Kd.int .i64) 3 w' w.heap.size (fun _ => True) u5 x5_1) ∧ Aside0 (w'.heap[gb157]? = some (.cells #[.int .i64 a1_0, .int .i64 a1_1, .int .i64 a1_2] 85 (0, 0))) ∧ Aside0 (Below w.heap.size w w'))
    case atStart => exact ⟨(false), (false), (0), er, er, er, H', ⟨Nat.le_refl _⟩, ⟨rdl HO_5⟩, ⟨blkd BK157⟩, ⟨belowg1 HB GE157⟩⟩
    case round =>
     clear H'
     (try clear c4b0)
     obtain ⟨x7_2, x8_2, x17_2, rfl, rfl, rfl, HA, HK2, HO_5, BK157, HB⟩ := hrel
     cases gk with
     | zero => exact absurd HA.out (by simp [spec_l12Refused.l1])
     | succ k2 =>
      have H := HA.out; clear HA
      simp only [spec_l12Refused.l1] at H
      by_cases c5 : x17_2 < (l0.length : Int)
      ·rw [if_pos c5] at H
       have c5b0 : decide (x17_2 < (l0.length : Int)) = true := decide_eq_true c5
       clear c5; replace H := ifS H; obtain ⟨c6, H⟩ := H; have c6b0 := decide_eq_true c6; clear c6; replace H := ifS H; obtain ⟨c7, H⟩ := H; have c7b0 := decide_eq_true c7; clear c7
       by_cases c8 : ((rd_T91 l0 x17_2).f0) = x6_1
       ·rw [if_pos c8] at H
        have c8b0 : (((rd_T91 l0 x17_2).f0) == x6_1) = true := beq_iff_eq.mpr c8
        have c8b1 : (((rd_T91 l0 x17_2).f0) != x6_1) = false := bne_eq_false_iff_eq.mpr c8
        clear c8
        by_cases c9 : (((rd_T91 l0 x17_2).f1.f0) == a1_0 && (((rd_T91 l0 x17_2).f1.f1) == a1_1 && (((rd_T91 l0 x17_2).f1.f2) == a1_2))) = true
        ·rw [if_pos c9] at H
         have c9b0 : (((rd_T91 l0 x17_2).f1.f0) == a1_0 && (((rd_T91 l0 x17_2).f1.f1) == a1_1 && (((rd_T91 l0 x17_2).f1.f2) == a1_2))) = true := c9
         (try (have c9b1 : decide (((rd_T91 l0 x17_2).f1.f0) = a1_0 && (((rd_T91 l0 x17_2).f1.f1) == a1_1 && (((rd_T91 l0 x17_2).f1.f2) == a1_2))) = true := by simpa using c9))
         (try (have c9b2 : (((rd_T91 l0 x17_2).f1.f0) == a1_0 && (((rd_T91 l0 x17_2).f1.f1) == a1_1 && (((rd_T91 l0 x17_2).f1.f2) == a1_2))) = true := by simpa using c9))
         clear c9
         by_cases c10 : x7_2 = true
         ·subst c10
          have H1 : (if x8_2 = true then (spec_l12Refused.l1 k2 l0 x5_1 x6_1 true true l0 (l0.length : Int) (wrap64 (x17_2 + 1)) a1_0 a1_1 a1_2) else (spec_l12Refused.l1 k2 l0 x5_1 x6_1 true (!((rd_T91 l0 x17_2).f2)) l0 (l0.length : Int) (wrap64 (x17_2 + 1)) a1_0 a1_1 a1_2)) = some r := by rw [if_pos rfl] at H; exact H
          clear H
          have H := H1
          clear H1
          by_cases c11 : x8_2 = true
          ·subst c11
           have H1 : (spec_l12Refused.l1 k2 l0 x5_1 x6_1 true true l0 (l0.length : Int) (wrap64 (x17_2 + 1)) a1_0 a1_1 a1_2) = some r := by rw [if_pos rfl] at H; exact H
           clear H
           have H := H1
           clear H1
           have H' := Aside0.mk H
           clear H
           have p158 : 0 ≤ (x17_2 : Int) := da
           have q158 : x17_2 < (l0.length : Int) := da
           obtain ⟨ad158, e158, hx158_0, hx158_1, hx158_2, hx158_3, hx158_4⟩ := at_T91 HR0.out x17_2 p158 q158
           cases e158
           replace hx158_0 := (HB.out.cell (World.block_lt_of_cell? w _ hx158_0)).trans hx158_0
           replace hx158_1 := (HB.out.cell (World.block_lt_of_cell? w _ hx158_1)).trans hx158_1
           replace hx158_2 := (HB.out.cell (World.block_lt_of_cell? w _ hx158_2)).trans hx158_2
           replace hx158_3 := (HB.out.cell (World.block_lt_of_cell? w _ hx158_3)).trans hx158_3
           replace hx158_4 := (HB.out.cell (World.block_lt_of_cell? w _ hx158_4)).trans hx158_4
           replace p158 := eq_true p158; replace q158 := eq_true q158
           go_wp2_with (first | ((with_reducible refine gate_dst (N := 10) rfl ?_); refine boxev 10 #[.int .i64 0, .int .i64 0, .int .i64 0, .int .i64 0, .bool false] 91 ?_; intro gb159 hg w12 hbox hb; replace HO_5 := ak (Kd.R_below (rdl HO_5) hb); have BK159 := ak (hbox); have GW159 := ak (hgl hg (belowg1 HB GE157)); have GE159 := ak (hgl hg (belowg1 HB GE157)); replace HB := ak (below_step (belowg1 HB GE157) hb); have NB157_159 := ak ((by rw [hg]; exact Nat.ne_of_lt (blk_lt (blkd BK157)) : gb157 ≠ gb159)); have NB159_157 := ak ((by rw [hg]; exact Nat.ne_of_gt (blk_lt (blkd BK157)) : gb159 ≠ gb157)); replace BK157 := ak (blk_below (blkd BK157) hb); clear hb hbox hg; have hnb13 := NB159_157.out; have hnc13 := NB157_159.out; obtain ⟨hcz14_0, hcz14_1, hcz14_2, hcz14_3, hcz14_4, hfz14_0, hfz14_1, hfz14_2, hfz14_3, hfz14_4⟩ := box5 BK159; obtain ⟨hcz15_0, hcz15_1, hcz15_2, hfz15_0, hfz15_1, hfz15_2⟩ := box3 BK157))
           go_roundg k2
           case measure => have := HK1.out; have := HK2.out; omega
           case rel => exact ⟨(true), (true), (wrap64 (x17_2 + 1)), er, er, er, H', ⟨by have := HK1.out; have := HK2.out; omega⟩, ⟨by (with_reducible repeat (first | apply Kd.R_alloc | apply Kd.R_drewN | apply Kd.R_drew)); exact Kd.R_mono (farsR (Kd.R_types HO_5.out BK159.out (by decide))) (fun _ hk => trivial)⟩, ⟨by (with_reducible repeat (first | refine blk_drewN ?_ _ | refine blk_drew ?_ | refine blk_alloc ?_ _)); refine blk_far ?_ NB157_159.out _; (with_reducible repeat (first | refine blk_drewN ?_ _ | refine blk_drew ?_ | refine blk_alloc ?_ _)); refine blk_far ?_ NB157_159.out _; (with_reducible repeat (first | refine blk_drewN ?_ _ | refine blk_drew ?_ | refine blk_alloc ?_ _)); refine blk_far ?_ NB157_159.out _; (with_reducible repeat (first | refine blk_drewN ?_ _ | refine blk_drew ?_ | refine blk_alloc ?_ _)); refine blk_far ?_ NB157_159.out _; (with_reducible repeat (first | refine blk_drewN ?_ _ | refine blk_drew ?_ | refine blk_alloc ?_ _)); refine blk_far ?_ NB157_159.out _; (with_reducible repeat (first | refine blk_drewN ?_ _ | refine blk_drew ?_ | refine blk_alloc ?_ _)); exact BK157.out⟩, ⟨belowg2 HB GE157 GE159⟩⟩
          ·replace c11 := Bool.eq_false_iff.mpr c11
           subst c11
           have H1 : (spec_l12Refused.l1 k2 l0 x5_1 x6_1 true (!((rd_T91 l0 x17_2).f2)) l0 (l0.length : Int) (wrap64 (x17_2 + 1)) a1_0 a1_1 a1_2) = some r := by rw [if_neg (show ¬ (false = true) by decide)] at H; exact H
           clear H
           have H := H1
           clear H1
           have H' := Aside0.mk H
           clear H
           have p158 : 0 ≤ (x17_2 : Int) := da
           have q158 : x17_2 < (l0.length : Int) := da
           obtain ⟨ad158, e158, hx158_0, hx158_1, hx158_2, hx158_3, hx158_4⟩ := at_T91 HR0.out x17_2 p158 q158
           cases e158
           replace hx158_0 := (HB.out.cell (World.block_lt_of_cell? w _ hx158_0)).trans hx158_0
           replace hx158_1 := (HB.out.cell (World.block_lt_of_cell? w _ hx158_1)).trans hx158_1
           replace hx158_2 := (HB.out.cell (World.block_lt_of_cell? w _ hx158_2)).trans hx158_2
           replace hx158_3 := (HB.out.cell (World.block_lt_of_cell? w _ hx158_3)).trans hx158_3
           replace hx158_4 := (HB.out.cell (World.block_lt_of_cell? w _ hx158_4)).trans hx158_4
           replace p158 := eq_true p158; replace q158 := eq_true q158
           go_wp2_with (first | ((with_reducible refine gate_dst (N := 10) rfl ?_); refine boxev 10 #[.int .i64 0, .int .i64 0, .int .i64 0, .int .i64 0, .bool false] 91 ?_; intro gb159 hg w16 hbox hb; replace HO_5 := ak (Kd.R_below (rdl HO_5) hb); have BK159 := ak (hbox); have GW159 := ak (hgl hg (belowg1 HB GE157)); have GE159 := ak (hgl hg (belowg1 HB GE157)); replace HB := ak (below_step (belowg1 HB GE157) hb); have NB157_159 := ak ((by rw [hg]; exact Nat.ne_of_lt (blk_lt (blkd BK157)) : gb157 ≠ gb159)); have NB159_157 := ak ((by rw [hg]; exact Nat.ne_of_gt (blk_lt (blkd BK157)) : gb159 ≠ gb157)); replace BK157 := ak (blk_below (blkd BK157) hb); clear hb hbox hg; have hnb17 := NB159_157.out; have hnc17 := NB157_159.out; obtain ⟨hcz18_0, hcz18_1, hcz18_2, hcz18_3, hcz18_4, hfz18_0, hfz18_1, hfz18_2, hfz18_3, hfz18_4⟩ := box5 BK159; obtain ⟨hcz19_0, hcz19_1, hcz19_2, hfz19_0, hfz19_1, hfz19_2⟩ := box3 BK157))
           go_roundg k2
           case measure => have := HK1.out; have := HK2.out; omega
           case rel => exact ⟨(true), (!((rd_T91 l0 x17_2).f2)), (wrap64 (x17_2 + 1)), er, er, er, H', ⟨by have := HK1.out; have := HK2.out; omega⟩, ⟨by (with_reducible repeat (first | apply Kd.R_alloc | apply Kd.R_drewN | apply Kd.R_drew)); exact Kd.R_mono (farsR (Kd.R_types HO_5.out BK159.out (by decide))) (fun _ hk => trivial)⟩, ⟨by (with_reducible repeat (first | refine blk_drewN ?_ _ | refine blk_drew ?_ | refine blk_alloc ?_ _)); refine blk_far ?_ NB157_159.out _; (with_reducible repeat (first | refine blk_drewN ?_ _ | refine blk_drew ?_ | refine blk_alloc ?_ _)); refine blk_far ?_ NB157_159.out _; (with_reducible repeat (first | refine blk_drewN ?_ _ | refine blk_drew ?_ | refine blk_alloc ?_ _)); refine blk_far ?_ NB157_159.out _; (with_reducible repeat (first | refine blk_drewN ?_ _ | refine blk_drew ?_ | refine blk_alloc ?_ _)); refine blk_far ?_ NB157_159.out _; (with_reducible repeat (first | refine blk_drewN ?_ _ | refine blk_drew ?_ | refine blk_alloc ?_ _)); refine blk_far ?_ NB157_159.out _; (with_reducible repeat (first | refine blk_drewN ?_ _ | refine blk_drew ?_ | refine blk_alloc ?_ _)); exact BK157.out⟩, ⟨belowg2 HB GE157 GE159⟩⟩
         ·replace c10 := Bool.eq_false_iff.mpr c10
          subst c10
          have H1 : (if x8_2 = true then (spec_l12Refused.l1 k2 l0 x5_1 x6_1 ((rd_T91 l0 x17_2).f2) true l0 (l0.length : Int) (wrap64 (x17_2 + 1)) a1_0 a1_1 a1_2) else (spec_l12Refused.l1 k2 l0 x5_1 x6_1 ((rd_T91 l0 x17_2).f2) (!((rd_T91 l0 x17_2).f2)) l0 (l0.length : Int) (wrap64 (x17_2 + 1)) a1_0 a1_1 a1_2)) = some r := by rw [if_neg (show ¬ (false = true) by decide)] at H; exact H
          clear H
          have H := H1
          clear H1
          by_cases c20 : x8_2 = true
          ·subst c20
           have H1 : (spec_l12Refused.l1 k2 l0 x5_1 x6_1 ((rd_T91 l0 x17_2).f2) true l0 (l0.length : Int) (wrap64 (x17_2 + 1)) a1_0 a1_1 a1_2) = some r := by rw [if_pos rfl] at H; exact H
           clear H
           have H := H1
           clear H1
           have H' := Aside0.mk H
           clear H
           have p158 : 0 ≤ (x17_2 : Int) := da
           have q158 : x17_2 < (l0.length : Int) := da
           obtain ⟨ad158, e158, hx158_0, hx158_1, hx158_2, hx158_3, hx158_4⟩ := at_T91 HR0.out x17_2 p158 q158
           cases e158
           replace hx158_0 := (HB.out.cell (World.block_lt_of_cell? w _ hx158_0)).trans hx158_0
           replace hx158_1 := (HB.out.cell (World.block_lt_of_cell? w _ hx158_1)).trans hx158_1
           replace hx158_2 := (HB.out.cell (World.block_lt_of_cell? w _ hx158_2)).trans hx158_2
           replace hx158_3 := (HB.out.cell (World.block_lt_of_cell? w _ hx158_3)).trans hx158_3
           replace hx158_4 := (HB.out.cell (World.block_lt_of_cell? w _ hx158_4)).trans hx158_4
           replace p158 := eq_true p158; replace q158 := eq_true q158
           go_wp2_with (first | ((with_reducible refine gate_dst (N := 10) rfl ?_); refine boxev 10 #[.int .i64 0, .int .i64 0, .int .i64 0, .int .i64 0, .bool false] 91 ?_; intro gb159 hg w21 hbox hb; replace HO_5 := ak (Kd.R_below (rdl HO_5) hb); have BK159 := ak (hbox); have GW159 := ak (hgl hg (belowg1 HB GE157)); have GE159 := ak (hgl hg (belowg1 HB GE157)); replace HB := ak (below_step (belowg1 HB GE157) hb); have NB157_159 := ak ((by rw [hg]; exact Nat.ne_of_lt (blk_lt (blkd BK157)) : gb157 ≠ gb159)); have NB159_157 := ak ((by rw [hg]; exact Nat.ne_of_gt (blk_lt (blkd BK157)) : gb159 ≠ gb157)); replace BK157 := ak (blk_below (blkd BK157) hb); clear hb hbox hg; have hnb22 := NB159_157.out; have hnc22 := NB157_159.out; obtain ⟨hcz23_0, hcz23_1, hcz23_2, hcz23_3, hcz23_4, hfz23_0, hfz23_1, hfz23_2, hfz23_3, hfz23_4⟩ := box5 BK159; obtain ⟨hcz24_0, hcz24_1, hcz24_2, hfz24_0, hfz24_1, hfz24_2⟩ := box3 BK157))
           go_roundg k2
           case measure => have := HK1.out; have := HK2.out; omega
           case rel => exact ⟨((rd_T91 l0 x17_2).f2), (true), (wrap64 (x17_2 + 1)), er, er, er, H', ⟨by have := HK1.out; have := HK2.out; omega⟩, ⟨by (with_reducible repeat (first | apply Kd.R_alloc | apply Kd.R_drewN | apply Kd.R_drew)); exact Kd.R_mono (farsR (Kd.R_types HO_5.out BK159.out (by decide))) (fun _ hk => trivial)⟩, ⟨by (with_reducible repeat (first | refine blk_drewN ?_ _ | refine blk_drew ?_ | refine blk_alloc ?_ _)); refine blk_far ?_ NB157_159.out _; (with_reducible repeat (first | refine blk_drewN ?_ _ | refine blk_drew ?_ | refine blk_alloc ?_ _)); refine blk_far ?_ NB157_159.out _; (with_reducible repeat (first | refine blk_drewN ?_ _ | refine blk_drew ?_ | refine blk_alloc ?_ _)); refine blk_far ?_ NB157_159.out _; (with_reducible repeat (first | refine blk_drewN ?_ _ | refine blk_drew ?_ | refine blk_alloc ?_ _)); refine blk_far ?_ NB157_159.out _; (with_reducible repeat (first | refine blk_drewN ?_ _ | refine blk_drew ?_ | refine blk_alloc ?_ _)); refine blk_far ?_ NB157_159.out _; (with_reducible repeat (first | refine blk_drewN ?_ _ | refine blk_drew ?_ | refine blk_alloc ?_ _)); exact BK157.out⟩, ⟨belowg2 HB GE157 GE159⟩⟩
          ·replace c20 := Bool.eq_false_iff.mpr c20
           subst c20
           have H1 : (spec_l12Refused.l1 k2 l0 x5_1 x6_1 ((rd_T91 l0 x17_2).f2) (!((rd_T91 l0 x17_2).f2)) l0 (l0.length : Int) (wrap64 (x17_2 + 1)) a1_0 a1_1 a1_2) = some r := by rw [if_neg (show ¬ (false = true) by decide)] at H; exact H
           clear H
           have H := H1
           clear H1
           have H' := Aside0.mk H
           clear H
           have p158 : 0 ≤ (x17_2 : Int) := da
           have q158 : x17_2 < (l0.length : Int) := da
           obtain ⟨ad158, e158, hx158_0, hx158_1, hx158_2, hx158_3, hx158_4⟩ := at_T91 HR0.out x17_2 p158 q158
           cases e158
           replace hx158_0 := (HB.out.cell (World.block_lt_of_cell? w _ hx158_0)).trans hx158_0
           replace hx158_1 := (HB.out.cell (World.block_lt_of_cell? w _ hx158_1)).trans hx158_1
           replace hx158_2 := (HB.out.cell (World.block_lt_of_cell? w _ hx158_2)).trans hx158_2
           replace hx158_3 := (HB.out.cell (World.block_lt_of_cell? w _ hx158_3)).trans hx158_3
           replace hx158_4 := (HB.out.cell (World.block_lt_of_cell? w _ hx158_4)).trans hx158_4
           replace p158 := eq_true p158; replace q158 := eq_true q158
           go_wp2_with (first | ((with_reducible refine gate_dst (N := 10) rfl ?_); refine boxev 10 #[.int .i64 0, .int .i64 0, .int .i64 0, .int .i64 0, .bool false] 91 ?_; intro gb159 hg w25 hbox hb; replace HO_5 := ak (Kd.R_below (rdl HO_5) hb); have BK159 := ak (hbox); have GW159 := ak (hgl hg (belowg1 HB GE157)); have GE159 := ak (hgl hg (belowg1 HB GE157)); replace HB := ak (below_step (belowg1 HB GE157) hb); have NB157_159 := ak ((by rw [hg]; exact Nat.ne_of_lt (blk_lt (blkd BK157)) : gb157 ≠ gb159)); have NB159_157 := ak ((by rw [hg]; exact Nat.ne_of_gt (blk_lt (blkd BK157)) : gb159 ≠ gb157)); replace BK157 := ak (blk_below (blkd BK157) hb); clear hb hbox hg; have hnb26 := NB159_157.out; have hnc26 := NB157_159.out; obtain ⟨hcz27_0, hcz27_1, hcz27_2, hcz27_3, hcz27_4, hfz27_0, hfz27_1, hfz27_2, hfz27_3, hfz27_4⟩ := box5 BK159; obtain ⟨hcz28_0, hcz28_1, hcz28_2, hfz28_0, hfz28_1, hfz28_2⟩ := box3 BK157))
           go_roundg k2
           case measure => have := HK1.out; have := HK2.out; omega
           case rel => exact ⟨((rd_T91 l0 x17_2).f2), (!((rd_T91 l0 x17_2).f2)), (wrap64 (x17_2 + 1)), er, er, er, H', ⟨by have := HK1.out; have := HK2.out; omega⟩, ⟨by (with_reducible repeat (first | apply Kd.R_alloc | apply Kd.R_drewN | apply Kd.R_drew)); exact Kd.R_mono (farsR (Kd.R_types HO_5.out BK159.out (by decide))) (fun _ hk => trivial)⟩, ⟨by (with_reducible repeat (first | refine blk_drewN ?_ _ | refine blk_drew ?_ | refine blk_alloc ?_ _)); refine blk_far ?_ NB157_159.out _; (with_reducible repeat (first | refine blk_drewN ?_ _ | refine blk_drew ?_ | refine blk_alloc ?_ _)); refine blk_far ?_ NB157_159.out _; (with_reducible repeat (first | refine blk_drewN ?_ _ | refine blk_drew ?_ | refine blk_alloc ?_ _)); refine blk_far ?_ NB157_159.out _; (with_reducible repeat (first | refine blk_drewN ?_ _ | refine blk_drew ?_ | refine blk_alloc ?_ _)); refine blk_far ?_ NB157_159.out _; (with_reducible repeat (first | refine blk_drewN ?_ _ | refine blk_drew ?_ | refine blk_alloc ?_ _)); refine blk_far ?_ NB157_159.out _; (with_reducible repeat (first | refine blk_drewN ?_ _ | refine blk_drew ?_ | refine blk_alloc ?_ _)); exact BK157.out⟩, ⟨belowg2 HB GE157 GE159⟩⟩
        ·rw [if_neg c9] at H
         have c9b0 : (((rd_T91 l0 x17_2).f1.f0) == a1_0 && (((rd_T91 l0 x17_2).f1.f1) == a1_1 && (((rd_T91 l0 x17_2).f1.f2) == a1_2))) = false := by simpa using c9
         (try (have c9b1 : decide (((rd_T91 l0 x17_2).f1.f0) = a1_0 && (((rd_T91 l0 x17_2).f1.f1) == a1_1 && (((rd_T91 l0 x17_2).f1.f2) == a1_2))) = false := by simpa using c9))
         (try (have c9b2 : (((rd_T91 l0 x17_2).f1.f0) == a1_0 && (((rd_T91 l0 x17_2).f1.f1) == a1_1 && (((rd_T91 l0 x17_2).f1.f2) == a1_2))) = false := by simpa using c9))
         (try (have c9b3 : ¬ (((rd_T91 l0 x17_2).f1.f0) = a1_0 && (((rd_T91 l0 x17_2).f1.f1) == a1_1 && (((rd_T91 l0 x17_2).f1.f2) == a1_2))) := by simpa using c9))
         clear c9
         have H' := Aside0.mk H
         clear H
         have p158 : 0 ≤ (x17_2 : Int) := da
         have q158 : x17_2 < (l0.length : Int) := da
         obtain ⟨ad158, e158, hx158_0, hx158_1, hx158_2, hx158_3, hx158_4⟩ := at_T91 HR0.out x17_2 p158 q158
         cases e158
         replace hx158_0 := (HB.out.cell (World.block_lt_of_cell? w _ hx158_0)).trans hx158_0
         replace hx158_1 := (HB.out.cell (World.block_lt_of_cell? w _ hx158_1)).trans hx158_1
         replace hx158_2 := (HB.out.cell (World.block_lt_of_cell? w _ hx158_2)).trans hx158_2
         replace hx158_3 := (HB.out.cell (World.block_lt_of_cell? w _ hx158_3)).trans hx158_3
         replace hx158_4 := (HB.out.cell (World.block_lt_of_cell? w _ hx158_4)).trans hx158_4
         replace p158 := eq_true p158; replace q158 := eq_true q158
         go_wp2_with (first | ((with_reducible refine gate_dst (N := 10) rfl ?_); refine boxev 10 #[.int .i64 0, .int .i64 0, .int .i64 0, .int .i64 0, .bool false] 91 ?_; intro gb159 hg w29 hbox hb; replace HO_5 := ak (Kd.R_below (rdl HO_5) hb); have BK159 := ak (hbox); have GW159 := ak (hgl hg (belowg1 HB GE157)); have GE159 := ak (hgl hg (belowg1 HB GE157)); replace HB := ak (below_step (belowg1 HB GE157) hb); have NB157_159 := ak ((by rw [hg]; exact Nat.ne_of_lt (blk_lt (blkd BK157)) : gb157 ≠ gb159)); have NB159_157 := ak ((by rw [hg]; exact Nat.ne_of_gt (blk_lt (blkd BK157)) : gb159 ≠ gb157)); replace BK157 := ak (blk_below (blkd BK157) hb); clear hb hbox hg; have hnb30 := NB159_157.out; have hnc30 := NB157_159.out; obtain ⟨hcz31_0, hcz31_1, hcz31_2, hcz31_3, hcz31_4, hfz31_0, hfz31_1, hfz31_2, hfz31_3, hfz31_4⟩ := box5 BK159; obtain ⟨hcz32_0, hcz32_1, hcz32_2, hfz32_0, hfz32_1, hfz32_2⟩ := box3 BK157))
         go_roundg k2
         case measure => have := HK1.out; have := HK2.out; omega
         case rel => exact ⟨(x7_2), (x8_2), (wrap64 (x17_2 + 1)), er, er, er, H', ⟨by have := HK1.out; have := HK2.out; omega⟩, ⟨by (with_reducible repeat (first | apply Kd.R_alloc | apply Kd.R_drewN | apply Kd.R_drew)); exact Kd.R_mono (farsR (Kd.R_types HO_5.out BK159.out (by decide))) (fun _ hk => trivial)⟩, ⟨by (with_reducible repeat (first | refine blk_drewN ?_ _ | refine blk_drew ?_ | refine blk_alloc ?_ _)); refine blk_far ?_ NB157_159.out _; (with_reducible repeat (first | refine blk_drewN ?_ _ | refine blk_drew ?_ | refine blk_alloc ?_ _)); refine blk_far ?_ NB157_159.out _; (with_reducible repeat (first | refine blk_drewN ?_ _ | refine blk_drew ?_ | refine blk_alloc ?_ _)); refine blk_far ?_ NB157_159.out _; (with_reducible repeat (first | refine blk_drewN ?_ _ | refine blk_drew ?_ | refine blk_alloc ?_ _)); refine blk_far ?_ NB157_159.out _; (with_reducible repeat (first | refine blk_drewN ?_ _ | refine blk_drew ?_ | refine blk_alloc ?_ _)); refine blk_far ?_ NB157_159.out _; (with_reducible repeat (first | refine blk_drewN ?_ _ | refine blk_drew ?_ | refine blk_alloc ?_ _)); exact BK157.out⟩, ⟨belowg2 HB GE157 GE159⟩⟩
       ·rw [if_neg c8] at H
        have c8b0 : (((rd_T91 l0 x17_2).f0) == x6_1) = false := beq_eq_false_iff_ne.mpr c8
        have c8b1 : (((rd_T91 l0 x17_2).f0) != x6_1) = true := bne_iff_ne.mpr c8
        have H' := Aside0.mk H
        clear H
        have p158 : 0 ≤ (x17_2 : Int) := da
        have q158 : x17_2 < (l0.length : Int) := da
        obtain ⟨ad158, e158, hx158_0, hx158_1, hx158_2, hx158_3, hx158_4⟩ := at_T91 HR0.out x17_2 p158 q158
        cases e158
        replace hx158_0 := (HB.out.cell (World.block_lt_of_cell? w _ hx158_0)).trans hx158_0
        replace hx158_1 := (HB.out.cell (World.block_lt_of_cell? w _ hx158_1)).trans hx158_1
        replace hx158_2 := (HB.out.cell (World.block_lt_of_cell? w _ hx158_2)).trans hx158_2
        replace hx158_3 := (HB.out.cell (World.block_lt_of_cell? w _ hx158_3)).trans hx158_3
        replace hx158_4 := (HB.out.cell (World.block_lt_of_cell? w _ hx158_4)).trans hx158_4
        replace p158 := eq_true p158; replace q158 := eq_true q158
        go_wp2_with (first | ((with_reducible refine gate_dst (N := 10) rfl ?_); refine boxev 10 #[.int .i64 0, .int .i64 0, .int .i64 0, .int .i64 0, .bool false] 91 ?_; intro gb159 hg w33 hbox hb; replace HO_5 := ak (Kd.R_below (rdl HO_5) hb); have BK159 := ak (hbox); have GW159 := ak (hgl hg (belowg1 HB GE157)); have GE159 := ak (hgl hg (belowg1 HB GE157)); replace HB := ak (below_step (belowg1 HB GE157) hb); have NB157_159 := ak ((by rw [hg]; exact Nat.ne_of_lt (blk_lt (blkd BK157)) : gb157 ≠ gb159)); have NB159_157 := ak ((by rw [hg]; exact Nat.ne_of_gt (blk_lt (blkd BK157)) : gb159 ≠ gb157)); replace BK157 := ak (blk_below (blkd BK157) hb); clear hb hbox hg; have hnb34 := NB159_157.out; have hnc34 := NB157_159.out; obtain ⟨hcz35_0, hcz35_1, hcz35_2, hcz35_3, hcz35_4, hfz35_0, hfz35_1, hfz35_2, hfz35_3, hfz35_4⟩ := box5 BK159))
        go_roundg k2
        case measure => have := HK1.out; have := HK2.out; omega
        case rel => exact ⟨(x7_2), (x8_2), (wrap64 (x17_2 + 1)), er, er, er, H', ⟨by have := HK1.out; have := HK2.out; omega⟩, ⟨by (with_reducible repeat (first | apply Kd.R_alloc | apply Kd.R_drewN | apply Kd.R_drew)); exact Kd.R_mono (farsR (Kd.R_types HO_5.out BK159.out (by decide))) (fun _ hk => trivial)⟩, ⟨by (with_reducible repeat (first | refine blk_drewN ?_ _ | refine blk_drew ?_ | refine blk_alloc ?_ _)); refine blk_far ?_ NB157_159.out _; (with_reducible repeat (first | refine blk_drewN ?_ _ | refine blk_drew ?_ | refine blk_alloc ?_ _)); refine blk_far ?_ NB157_159.out _; (with_reducible repeat (first | refine blk_drewN ?_ _ | refine blk_drew ?_ | refine blk_alloc ?_ _)); refine blk_far ?_ NB157_159.out _; (with_reducible repeat (first | refine blk_drewN ?_ _ | refine blk_drew ?_ | refine blk_alloc ?_ _)); refine blk_far ?_ NB157_159.out _; (with_reducible repeat (first | refine blk_drewN ?_ _ | refine blk_drew ?_ | refine blk_alloc ?_ _)); refine blk_far ?_ NB157_159.out _; (with_reducible repeat (first | refine blk_drewN ?_ _ | refine blk_drew ?_ | refine blk_alloc ?_ _)); exact BK157.out⟩, ⟨belowg2 HB GE157 GE159⟩⟩
      ·rw [if_neg c5] at H
       have c5b0 : decide (x17_2 < (l0.length : Int)) = false := decide_eq_false c5
       clear c5
       by_cases c36 : x7_2 = true
       ·subst c36
        have H1 : (if x8_2 = true then (spec_l12Refused.l0 k2 l0 x5_1 (wrap64 (x6_1 + 1)) a1_0 a1_1 a1_2) else (if x5_1.length < 17592186044416 then (spec_l12Refused.l0 k2 l0 (x5_1 ++ [x6_1]) (wrap64 (x6_1 + 1)) a1_0 a1_1 a1_2) else (none))) = some r := by rw [if_pos rfl] at H; exact H
        clear H
        have H := H1
        clear H1
        by_cases c37 : x8_2 = true
        ·subst c37
         have H1 : (spec_l12Refused.l0 k2 l0 x5_1 (wrap64 (x6_1 + 1)) a1_0 a1_1 a1_2) = some r := by rw [if_pos rfl] at H; exact H
         clear H
         have H := H1
         clear H1
         have H' := Aside0.mk H
         clear H; go_wp2
         go_roundg k2
         case measure => have := HK1.out; have := HK2.out; omega
         case rel => exact ⟨(x5_1), (wrap64 (x6_1 + 1)), er, H', ⟨by have := HK1.out; have := HK2.out; omega⟩, ⟨rdl HO_5⟩, ⟨blkd BK157⟩, ⟨belowg1 HB GE157⟩⟩
        ·replace c37 := Bool.eq_false_iff.mpr c37
         subst c37
         have H1 : (if x5_1.length < 17592186044416 then (spec_l12Refused.l0 k2 l0 (x5_1 ++ [x6_1]) (wrap64 (x6_1 + 1)) a1_0 a1_1 a1_2) else (none)) = some r := by rw [if_neg (show ¬ (false = true) by decide)] at H; exact H
         clear H
         have H := H1
         clear H1; replace H := ifS H; obtain ⟨c38, H⟩ := H; have LMc38 := Aside0.mk c38; clear c38
         obtain ⟨y160, hy_⟩ : ∃ y_ : List Int, y_ = (x5_1 ++ [x6_1]) := ⟨_, rfl⟩
         replace H : (spec_l12Refused.l0 k2 l0 y160 (wrap64 (x6_1 + 1)) a1_0 a1_1 a1_2) = some r := yH
         have Ny160 := ak hy_; clear hy_
         have H' := Aside0.mk H
         clear H
         go_wp2_with (first | ((with_reducible refine gate_builtin (b := .append) (xs := #[.tmp 48, .tmp 50]) rfl ?_); at_builtin; refine Kd.R_append (Kd.int .i64) (w0 := w) w.heap.size rfl (.tmp 48) (.tmp 50) 23 3 (.int .i64 0) 8 rfl Try.underlying23 info3 rfl (by decide) (by omega) u5 x5_1 x6_1 [.int .i64 x6_1] (fun _ => True) (fun _ => False) rfl rfl ?aP (fun _ hk => hk.elim) ?aF ?aO ?aB ?aS ?aL ?_; (case aP => exact rfl); (case aB => exact (belowg1 HB GE157)); (case aF => exact (fun _ _ => trivial)); (case aO => exact (rdl HO_5)); (case aS => exact (below_size (belowg1 HB GE157))); (case aL => have := LMc38.out; omega); intro v161 w39 ho hb hg hat; rw [← Ny160.out] at ho; replace BK157 := ak (blk_grown (blkd BK157) hg (Kd.R_ne HO_5.out BK157.out (by decide))); replace HB := ak (hb); have HO162 := ak (ho); clear HO_5; clear ho hb hg hat))
         go_roundg k2
         case measure => have := HK1.out; have := HK2.out; omega
         case rel => exact ⟨(y160), (wrap64 (x6_1 + 1)), er, H', ⟨by have := HK1.out; have := HK2.out; omega⟩, ⟨rdl HO162⟩, ⟨blkd BK157⟩, ⟨belowg1 HB GE157⟩⟩
       ·replace c36 := Bool.eq_false_iff.mpr c36
        subst c36
        have H1 : (spec_l12Refused.l0 k2 l0 x5_1 (wrap64 (x6_1 + 1)) a1_0 a1_1 a1_2) = some r := by rw [if_neg (show ¬ (false = true) by decide)] at H; exact H
        clear H
        have H := H1
        clear H1
        have H' := Aside0.mk H
        clear H; go_wp2
        go_roundg k2
        case measure => have := HK1.out; have := HK2.out; omega
        case rel => exact ⟨(x5_1), (wrap64 (x6_1 + 1)), er, H', ⟨by have := HK1.out; have := HK2.out; omega⟩, ⟨rdl HO_5⟩, ⟨blkd BK157⟩, ⟨belowg1 HB GE157⟩⟩
   ·rw [if_neg c4] at H
    have c4b0 : decide (x6_1 < 7) = false := decide_eq_false c4
    clear c4
    obtain rfl := Option.some.inj H
    go_wp2
    go_ret
    exact ⟨_, er2, by (with_reducible repeat (first | apply Kd.R_alloc | apply Kd.R_drewN | apply Kd.R_drew)); exact HO_5.out, belowg1 HB GE157⟩

/-! ### spec_l14Debits: function 154 -/
def spec_l14Debits.l0 : Nat → Int → List (S91) → Int → List (S85) → List (S85) → Int → Int → Option ((List (S85)))
  | 0, _, _, _, _, _, _, _ => none
  | k + 1, x0, x1, x2, x7, x11, x12, x13 => if x13 < x12 then (if 0 ≤ x13 then (if x13 < (x11.length : Int) then (if ((rd_T85 x11 x13).f0) = x2 then ((spec_l12Refused.f k x1 ((rd_T85 x11 x13).f0) ((rd_T85 x11 x13).f1) ((rd_T85 x11 x13).f2)).bind fun t168 => (if (t168.length : Int) > x0 then (if x7.length < 5864062014805 then (spec_l14Debits.l0 k x0 x1 x2 (x7 ++ [(⟨(rd_T85 x11 x13).f0, (rd_T85 x11 x13).f1, (rd_T85 x11 x13).f2⟩ : S85)]) x11 x12 (wrap64 (x13 + 1))) else (none)) else (spec_l14Debits.l0 k x0 x1 x2 x7 x11 x12 (wrap64 (x13 + 1))))) else (spec_l14Debits.l0 k x0 x1 x2 x7 x11 x12 (wrap64 (x13 + 1)))) else (none)) else (none)) else (some x7)
def spec_l14Debits.f (k : Nat) (a0 : Int) (l1 : List (S91)) (a2 : Int) : Option ((List (S85))) := (spec_l12Claims.f k l1).bind fun t163 => (spec_l14Debits.l0 k a0 l1 a2 ([] : List (S85)) t163 (t163.length : Int) 0)
theorem spec_l14Debits.mono_l : ∀ k, (∀ y0 y1 y2 y3 y4 y5 y6, LeO (spec_l14Debits.l0 k y0 y1 y2 y3 y4 y5 y6) (spec_l14Debits.l0 (k + 1) y0 y1 y2 y3 y4 y5 y6))
 | 0 => fun _ _ _ _ _ _ _ r h => by simp [spec_l14Debits.l0] at h
 | k + 1 => by
  have ih0 := spec_l14Debits.mono_l k
  ·intro y0 y1 y2 y3 y4 y5 y6
   unfold spec_l14Debits.l0
   repeat' (first | (with_reducible first | exact ih0 _ _ _ _ _ _ _ | exact spec_l12Claims.mono _ _ | exact spec_l12Refused.mono _ _ _ _ _ | exact LeO.refl _ | exact LeO.none _ | refine LeO.ite ?_ ?_ | refine LeO.bind ?_ (fun _ => ?_)) | exact ih0 _ _ _ _ _ _ _ | exact spec_l12Claims.mono _ _ | exact spec_l12Refused.mono _ _ _ _ _ | exact LeO.none _ | refine LeO.ite ?_ ?_ | refine LeO.bind ?_ (fun _ => ?_))
theorem spec_l14Debits.mono : ∀ a0 a1 a2 k, LeO (spec_l14Debits.f k a0 a1 a2) (spec_l14Debits.f (k + 1) a0 a1 a2) := by
 intro a0 a1 a2 k
 have ih0 := spec_l14Debits.mono_l k
 unfold spec_l14Debits.f
 repeat' (first | (with_reducible first | exact ih0 _ _ _ _ _ _ _ | exact spec_l12Claims.mono _ _ | exact spec_l12Refused.mono _ _ _ _ _ | exact LeO.refl _ | exact LeO.none _ | refine LeO.ite ?_ ?_ | refine LeO.bind ?_ (fun _ => ?_)) | exact ih0 _ _ _ _ _ _ _ | exact spec_l12Claims.mono _ _ | exact spec_l12Refused.mono _ _ _ _ _ | exact LeO.none _ | refine LeO.ite ?_ ?_ | refine LeO.bind ?_ (fun _ => ?_))
set_option maxHeartbeats 8000000 in
set_option maxRecDepth 100000 in
theorem spec_l14Debits.calls (k : Nat) (a0 : Int) (A1 : Option Addr) (c1 : Nat) (l1 : List (S91)) (a2 : Int) (r : List (S85)) (w : World) (hr1 : Kd.C k91 w A1 l1.length l1) (hc1 : l1.length ≤ c1) (h : spec_l14Debits.f k a0 l1 a2 = some r) :
  Calls Try.prog 154 #[.int .i64 a0, .slice A1 l1.length c1, .int .i64 a2] w fun e w' => ∃ v0_ : Value, e = .returned (v0_) ∧ Kd.R k85 85 w' w.heap.size (fun _ => True) v0_ r ∧ Below w.heap.size w w' := by
 have hu85 := Try.underlying85
 have HR1 := Aside0.mk hr1; have HC1 := Aside0.mk hc1; clear hr1 hc1
 have HB := Aside0.mk (Below.refl w.heap.size w)
 have H : ((spec_l12Claims.f k l1).bind fun t163 => (spec_l14Debits.l0 k a0 l1 a2 ([] : List (S85)) t163 (t163.length : Int) 0)) = some r := h
 clear h; replace H := bS H; obtain ⟨t163, A4, H⟩ := H
 replace H : (spec_l14Debits.l0 k a0 l1 a2 ([] : List (S85)) t163 (t163.length : Int) 0) = some r := H
 have H' := Aside0.mk H
 clear H
 go_enter Try.func154, Try.ntmps154
 go_wp2_with (first | ((with_reducible refine gate_callee (f := 136) rfl ?_); refine goesLa (some 11) rfl Try.func136 #[.slice A1 l1.length c1] rfl ?_; (with_reducible refine (spec_l12Claims.calls k _ _ l1 t163 _ ?side1 ?side2 A4.out).mono ?_); (case side1 => exact cd HR1.out); (case side2 => exact HC1.out); rintro e w5 ⟨v164, rfl, ho0, hb⟩; refine ⟨_, rfl, ?_⟩; have HO165 := ak (Kd.R_lower ho0 (below_size (belowd HB))); replace HB := ak (below_step (belowd HB) hb); (try clear hb); (try clear ho0); obtain ⟨Ao6, co6, eo6⟩ := Kd.R_slice HO165.out; subst eo6))
 go_loopg [7, 13] k (fun kq v7 v13 w' => ∃ (x7_1 : List (S85)) (x13_1 : Int), v13 = .int .i64 x13_1 ∧ Aside0 (spec_l14Debits.l0 kq a0 l1 a2 x7_1 t163 (t163.length : Int) x13_1 = some r) ∧ Aside0 (kq ≤ k) ∧ Aside0 (Kd.R k85 85 w' w.heap.size (fun k_ => some k_ ≠ ((.slice Ao6 t163.length co6) : Value).ownBlock) v7 x7_1) ∧ Aside0 (Kd.R k85 85 w' w.heap.size (fun k_ => some k_ ≠ (v7 : Value).ownBlock) (.slice Ao6 t163.length co6) t163) ∧ Aside0 (Below w.heap.size w w'))
 case atStart => exact ⟨(([] : List (S85))), (0), er, H', ⟨Nat.le_refl _⟩, ⟨by first | exact Kd.R_nil _ _ _ _ _ | exact Kd.N_nil _ _ _ _ _ | exact Kd.V_nil _ _ _ _ _ | exact Kd.Q_nil _ _ _ _ _ | exact Kd.S_nil _ _ _ _ _⟩, ⟨by (with_reducible repeat (first | apply Kd.R_alloc | apply Kd.R_drewN | apply Kd.R_drew)); exact Kd.R_mono HO165.out (fun _ hk => (by simp [Value.ownBlock]))⟩, ⟨belowd HB⟩⟩
 case round =>
  clear H'
  (try clear c1)
  obtain ⟨x7_1, x13_1, rfl, HA, HK1, HO_7, HO_11, HB⟩ := hrel
  cases gk with
  | zero => exact absurd HA.out (by simp [spec_l14Debits.l0])
  | succ k1 =>
   have H := HA.out; clear HA
   simp only [spec_l14Debits.l0] at H
   by_cases c7 : x13_1 < (t163.length : Int)
   ·rw [if_pos c7] at H
    have c7b0 : decide (x13_1 < (t163.length : Int)) = true := decide_eq_true c7
    clear c7; replace H := ifS H; obtain ⟨c8, H⟩ := H; have c8b0 := decide_eq_true c8; clear c8; replace H := ifS H; obtain ⟨c9, H⟩ := H; have c9b0 := decide_eq_true c9; clear c9
    by_cases c10 : ((rd_T85 t163 x13_1).f0) = a2
    ·rw [if_pos c10] at H
     have c10b0 : (((rd_T85 t163 x13_1).f0) == a2) = true := beq_iff_eq.mpr c10
     have c10b1 : (((rd_T85 t163 x13_1).f0) != a2) = false := bne_eq_false_iff_eq.mpr c10
     clear c10; replace H := bS H; obtain ⟨t168, A11, H⟩ := H
     replace H : (if (t168.length : Int) > a0 then (if x7_1.length < 5864062014805 then (spec_l14Debits.l0 k1 a0 l1 a2 (x7_1 ++ [(⟨(rd_T85 t163 x13_1).f0, (rd_T85 t163 x13_1).f1, (rd_T85 t163 x13_1).f2⟩ : S85)]) t163 (t163.length : Int) (wrap64 (x13_1 + 1))) else (none)) else (spec_l14Debits.l0 k1 a0 l1 a2 x7_1 t163 (t163.length : Int) (wrap64 (x13_1 + 1)))) = some r := H
     by_cases c12 : (t168.length : Int) > a0
     ·rw [if_pos c12] at H
      have c12b0 : decide (a0 < (t168.length : Int)) = true := decide_eq_true c12
      clear c12; replace H := ifS H; obtain ⟨c13, H⟩ := H; have LMc13 := Aside0.mk c13; clear c13
      obtain ⟨y171, hy_⟩ : ∃ y_ : List (S85), y_ = (x7_1 ++ [(⟨(rd_T85 t163 x13_1).f0, (rd_T85 t163 x13_1).f1, (rd_T85 t163 x13_1).f2⟩ : S85)]) := ⟨_, rfl⟩
      replace H : (spec_l14Debits.l0 k1 a0 l1 a2 y171 t163 (t163.length : Int) (wrap64 (x13_1 + 1))) = some r := yH
      have Ny171 := ak hy_; clear hy_
      have H' := Aside0.mk H
      clear H
      have p166 : 0 ≤ (x13_1 : Int) := da
      have q166 : x13_1 < (t163.length : Int) := da
      obtain ⟨ad166, e166, hx166_0, hx166_1, hx166_2⟩ := at_T85 (Kd.R_reads' HO_11.out).2.2 x13_1 p166 q166
      cases e166
      replace p166 := eq_true p166; replace q166 := eq_true q166
      go_wp2_with (first | ((with_reducible refine gate_dst (N := 9) rfl ?_); (try (refine gate_guard (by rfl) ?_; dsimp only)); refine boxev 9 #[.int .i64 0, .int .i64 0, .int .i64 0] 85 ?_; intro gb167 hg w14 hbox hb; replace HO_7 := ak (Kd.R_below (Kd.R_elderB (rdl HO_7) gb167 (Nat.le_of_eq hg.symm)) hb); replace HO_11 := ak (Kd.R_below (Kd.R_elderB (rdl HO_11) gb167 (Nat.le_of_eq hg.symm)) hb); have BK167 := ak (hbox); have GW167 := ak (hgl hg (belowd HB)); have GE167 := ak (hgl hg (belowd HB)); replace HB := ak (below_step (belowd HB) hb); clear hb hbox hg; obtain ⟨hcz15_0, hcz15_1, hcz15_2, hfz15_0, hfz15_1, hfz15_2⟩ := box3 BK167) | (go_at_call 207; (with_reducible refine (spec_l12Refused.calls k1 _ _ l1 ((rd_T85 t163 x13_1).f0) ((rd_T85 t163 x13_1).f1) ((rd_T85 t163 x13_1).f2) t168 _ ?side1 ?side2 A11.out).mono ?_); (case side1 => exact Kd.C_below HR1.out (belowg1 HB GE167)); (case side2 => exact HC1.out); rintro e w16 ⟨v169, rfl, ho0, hb⟩; replace HO_7 := ak (Kd.R_below (by (with_reducible repeat (first | apply Kd.R_alloc | apply Kd.R_drewN | apply Kd.R_drew)); exact (Kd.R_mono (farsR (Kd.R_mono HO_7.out (fun k_ hk => (⟨hk, hk.2⟩ : _ ∧ k_ ≠ gb167)))) (fun _ h_ => h_.1))) hb); replace HO_11 := ak (Kd.R_below (by (with_reducible repeat (first | apply Kd.R_alloc | apply Kd.R_drewN | apply Kd.R_drew)); exact (Kd.R_mono (farsR (Kd.R_mono HO_11.out (fun k_ hk => (⟨hk, hk.2⟩ : _ ∧ k_ ≠ gb167)))) (fun _ h_ => h_.1))) hb); have HO170 := ak (Kd.R_lower ho0 (below_size (belowg1 HB GE167))); replace BK167 := ak (blk_below (g := gb167) (o := .cells #[.int .i64 ((rd_T85 t163 x13_1).f0), .int .i64 ((rd_T85 t163 x13_1).f1), .int .i64 ((rd_T85 t163 x13_1).f2)] 85 (0, 0)) (by (with_reducible repeat (first | refine blk_drewN ?_ _ | refine blk_drew ?_ | refine blk_alloc ?_ _)); refine blk_put (cs := #[.int .i64 ((rd_T85 t163 x13_1).f0), .int .i64 ((rd_T85 t163 x13_1).f1), .int .i64 0]) ?_ 2 _ rfl; (with_reducible repeat (first | refine blk_drewN ?_ _ | refine blk_drew ?_ | refine blk_alloc ?_ _)); refine blk_put (cs := #[.int .i64 ((rd_T85 t163 x13_1).f0), .int .i64 0, .int .i64 0]) ?_ 1 _ rfl; (with_reducible repeat (first | refine blk_drewN ?_ _ | refine blk_drew ?_ | refine blk_alloc ?_ _)); refine blk_put (cs := #[.int .i64 0, .int .i64 0, .int .i64 0]) ?_ 0 _ rfl; (with_reducible repeat (first | refine blk_drewN ?_ _ | refine blk_drew ?_ | refine blk_alloc ?_ _)); exact BK167.out) hb); replace HB := ak (below_step (belowg1 HB GE167) hb); (try clear hb); (try clear ho0); obtain ⟨Ao17, co17, eo17⟩ := Kd.R_slice HO170.out; subst eo17; obtain ⟨hcz18_0, hcz18_1, hcz18_2, hfz18_0, hfz18_1, hfz18_2⟩ := box3 BK167) | ((with_reducible refine gate_builtin (b := .append) (xs := #[.tmp 29, .tmp 31]) rfl ?_); (try (refine gate_guard (by rfl) ?_; dsimp only)); at_builtin; refine Kd.R_append k85 (w0 := w) w.heap.size rfl (.tmp 29) (.tmp 31) 70 85 (.agg #[(.int .i64 0), (.int .i64 0), (.int .i64 0)]) 24 rfl Try.underlying70 info85 rfl (by decide) (by omega) u7 x7_1 (⟨(rd_T85 t163 x13_1).f0, (rd_T85 t163 x13_1).f1, (rd_T85 t163 x13_1).f2⟩ : S85) [.int .i64 ((rd_T85 t163 x13_1).f0), .int .i64 ((rd_T85 t163 x13_1).f1), .int .i64 ((rd_T85 t163 x13_1).f2)] (fun k_ => some k_ ≠ (.slice (some ad166) t163.length co6 : Value).ownBlock ∧ k_ ≠ gb167) (fun _ => False) rfl rfl ?aP (fun _ hk => hk.elim) ?aF ?aO ?aB ?aS ?aL ?_; (case aP => exact k85_mkM _ _ _ (⟨(rd_T85 t163 x13_1).f0, (rd_T85 t163 x13_1).f1, (rd_T85 t163 x13_1).f2⟩ : S85)); (case aB => exact (belowg1 HB GE167)); (case aF => exact (fun k_ hk => ⟨Kd.fresh' (Kd.R_lt (rdl HO_11)) k_ hk, Kd.freshB (blkd BK167) k_ hk⟩)); (case aO => exact (rdl HO_7)); (case aS => exact (below_size (belowg1 HB GE167))); (case aL => have := LMc13.out; omega); intro v172 w19 ho hb hg hat; rw [← Ny171.out] at ho; replace HO_11 := ak (Kd.R_after (ok := (fun k_ => k_ ≠ gb167)) (by (with_reducible repeat (first | apply Kd.R_alloc | apply Kd.R_drewN | apply Kd.R_drew)); exact Kd.R_mono HO_11.out (fun _ hk => ⟨hk.2, hk.1⟩)) hg hat); replace BK167 := ak (blk_grown (blkd BK167) hg (Kd.R_away HO_7.out (fun _ hk => hk.2))); replace HO170 := ak (Kd.R_over' (rdl HO170) (Kd.R_typed (rdl HO_7)) (by decide) hg); replace HB := ak (hb); have HO173 := ak (ho); clear HO_7; clear ho hb hg hat))
      go_roundg k1
      case measure => have := HK1.out; omega
      case rel => exact ⟨(y171), (wrap64 (x13_1 + 1)), er, H', ⟨by have := HK1.out; omega⟩, ⟨by (with_reducible repeat (first | apply Kd.R_alloc | apply Kd.R_drewN | apply Kd.R_drew)); exact Kd.R_mono HO173.out (fun _ hk => hk.1)⟩, ⟨by (with_reducible repeat (first | apply Kd.R_alloc | apply Kd.R_drewN | apply Kd.R_drew)); exact Kd.R_mono HO_11.out (fun _ hk => hk.2)⟩, ⟨belowg1 HB GE167⟩⟩
     ·rw [if_neg c12] at H
      have c12b0 : decide (a0 < (t168.length : Int)) = false := decide_eq_false c12
      clear c12
      have H' := Aside0.mk H
      clear H
      have p166 : 0 ≤ (x13_1 : Int) := da
      have q166 : x13_1 < (t163.length : Int) := da
      obtain ⟨ad166, e166, hx166_0, hx166_1, hx166_2⟩ := at_T85 (Kd.R_reads' HO_11.out).2.2 x13_1 p166 q166
      cases e166
      replace p166 := eq_true p166; replace q166 := eq_true q166
      go_wp2_with (first | ((with_reducible refine gate_dst (N := 9) rfl ?_); (try (refine gate_guard (by rfl) ?_; dsimp only)); refine boxev 9 #[.int .i64 0, .int .i64 0, .int .i64 0] 85 ?_; intro gb167 hg w20 hbox hb; replace HO_7 := ak (Kd.R_below (Kd.R_elderB (rdl HO_7) gb167 (Nat.le_of_eq hg.symm)) hb); replace HO_11 := ak (Kd.R_below (Kd.R_elderB (rdl HO_11) gb167 (Nat.le_of_eq hg.symm)) hb); have BK167 := ak (hbox); have GW167 := ak (hgl hg (belowd HB)); have GE167 := ak (hgl hg (belowd HB)); replace HB := ak (below_step (belowd HB) hb); clear hb hbox hg; obtain ⟨hcz21_0, hcz21_1, hcz21_2, hfz21_0, hfz21_1, hfz21_2⟩ := box3 BK167) | (go_at_call 207; (with_reducible refine (spec_l12Refused.calls k1 _ _ l1 ((rd_T85 t163 x13_1).f0) ((rd_T85 t163 x13_1).f1) ((rd_T85 t163 x13_1).f2) t168 _ ?side1 ?side2 A11.out).mono ?_); (case side1 => exact Kd.C_below HR1.out (belowg1 HB GE167)); (case side2 => exact HC1.out); rintro e w22 ⟨v169, rfl, ho0, hb⟩; replace HO_7 := ak (Kd.R_below (by (with_reducible repeat (first | apply Kd.R_alloc | apply Kd.R_drewN | apply Kd.R_drew)); exact (Kd.R_mono (farsR (Kd.R_mono HO_7.out (fun k_ hk => (⟨hk, hk.2⟩ : _ ∧ k_ ≠ gb167)))) (fun _ h_ => h_.1))) hb); replace HO_11 := ak (Kd.R_below (by (with_reducible repeat (first | apply Kd.R_alloc | apply Kd.R_drewN | apply Kd.R_drew)); exact (Kd.R_mono (farsR (Kd.R_mono HO_11.out (fun k_ hk => (⟨hk, hk.2⟩ : _ ∧ k_ ≠ gb167)))) (fun _ h_ => h_.1))) hb); have HO170 := ak (Kd.R_lower ho0 (below_size (belowg1 HB GE167))); replace BK167 := ak (blk_below (g := gb167) (o := .cells #[.int .i64 ((rd_T85 t163 x13_1).f0), .int .i64 ((rd_T85 t163 x13_1).f1), .int .i64 ((rd_T85 t163 x13_1).f2)] 85 (0, 0)) (by (with_reducible repeat (first | refine blk_drewN ?_ _ | refine blk_drew ?_ | refine blk_alloc ?_ _)); refine blk_put (cs := #[.int .i64 ((rd_T85 t163 x13_1).f0), .int .i64 ((rd_T85 t163 x13_1).f1), .int .i64 0]) ?_ 2 _ rfl; (with_reducible repeat (first | refine blk_drewN ?_ _ | refine blk_drew ?_ | refine blk_alloc ?_ _)); refine blk_put (cs := #[.int .i64 ((rd_T85 t163 x13_1).f0), .int .i64 0, .int .i64 0]) ?_ 1 _ rfl; (with_reducible repeat (first | refine blk_drewN ?_ _ | refine blk_drew ?_ | refine blk_alloc ?_ _)); refine blk_put (cs := #[.int .i64 0, .int .i64 0, .int .i64 0]) ?_ 0 _ rfl; (with_reducible repeat (first | refine blk_drewN ?_ _ | refine blk_drew ?_ | refine blk_alloc ?_ _)); exact BK167.out) hb); replace HB := ak (below_step (belowg1 HB GE167) hb); (try clear hb); (try clear ho0); obtain ⟨Ao23, co23, eo23⟩ := Kd.R_slice HO170.out; subst eo23))
      go_roundg k1
      case measure => have := HK1.out; omega
      case rel => exact ⟨(x7_1), (wrap64 (x13_1 + 1)), er, H', ⟨by have := HK1.out; omega⟩, ⟨by (with_reducible repeat (first | apply Kd.R_alloc | apply Kd.R_drewN | apply Kd.R_drew)); exact Kd.R_mono HO_7.out (fun _ hk => hk.1)⟩, ⟨by (with_reducible repeat (first | apply Kd.R_alloc | apply Kd.R_drewN | apply Kd.R_drew)); exact Kd.R_mono HO_11.out (fun _ hk => hk.1)⟩, ⟨belowg1 HB GE167⟩⟩
    ·rw [if_neg c10] at H
     have c10b0 : (((rd_T85 t163 x13_1).f0) == a2) = false := beq_eq_false_iff_ne.mpr c10
     have c10b1 : (((rd_T85 t163 x13_1).f0) != a2) = true := bne_iff_ne.mpr c10
     have H' := Aside0.mk H
     clear H
     have p166 : 0 ≤ (x13_1 : Int) := da
     have q166 : x13_1 < (t163.length : Int) := da
     obtain ⟨ad166, e166, hx166_0, hx166_1, hx166_2⟩ := at_T85 (Kd.R_reads' HO_11.out).2.2 x13_1 p166 q166
     cases e166
     replace p166 := eq_true p166; replace q166 := eq_true q166
     go_wp2_with (first | ((with_reducible refine gate_dst (N := 9) rfl ?_); (try (refine gate_guard (by rfl) ?_; dsimp only)); refine boxev 9 #[.int .i64 0, .int .i64 0, .int .i64 0] 85 ?_; intro gb167 hg w24 hbox hb; replace HO_7 := ak (Kd.R_below (Kd.R_elderB (rdl HO_7) gb167 (Nat.le_of_eq hg.symm)) hb); replace HO_11 := ak (Kd.R_below (Kd.R_elderB (rdl HO_11) gb167 (Nat.le_of_eq hg.symm)) hb); have BK167 := ak (hbox); have GW167 := ak (hgl hg (belowd HB)); have GE167 := ak (hgl hg (belowd HB)); replace HB := ak (below_step (belowd HB) hb); clear hb hbox hg; obtain ⟨hcz25_0, hcz25_1, hcz25_2, hfz25_0, hfz25_1, hfz25_2⟩ := box3 BK167))
     go_roundg k1
     case measure => have := HK1.out; omega
     case rel => exact ⟨(x7_1), (wrap64 (x13_1 + 1)), er, H', ⟨by have := HK1.out; omega⟩, ⟨by (with_reducible repeat (first | apply Kd.R_alloc | apply Kd.R_drewN | apply Kd.R_drew)); exact Kd.R_mono (farsR (Kd.R_mono HO_7.out (fun k_ hk => (⟨hk, hk.2⟩ : _ ∧ k_ ≠ gb167)))) (fun _ hk => hk.1.1)⟩, ⟨by (with_reducible repeat (first | apply Kd.R_alloc | apply Kd.R_drewN | apply Kd.R_drew)); exact Kd.R_mono (farsR (Kd.R_mono HO_11.out (fun k_ hk => (⟨hk, hk.2⟩ : _ ∧ k_ ≠ gb167)))) (fun _ hk => hk.1.1)⟩, ⟨belowg1 HB GE167⟩⟩
   ·rw [if_neg c7] at H
    have c7b0 : decide (x13_1 < (t163.length : Int)) = false := decide_eq_false c7
    clear c7
    obtain rfl := Option.some.inj H
    go_wp2
    go_ret
    exact ⟨_, er2, by (with_reducible repeat (first | apply Kd.R_alloc | apply Kd.R_drewN | apply Kd.R_drew)); exact Kd.R_mono HO_7.out (fun _ hk => trivial), belowd HB⟩

/-! ### spec_DebitsFor: function 66 -/
def spec_DebitsFor.f (k : Nat) (a0 : Int) (l1 : List (S91)) (a2 : Int) : Option ((List (S85)) × Bool) := (spec_l1In.f a0 0 2).bind fun t174 => (if t174 = true then ((spec_l12Good.f k l1).bind fun t175 => (if t175 = true then ((spec_l1In.f a2 0 20).bind fun t176 => (if t176 = true then ((spec_l14Debits.f k a0 l1 a2).bind fun t177 => (some (t177, true))) else (some (([] : List (S85)), false)))) else (some (([] : List (S85)), false)))) else (some (([] : List (S85)), false)))
theorem spec_DebitsFor.mono : ∀ a0 a1 a2 k, LeO (spec_DebitsFor.f k a0 a1 a2) (spec_DebitsFor.f (k + 1) a0 a1 a2) := by
 intro a0 a1 a2 k
 unfold spec_DebitsFor.f
 repeat' (first | (with_reducible first | exact spec_l12Good.mono _ _ | exact spec_l14Debits.mono _ _ _ _ | exact LeO.refl _ | exact LeO.none _ | refine LeO.ite ?_ ?_ | refine LeO.bind ?_ (fun _ => ?_)) | exact spec_l12Good.mono _ _ | exact spec_l14Debits.mono _ _ _ _ | exact LeO.none _ | refine LeO.ite ?_ ?_ | refine LeO.bind ?_ (fun _ => ?_))
set_option maxHeartbeats 8000000 in
set_option maxRecDepth 100000 in
theorem spec_DebitsFor.calls (k : Nat) (a0 : Int) (A1 : Option Addr) (c1 : Nat) (l1 : List (S91)) (a2 : Int) (r1 : List (S85)) (r2 : Bool) (w : World) (hr1 : Kd.C k91 w A1 l1.length l1) (hc1 : l1.length ≤ c1) (h : spec_DebitsFor.f k a0 l1 a2 = some (r1, r2)) :
  Calls Try.prog 66 #[.int .i64 a0, .slice A1 l1.length c1, .int .i64 a2] w fun e w' => ∃ v0_ : Value, e = .returned (.tuple #[v0_, .bool r2]) ∧ Kd.R k85 85 w' w.heap.size (fun _ => True) v0_ r1 ∧ Below w.heap.size w w' := by
 have HR1 := Aside0.mk hr1; have HC1 := Aside0.mk hc1; clear hr1 hc1
 have HB := Aside0.mk (Below.refl w.heap.size w)
 have H : ((spec_l1In.f a0 0 2).bind fun t174 => (if t174 = true then ((spec_l12Good.f k l1).bind fun t175 => (if t175 = true then ((spec_l1In.f a2 0 20).bind fun t176 => (if t176 = true then ((spec_l14Debits.f k a0 l1 a2).bind fun t177 => (some (t177, true))) else (some (([] : List (S85)), false)))) else (some (([] : List (S85)), false)))) else (some (([] : List (S85)), false)))) = some (r1, r2) := h
 clear h; replace H := bS H; obtain ⟨t174, A4, H⟩ := H
 replace H : (if t174 = true then ((spec_l12Good.f k l1).bind fun t175 => (if t175 = true then ((spec_l1In.f a2 0 20).bind fun t176 => (if t176 = true then ((spec_l14Debits.f k a0 l1 a2).bind fun t177 => (some (t177, true))) else (some (([] : List (S85)), false)))) else (some (([] : List (S85)), false)))) else (some (([] : List (S85)), false))) = some (r1, r2) := H
 by_cases c5 : t174 = true
 ·subst c5
  have H1 : ((spec_l12Good.f k l1).bind fun t175 => (if t175 = true then ((spec_l1In.f a2 0 20).bind fun t176 => (if t176 = true then ((spec_l14Debits.f k a0 l1 a2).bind fun t177 => (some (t177, true))) else (some (([] : List (S85)), false)))) else (some (([] : List (S85)), false)))) = some (r1, r2) := by rw [if_pos rfl] at H; exact H
  clear H
  have H := H1
  clear H1; replace H := bS H; obtain ⟨t175, A6, H⟩ := H
  replace H : (if t175 = true then ((spec_l1In.f a2 0 20).bind fun t176 => (if t176 = true then ((spec_l14Debits.f k a0 l1 a2).bind fun t177 => (some (t177, true))) else (some (([] : List (S85)), false)))) else (some (([] : List (S85)), false))) = some (r1, r2) := H
  by_cases c7 : t175 = true
  ·subst c7
   have H1 : ((spec_l1In.f a2 0 20).bind fun t176 => (if t176 = true then ((spec_l14Debits.f k a0 l1 a2).bind fun t177 => (some (t177, true))) else (some (([] : List (S85)), false)))) = some (r1, r2) := by rw [if_pos rfl] at H; exact H
   clear H
   have H := H1
   clear H1; replace H := bS H; obtain ⟨t176, A8, H⟩ := H
   replace H : (if t176 = true then ((spec_l14Debits.f k a0 l1 a2).bind fun t177 => (some (t177, true))) else (some (([] : List (S85)), false))) = some (r1, r2) := H
   by_cases c9 : t176 = true
   ·subst c9
    have H1 : ((spec_l14Debits.f k a0 l1 a2).bind fun t177 => (some (t177, true))) = some (r1, r2) := by rw [if_pos rfl] at H; exact H
    clear H
    have H := H1
    clear H1; replace H := bS H; obtain ⟨t177, A10, H⟩ := H
    replace H : (some (t177, true)) = some (r1, r2) := H
    simp only [Option.some.injEq, Prod.mk.injEq] at H
    obtain ⟨rfl, rfl⟩ := H
    go_enter Try.func66, Try.ntmps66
    go_wp2_with (first | ((with_reducible refine gate_callee (f := 153) rfl ?_); refine goesLa (some 9) rfl Try.func153 #[.int .i64 a0, .int .i64 0, .int .i64 2] rfl ?_; (with_reducible refine (spec_l1In.calls a0 0 2 true _ A4.out).mono ?_); rintro e w' ⟨rfl, ⟨nd, rfl⟩⟩; refine ⟨_, rfl, ?_⟩) | (go_at_call 135; (with_reducible refine (spec_l12Good.calls k _ _ l1 true _ ?side1 ?side2 A6.out).mono ?_); (case side1 => exact cd HR1.out); (case side2 => exact HC1.out); rintro e w11 ⟨rfl, hb⟩; replace HB := ak (below_step (belowd HB) hb); (try clear hb)) | (go_at_call 153; (with_reducible refine (spec_l1In.calls a2 0 20 true _ A8.out).mono ?_); rintro e w' ⟨rfl, ⟨nd, rfl⟩⟩) | ((with_reducible refine gate_callee (f := 154) rfl ?_); refine goesLa (some 24) rfl Try.func154 #[.int .i64 a0, .slice A1 l1.length c1, .int .i64 a2] rfl ?_; (with_reducible refine (spec_l14Debits.calls k a0 _ _ l1 a2 t177 _ ?side1 ?side2 A10.out).mono ?_); (case side1 => exact cd (Kd.C_below HR1.out (belowd HB))); (case side2 => exact HC1.out); rintro e w12 ⟨v178, rfl, ho0, hb⟩; refine ⟨_, rfl, ?_⟩; have HO179 := ak (Kd.R_lower ho0 (below_size (belowd HB))); replace HB := ak (below_step (belowd HB) hb); (try clear hb); (try clear ho0)))
    go_ret2
    exact ⟨_, er2, by (with_reducible repeat (first | apply Kd.R_alloc | apply Kd.R_drewN | apply Kd.R_drew)); exact HO179.out, belowd HB⟩
   ·replace c9 := Bool.eq_false_iff.mpr c9
    subst c9
    have H1 : (some (([] : List (S85)), false)) = some (r1, r2) := by rw [if_neg (show ¬ (false = true) by decide)] at H; exact H
    clear H
    have H := H1
    clear H1
    simp only [Option.some.injEq, Prod.mk.injEq] at H
    obtain ⟨rfl, rfl⟩ := H
    go_enter Try.func66, Try.ntmps66
    go_wp2_with (first | ((with_reducible refine gate_callee (f := 153) rfl ?_); refine goesLa (some 9) rfl Try.func153 #[.int .i64 a0, .int .i64 0, .int .i64 2] rfl ?_; (with_reducible refine (spec_l1In.calls a0 0 2 true _ A4.out).mono ?_); rintro e w' ⟨rfl, ⟨nd, rfl⟩⟩; refine ⟨_, rfl, ?_⟩) | (go_at_call 135; (with_reducible refine (spec_l12Good.calls k _ _ l1 true _ ?side1 ?side2 A6.out).mono ?_); (case side1 => exact cd HR1.out); (case side2 => exact HC1.out); rintro e w13 ⟨rfl, hb⟩; replace HB := ak (below_step (belowd HB) hb); (try clear hb)) | (go_at_call 153; (with_reducible refine (spec_l1In.calls a2 0 20 false _ A8.out).mono ?_); rintro e w' ⟨rfl, ⟨nd, rfl⟩⟩))
    go_ret2
    exact ⟨_, er2, by first | exact Kd.R_nil _ _ _ _ _ | exact Kd.N_nil _ _ _ _ _ | exact Kd.V_nil _ _ _ _ _ | exact Kd.Q_nil _ _ _ _ _ | exact Kd.S_nil _ _ _ _ _, belowd HB⟩
  ·replace c7 := Bool.eq_false_iff.mpr c7
   subst c7
   have H1 : (some (([] : List (S85)), false)) = some (r1, r2) := by rw [if_neg (show ¬ (false = true) by decide)] at H; exact H
   clear H
   have H := H1
   clear H1
   simp only [Option.some.injEq, Prod.mk.injEq] at H
   obtain ⟨rfl, rfl⟩ := H
   go_enter Try.func66, Try.ntmps66
   go_wp2_with (first | ((with_reducible refine gate_callee (f := 153) rfl ?_); refine goesLa (some 9) rfl Try.func153 #[.int .i64 a0, .int .i64 0, .int .i64 2] rfl ?_; (with_reducible refine (spec_l1In.calls a0 0 2 true _ A4.out).mono ?_); rintro e w' ⟨rfl, ⟨nd, rfl⟩⟩; refine ⟨_, rfl, ?_⟩) | (go_at_call 135; (with_reducible refine (spec_l12Good.calls k _ _ l1 false _ ?side1 ?side2 A6.out).mono ?_); (case side1 => exact cd HR1.out); (case side2 => exact HC1.out); rintro e w14 ⟨rfl, hb⟩; replace HB := ak (below_step (belowd HB) hb); (try clear hb)))
   go_ret2
   exact ⟨_, er2, by first | exact Kd.R_nil _ _ _ _ _ | exact Kd.N_nil _ _ _ _ _ | exact Kd.V_nil _ _ _ _ _ | exact Kd.Q_nil _ _ _ _ _ | exact Kd.S_nil _ _ _ _ _, belowd HB⟩
 ·replace c5 := Bool.eq_false_iff.mpr c5
  subst c5
  have H1 : (some (([] : List (S85)), false)) = some (r1, r2) := by rw [if_neg (show ¬ (false = true) by decide)] at H; exact H
  clear H
  have H := H1
  clear H1
  simp only [Option.some.injEq, Prod.mk.injEq] at H
  obtain ⟨rfl, rfl⟩ := H
  go_enter Try.func66, Try.ntmps66
  go_wp2_with (first | ((with_reducible refine gate_callee (f := 153) rfl ?_); refine goesLa (some 9) rfl Try.func153 #[.int .i64 a0, .int .i64 0, .int .i64 2] rfl ?_; (with_reducible refine (spec_l1In.calls a0 0 2 false _ A4.out).mono ?_); rintro e w' ⟨rfl, ⟨nd, rfl⟩⟩; refine ⟨_, rfl, ?_⟩))
  go_ret2
  exact ⟨_, er2, by first | exact Kd.R_nil _ _ _ _ _ | exact Kd.N_nil _ _ _ _ _ | exact Kd.V_nil _ _ _ _ _ | exact Kd.Q_nil _ _ _ _ _ | exact Kd.S_nil _ _ _ _ _, belowd HB⟩

/-! ### impl_within: function 125 -/
def impl_within.f (a0 : Int) (a1 : Int) (a2 : Int) : Option (Bool) := if a0 ≥ a1 then (some (decide (a0 ≤ a2))) else (some false)
set_option maxHeartbeats 8000000 in
set_option maxRecDepth 100000 in
theorem impl_within.calls (a0 : Int) (a1 : Int) (a2 : Int) (r : Bool) (w : World) (h : impl_within.f a0 a1 a2 = some r) :
  Calls Try.prog 125 #[.int .i64 a0, .int .i64 a1, .int .i64 a2] w fun e w' => e = .returned (.bool r) ∧ Drawn0 w w' := by
 have H : (if a0 ≥ a1 then (some (decide (a0 ≤ a2))) else (some false)) = some r := h
 clear h
 by_cases c4 : a0 ≥ a1
 ·rw [if_pos c4] at H
  have c4b0 : decide (a1 ≤ a0) = true := decide_eq_true c4
  clear c4
  obtain rfl := Option.some.inj H
  go_enter Try.func125, Try.ntmps125
  go_wp2
  go_ret
  exact ⟨er, drw⟩
 ·rw [if_neg c4] at H
  have c4b0 : decide (a1 ≤ a0) = false := decide_eq_false c4
  clear c4
  obtain rfl := Option.some.inj H
  go_enter Try.func125, Try.ntmps125
  go_wp2
  go_ret
  exact ⟨er, drw⟩

/-! ### impl_areFaults: function 124 -/
def impl_areFaults.f (a0 : Int) : Option (Bool) := (impl_within.f a0 0 2).bind fun t180 => (some t180)
set_option maxHeartbeats 8000000 in
set_option maxRecDepth 100000 in
theorem impl_areFaults.calls (a0 : Int) (r : Bool) (w : World) (h : impl_areFaults.f a0 = some r) :
  Calls Try.prog 124 #[.int .i64 a0] w fun e w' => e = .returned (.bool r) ∧ Drawn0 w w' := by
 have H : ((impl_within.f a0 0 2).bind fun t180 => (some t180)) = some r := h
 clear h; replace H := bS H; obtain ⟨t180, A2, H⟩ := H
 replace H : (some t180) = some r := H
 obtain rfl := Option.some.inj H
 go_enter Try.func124, Try.ntmps124
 go_wp2_with (first | ((with_reducible refine gate_callee (f := 125) rfl ?_); refine goesLa (some 4) rfl Try.func125 #[.int .i64 a0, .int .i64 0, .int .i64 2] rfl ?_; (with_reducible refine (impl_within.calls a0 0 2 t180 _ A2.out).mono ?_); rintro e w' ⟨rfl, ⟨nd, rfl⟩⟩; refine ⟨_, rfl, ?_⟩))
 go_ret
 exact ⟨er, drw⟩

-- NOT PRINTED: function 228 (impl_Statement_228)

-- NOT PRINTED: function 199 (impl_Statement_199)

/-! ### impl_isLetterNumber: function 205 -/
def impl_isLetterNumber.f (a0 : Int) : Option (Bool) := (impl_within.f a0 0 1000).bind fun t181 => (some t181)
set_option maxHeartbeats 8000000 in
set_option maxRecDepth 100000 in
theorem impl_isLetterNumber.calls (a0 : Int) (r : Bool) (w : World) (h : impl_isLetterNumber.f a0 = some r) :
  Calls Try.prog 205 #[.int .i64 a0] w fun e w' => e = .returned (.bool r) ∧ Drawn0 w w' := by
 have H : ((impl_within.f a0 0 1000).bind fun t181 => (some t181)) = some r := h
 clear h; replace H := bS H; obtain ⟨t181, A2, H⟩ := H
 replace H : (some t181) = some r := H
 obtain rfl := Option.some.inj H
 go_enter Try.func205, Try.ntmps205
 go_wp2_with (first | ((with_reducible refine gate_callee (f := 125) rfl ?_); refine goesLa (some 4) rfl Try.func125 #[.int .i64 a0, .int .i64 0, .int .i64 1000] rfl ?_; (with_reducible refine (impl_within.calls a0 0 1000 t181 _ A2.out).mono ?_); rintro e w' ⟨rfl, ⟨nd, rfl⟩⟩; refine ⟨_, rfl, ?_⟩))
 go_ret
 exact ⟨er, drw⟩

/-! ### impl_GoodClaim: function 145 -/
def impl_GoodClaim.f (a0_0 : Int) (a0_1 : Int) (a0_2 : Int) : Option (Bool) := (impl_within.f a0_0 0 20).bind fun t183 => (if t183 = true then ((impl_isLetterNumber.f a0_1).bind fun t184 => (if t184 = true then ((impl_within.f a0_2 0 100).bind fun t185 => (some t185)) else (some false))) else (some false))
set_option maxHeartbeats 8000000 in
set_option maxRecDepth 100000 in
theorem impl_GoodClaim.calls (a0_0 : Int) (a0_1 : Int) (a0_2 : Int) (r : Bool) (w : World) (h : impl_GoodClaim.f a0_0 a0_1 a0_2 = some r) :
  Calls Try.prog 145 #[.agg #[.int .i64 a0_0, .int .i64 a0_1, .int .i64 a0_2]] w fun e w' => e = .returned (.bool r) ∧ Below w.heap.size w w' := by
 have hu85 := Try.underlying85
 have HB := Aside0.mk (Below.refl w.heap.size w)
 have H : ((impl_within.f a0_0 0 20).bind fun t183 => (if t183 = true then ((impl_isLetterNumber.f a0_1).bind fun t184 => (if t184 = true then ((impl_within.f a0_2 0 100).bind fun t185 => (some t185)) else (some false))) else (some false))) = some r := h
 clear h; replace H := bS H; obtain ⟨t183, A2, H⟩ := H
 replace H : (if t183 = true then ((impl_isLetterNumber.f a0_1).bind fun t184 => (if t184 = true then ((impl_within.f a0_2 0 100).bind fun t185 => (some t185)) else (some false))) else (some false)) = some r := H
 by_cases c3 : t183 = true
 ·subst c3
  have H1 : ((impl_isLetterNumber.f a0_1).bind fun t184 => (if t184 = true then ((impl_within.f a0_2 0 100).bind fun t185 => (some t185)) else (some false))) = some r := by rw [if_pos rfl] at H; exact H
  clear H
  have H := H1
  clear H1; replace H := bS H; obtain ⟨t184, A4, H⟩ := H
  replace H : (if t184 = true then ((impl_within.f a0_2 0 100).bind fun t185 => (some t185)) else (some false)) = some r := H
  by_cases c5 : t184 = true
  ·subst c5
   have H1 : ((impl_within.f a0_2 0 100).bind fun t185 => (some t185)) = some r := by rw [if_pos rfl] at H; exact H
   clear H
   have H := H1
   clear H1; replace H := bS H; obtain ⟨t185, A6, H⟩ := H
   replace H : (some t185) = some r := H
   obtain rfl := Option.some.inj H
   go_enter Try.func145, Try.ntmps145
   go_wp2_with (first | ((with_reducible refine gate_dst (N := 1) rfl ?_); refine boxev 1 #[.int .i64 a0_0, .int .i64 a0_1, .int .i64 a0_2] 85 ?_; intro gb182 hg w7 hbox hb; have BK182 := ak (hbox); have GW182 := ak (hgl hg (belowd HB)); have GE182 := ak (hgl hg (belowd HB)); replace HB := ak (below_step (belowd HB) hb); clear hb hbox hg; obtain ⟨hcz8_0, hcz8_1, hcz8_2, hfz8_0, hfz8_1, hfz8_2⟩ := box3 BK182) | ((with_reducible refine gate_callee (f := 125) rfl ?_); refine goesLa (some 5) rfl Try.func125 #[.int .i64 a0_0, .int .i64 0, .int .i64 20] rfl ?_; (with_reducible refine (impl_within.calls a0_0 0 20 true _ A2.out).mono ?_); rintro e w' ⟨rfl, ⟨nd, rfl⟩⟩; refine ⟨_, rfl, ?_⟩) | (go_at_call 205; (with_reducible refine (impl_isLetterNumber.calls a0_1 true _ A4.out).mono ?_); rintro e w' ⟨rfl, ⟨nd, rfl⟩⟩) | (go_at_call 125; (with_reducible refine (impl_within.calls a0_2 0 100 t185 _ A6.out).mono ?_); rintro e w' ⟨rfl, ⟨nd, rfl⟩⟩))
   go_ret
   exact ⟨er2, belowg1 HB GE182⟩
  ·replace c5 := Bool.eq_false_iff.mpr c5
   subst c5
   have H1 : (some false) = some r := by rw [if_neg (show ¬ (false = true) by decide)] at H; exact H
   clear H
   have H := H1
   clear H1
   obtain rfl := Option.some.inj H
   go_enter Try.func145, Try.ntmps145
   go_wp2_with (first | ((with_reducible refine gate_dst (N := 1) rfl ?_); refine boxev 1 #[.int .i64 a0_0, .int .i64 a0_1, .int .i64 a0_2] 85 ?_; intro gb182 hg w9 hbox hb; have BK182 := ak (hbox); have GW182 := ak (hgl hg (belowd HB)); have GE182 := ak (hgl hg (belowd HB)); replace HB := ak (below_step (belowd HB) hb); clear hb hbox hg; obtain ⟨hcz10_0, hcz10_1, hcz10_2, hfz10_0, hfz10_1, hfz10_2⟩ := box3 BK182) | ((with_reducible refine gate_callee (f := 125) rfl ?_); refine goesLa (some 5) rfl Try.func125 #[.int .i64 a0_0, .int .i64 0, .int .i64 20] rfl ?_; (with_reducible refine (impl_within.calls a0_0 0 20 true _ A2.out).mono ?_); rintro e w' ⟨rfl, ⟨nd, rfl⟩⟩; refine ⟨_, rfl, ?_⟩) | (go_at_call 205; (with_reducible refine (impl_isLetterNumber.calls a0_1 false _ A4.out).mono ?_); rintro e w' ⟨rfl, ⟨nd, rfl⟩⟩))
   go_ret
   exact ⟨er2, belowg1 HB GE182⟩
 ·replace c3 := Bool.eq_false_iff.mpr c3
  subst c3
  have H1 : (some false) = some r := by rw [if_neg (show ¬ (false = true) by decide)] at H; exact H
  clear H
  have H := H1
  clear H1
  obtain rfl := Option.some.inj H
  go_enter Try.func145, Try.ntmps145
  go_wp2_with (first | ((with_reducible refine gate_dst (N := 1) rfl ?_); refine boxev 1 #[.int .i64 a0_0, .int .i64 a0_1, .int .i64 a0_2] 85 ?_; intro gb182 hg w11 hbox hb; have BK182 := ak (hbox); have GW182 := ak (hgl hg (belowd HB)); have GE182 := ak (hgl hg (belowd HB)); replace HB := ak (below_step (belowd HB) hb); clear hb hbox hg; obtain ⟨hcz12_0, hcz12_1, hcz12_2, hfz12_0, hfz12_1, hfz12_2⟩ := box3 BK182) | ((with_reducible refine gate_callee (f := 125) rfl ?_); refine goesLa (some 5) rfl Try.func125 #[.int .i64 a0_0, .int .i64 0, .int .i64 20] rfl ?_; (with_reducible refine (impl_within.calls a0_0 0 20 false _ A2.out).mono ?_); rintro e w' ⟨rfl, ⟨nd, rfl⟩⟩; refine ⟨_, rfl, ?_⟩))
  go_ret
  exact ⟨er2, belowg1 HB GE182⟩

/-! ### impl_isStatement: function 150 -/
def impl_isStatement.f (a0_0 : Int) (a0_1 : Int) (a0_2 : Int) (a0_3 : Int) (a0_4 : Bool) : Option (Bool) := (impl_within.f a0_0 0 6).bind fun t187 => (if t187 = true then ((impl_GoodClaim.f a0_1 a0_2 a0_3).bind fun t188 => (some t188)) else (some false))
set_option maxHeartbeats 8000000 in
set_option maxRecDepth 100000 in
theorem impl_isStatement.calls (a0_0 : Int) (a0_1 : Int) (a0_2 : Int) (a0_3 : Int) (a0_4 : Bool) (r : Bool) (w : World) (h : impl_isStatement.f a0_0 a0_1 a0_2 a0_3 a0_4 = some r) :
  Calls Try.prog 150 #[.agg #[.int .i64 a0_0, .int .i64 a0_1, .int .i64 a0_2, .int .i64 a0_3, .bool a0_4]] w fun e w' => e = .returned (.bool r) ∧ Below w.heap.size w w' := by
 have hu91 := Try.underlying91
 have hu85 := Try.underlying85
 have HB := Aside0.mk (Below.refl w.heap.size w)
 have H : ((impl_within.f a0_0 0 6).bind fun t187 => (if t187 = true then ((impl_GoodClaim.f a0_1 a0_2 a0_3).bind fun t188 => (some t188)) else (some false))) = some r := h
 clear h; replace H := bS H; obtain ⟨t187, A2, H⟩ := H
 replace H : (if t187 = true then ((impl_GoodClaim.f a0_1 a0_2 a0_3).bind fun t188 => (some t188)) else (some false)) = some r := H
 by_cases c3 : t187 = true
 ·subst c3
  have H1 : ((impl_GoodClaim.f a0_1 a0_2 a0_3).bind fun t188 => (some t188)) = some r := by rw [if_pos rfl] at H; exact H
  clear H
  have H := H1
  clear H1; replace H := bS H; obtain ⟨t188, A4, H⟩ := H
  replace H : (some t188) = some r := H
  obtain rfl := Option.some.inj H
  go_enter Try.func150, Try.ntmps150
  go_wp2_with (first | ((with_reducible refine gate_dst (N := 1) rfl ?_); refine boxev 1 #[.int .i64 a0_0, .int .i64 a0_1, .int .i64 a0_2, .int .i64 a0_3, .bool a0_4] 91 ?_; intro gb186 hg w5 hbox hb; have BK186 := ak (hbox); have GW186 := ak (hgl hg (belowd HB)); have GE186 := ak (hgl hg (belowd HB)); replace HB := ak (below_step (belowd HB) hb); clear hb hbox hg; obtain ⟨hcz6_0, hcz6_1, hcz6_2, hcz6_3, hcz6_4, hfz6_0, hfz6_1, hfz6_2, hfz6_3, hfz6_4⟩ := box5 BK186) | ((with_reducible refine gate_callee (f := 125) rfl ?_); refine goesLa (some 5) rfl Try.func125 #[.int .i64 a0_0, .int .i64 0, .int .i64 6] rfl ?_; (with_reducible refine (impl_within.calls a0_0 0 6 true _ A2.out).mono ?_); rintro e w' ⟨rfl, ⟨nd, rfl⟩⟩; refine ⟨_, rfl, ?_⟩) | (go_at_call 145; (with_reducible refine (impl_GoodClaim.calls a0_1 a0_2 a0_3 t188 _ A4.out).mono ?_); rintro e w7 ⟨rfl, hb⟩; replace BK186 := ak (blk_below (blkd BK186) hb); replace HB := ak (below_step (belowg1 HB GE186) hb); (try clear hb)))
  go_ret
  exact ⟨er2, belowg1 HB GE186⟩
 ·replace c3 := Bool.eq_false_iff.mpr c3
  subst c3
  have H1 : (some false) = some r := by rw [if_neg (show ¬ (false = true) by decide)] at H; exact H
  clear H
  have H := H1
  clear H1
  obtain rfl := Option.some.inj H
  go_enter Try.func150, Try.ntmps150
  go_wp2_with (first | ((with_reducible refine gate_dst (N := 1) rfl ?_); refine boxev 1 #[.int .i64 a0_0, .int .i64 a0_1, .int .i64 a0_2, .int .i64 a0_3, .bool a0_4] 91 ?_; intro gb186 hg w8 hbox hb; have BK186 := ak (hbox); have GW186 := ak (hgl hg (belowd HB)); have GE186 := ak (hgl hg (belowd HB)); replace HB := ak (below_step (belowd HB) hb); clear hb hbox hg; obtain ⟨hcz9_0, hcz9_1, hcz9_2, hcz9_3, hcz9_4, hfz9_0, hfz9_1, hfz9_2, hfz9_3, hfz9_4⟩ := box5 BK186) | ((with_reducible refine gate_callee (f := 125) rfl ?_); refine goesLa (some 5) rfl Try.func125 #[.int .i64 a0_0, .int .i64 0, .int .i64 6] rfl ?_; (with_reducible refine (impl_within.calls a0_0 0 6 false _ A2.out).mono ?_); rintro e w' ⟨rfl, ⟨nd, rfl⟩⟩; refine ⟨_, rfl, ?_⟩))
  go_ret
  exact ⟨er2, belowg1 HB GE186⟩

/-! ### impl_areStatements_1: function 200 -/
def impl_areStatements_1.f (a0_0 : Int) (a0_1 : Int) (a0_2 : Int) (a0_3 : Int) (a0_4 : Bool) : Option (Bool) := (impl_isStatement.f a0_0 a0_1 a0_2 a0_3 a0_4).bind fun t190 => (some (!t190))
set_option maxHeartbeats 8000000 in
set_option maxRecDepth 100000 in
theorem impl_areStatements_1.calls (a0_0 : Int) (a0_1 : Int) (a0_2 : Int) (a0_3 : Int) (a0_4 : Bool) (r : Bool) (w : World) (h : impl_areStatements_1.f a0_0 a0_1 a0_2 a0_3 a0_4 = some r) :
  Calls Try.prog 200 #[.agg #[.int .i64 a0_0, .int .i64 a0_1, .int .i64 a0_2, .int .i64 a0_3, .bool a0_4]] w fun e w' => e = .returned (.bool r) ∧ Below w.heap.size w w' := by
 have hu91 := Try.underlying91
 have HB := Aside0.mk (Below.refl w.heap.size w)
 have H : ((impl_isStatement.f a0_0 a0_1 a0_2 a0_3 a0_4).bind fun t190 => (some (!t190))) = some r := h
 clear h; replace H := bS H; obtain ⟨t190, A2, H⟩ := H
 replace H : (some (!t190)) = some r := H
 obtain rfl := Option.some.inj H
 go_enter Try.func200, Try.ntmps200
 go_wp2_with (first | ((with_reducible refine gate_dst (N := 1) rfl ?_); refine boxev 1 #[.int .i64 a0_0, .int .i64 a0_1, .int .i64 a0_2, .int .i64 a0_3, .bool a0_4] 91 ?_; intro gb189 hg w3 hbox hb; have BK189 := ak (hbox); have GW189 := ak (hgl hg (belowd HB)); have GE189 := ak (hgl hg (belowd HB)); replace HB := ak (below_step (belowd HB) hb); clear hb hbox hg; obtain ⟨hcz4_0, hcz4_1, hcz4_2, hcz4_3, hcz4_4, hfz4_0, hfz4_1, hfz4_2, hfz4_3, hfz4_4⟩ := box5 BK189) | ((with_reducible refine gate_callee (f := 150) rfl ?_); refine goesLa (some 4) rfl Try.func150 #[.agg #[.int .i64 a0_0, .int .i64 a0_1, .int .i64 a0_2, .int .i64 a0_3, .bool a0_4]] rfl ?_; (with_reducible refine (impl_isStatement.calls a0_0 a0_1 a0_2 a0_3 a0_4 t190 _ A2.out).mono ?_); rintro e w5 ⟨rfl, hb⟩; refine ⟨_, rfl, ?_⟩; replace BK189 := ak (blk_below (blkd BK189) hb); replace HB := ak (below_step (belowg1 HB GE189) hb); (try clear hb)))
 go_ret
 exact ⟨er2, belowg1 HB GE189⟩

/-! ### slices_IndexFunc_228_at_200: function 228 -/
def slices_IndexFunc_228_at_200.l0 : Nat → List (S91) → Int → Int → Option (Int)
  | 0, _, _, _ => none
  | k + 1, x0, x7, x8 => if x8 < x7 then (if 0 ≤ x8 then (if x8 < (x0.length : Int) then ((impl_areStatements_1.f ((rd_T91 x0 x8).f0) ((rd_T91 x0 x8).f1.f0) ((rd_T91 x0 x8).f1.f1) ((rd_T91 x0 x8).f1.f2) ((rd_T91 x0 x8).f2)).bind fun t192 => (if t192 = true then (some x8) else (slices_IndexFunc_228_at_200.l0 k x0 x7 (wrap64 (x8 + 1))))) else (none)) else (none)) else (some (-1))
def slices_IndexFunc_228_at_200.f (k : Nat) (l0 : List (S91))  : Option (Int) := slices_IndexFunc_228_at_200.l0 k l0 (l0.length : Int) 0
theorem slices_IndexFunc_228_at_200.mono_l : ∀ k, (∀ y0 y1 y2, LeO (slices_IndexFunc_228_at_200.l0 k y0 y1 y2) (slices_IndexFunc_228_at_200.l0 (k + 1) y0 y1 y2))
 | 0 => fun _ _ _ r h => by simp [slices_IndexFunc_228_at_200.l0] at h
 | k + 1 => by
  have ih0 := slices_IndexFunc_228_at_200.mono_l k
  ·intro y0 y1 y2
   unfold slices_IndexFunc_228_at_200.l0
   repeat' (first | (with_reducible first | exact ih0 _ _ _ | exact LeO.refl _ | exact LeO.none _ | refine LeO.ite ?_ ?_ | refine LeO.bind ?_ (fun _ => ?_)) | exact ih0 _ _ _ | exact LeO.none _ | refine LeO.ite ?_ ?_ | refine LeO.bind ?_ (fun _ => ?_))
theorem slices_IndexFunc_228_at_200.mono : ∀ a0 k, LeO (slices_IndexFunc_228_at_200.f k a0) (slices_IndexFunc_228_at_200.f (k + 1) a0) := by
 intro a0 k
 have ih0 := slices_IndexFunc_228_at_200.mono_l k
 unfold slices_IndexFunc_228_at_200.f
 repeat' (first | (with_reducible first | exact ih0 _ _ _ | exact LeO.refl _ | exact LeO.none _ | refine LeO.ite ?_ ?_ | refine LeO.bind ?_ (fun _ => ?_)) | exact ih0 _ _ _ | exact LeO.none _ | refine LeO.ite ?_ ?_ | refine LeO.bind ?_ (fun _ => ?_))
set_option maxHeartbeats 8000000 in
set_option maxRecDepth 100000 in
theorem slices_IndexFunc_228_at_200.calls (k : Nat) (A0 : Option Addr) (c0 : Nat) (l0 : List (S91))  (r : Int) (w : World) (hr0 : Kd.C k91 w A0 l0.length l0) (hc0 : l0.length ≤ c0) (h : slices_IndexFunc_228_at_200.f k l0 = some r) :
  Calls Try.prog 228 #[.slice A0 l0.length c0, .func (.func 200) #[] #[]] w fun e w' => e = .returned (.int .i64 r) ∧ Below w.heap.size w w' := by
 have hu91 := Try.underlying91
 have HR0 := Aside0.mk hr0; have HC0 := Aside0.mk hc0; clear hr0 hc0
 have HB := Aside0.mk (Below.refl w.heap.size w)
 have H : (slices_IndexFunc_228_at_200.l0 k l0 (l0.length : Int) 0) = some r := h
 clear h
 have H' := Aside0.mk H
 clear H
 go_enter Try.func228, Try.ntmps228
 go_wp2
 go_loopg [8] k (fun kq v8 w' => ∃ (x8_1 : Int), v8 = .int .i64 x8_1 ∧ Aside0 (slices_IndexFunc_228_at_200.l0 kq l0 (l0.length : Int) x8_1 = some r) ∧ Aside0 (kq ≤ k) ∧ Aside0 (Below w.heap.size w w'))
 case atStart => exact ⟨(0), er, H', ⟨Nat.le_refl _⟩, ⟨belowd HB⟩⟩
 case round =>
  clear H'
  obtain ⟨x8_1, rfl, HA, HK1, HB⟩ := hrel
  cases gk with
  | zero => exact absurd HA.out (by simp [slices_IndexFunc_228_at_200.l0])
  | succ k1 =>
   have H := HA.out; clear HA
   simp only [slices_IndexFunc_228_at_200.l0] at H
   by_cases c3 : x8_1 < (l0.length : Int)
   ·rw [if_pos c3] at H
    have c3b0 : decide (x8_1 < (l0.length : Int)) = true := decide_eq_true c3
    clear c3; replace H := ifS H; obtain ⟨c4, H⟩ := H; have c4b0 := decide_eq_true c4; clear c4; replace H := ifS H; obtain ⟨c5, H⟩ := H; have c5b0 := decide_eq_true c5; clear c5; replace H := bS H; obtain ⟨t192, A6, H⟩ := H
    replace H : (if t192 = true then (some x8_1) else (slices_IndexFunc_228_at_200.l0 k1 l0 (l0.length : Int) (wrap64 (x8_1 + 1)))) = some r := H
    by_cases c7 : t192 = true
    ·subst c7
     have H1 : (some x8_1) = some r := by rw [if_pos rfl] at H; exact H
     clear H
     have H := H1
     clear H1
     obtain rfl := Option.some.inj H
     have p191 : 0 ≤ (x8_1 : Int) := da
     have q191 : x8_1 < (l0.length : Int) := da
     obtain ⟨ad191, e191, hx191_0, hx191_1, hx191_2, hx191_3, hx191_4⟩ := at_T91 HR0.out x8_1 p191 q191
     cases e191
     replace hx191_0 := (HB.out.cell (World.block_lt_of_cell? w _ hx191_0)).trans hx191_0
     replace hx191_1 := (HB.out.cell (World.block_lt_of_cell? w _ hx191_1)).trans hx191_1
     replace hx191_2 := (HB.out.cell (World.block_lt_of_cell? w _ hx191_2)).trans hx191_2
     replace hx191_3 := (HB.out.cell (World.block_lt_of_cell? w _ hx191_3)).trans hx191_3
     replace hx191_4 := (HB.out.cell (World.block_lt_of_cell? w _ hx191_4)).trans hx191_4
     replace p191 := eq_true p191; replace q191 := eq_true q191
     go_wp2_with (first | ((with_reducible refine gate_value (f := 200) rfl rfl ?_); refine goesV_ (some 16) rfl rfl Try.func200 (by kernel_rfl) rfl #[.agg #[.int .i64 ((rd_T91 l0 x8_1).f0), .int .i64 ((rd_T91 l0 x8_1).f1.f0), .int .i64 ((rd_T91 l0 x8_1).f1.f1), .int .i64 ((rd_T91 l0 x8_1).f1.f2), .bool ((rd_T91 l0 x8_1).f2)]] rfl rfl (by (try simp only [List.map_toArray, List.map_cons, List.map_nil]); first | done | rfl | (simp only [List.length_drop, List.length_take]; rfl)) ?_; (with_reducible refine (impl_areStatements_1.calls ((rd_T91 l0 x8_1).f0) ((rd_T91 l0 x8_1).f1.f0) ((rd_T91 l0 x8_1).f1.f1) ((rd_T91 l0 x8_1).f1.f2) ((rd_T91 l0 x8_1).f2) true _ A6.out).mono ?_); rintro e w8 ⟨rfl, hb⟩; refine ⟨_, rfl, ?_⟩; replace HB := ak (below_step (belowd HB) hb); (try clear hb)))
     go_ret
     exact ⟨er2, belowd HB⟩
    ·replace c7 := Bool.eq_false_iff.mpr c7
     subst c7
     have H1 : (slices_IndexFunc_228_at_200.l0 k1 l0 (l0.length : Int) (wrap64 (x8_1 + 1))) = some r := by rw [if_neg (show ¬ (false = true) by decide)] at H; exact H
     clear H
     have H := H1
     clear H1
     have H' := Aside0.mk H
     clear H
     have p191 : 0 ≤ (x8_1 : Int) := da
     have q191 : x8_1 < (l0.length : Int) := da
     obtain ⟨ad191, e191, hx191_0, hx191_1, hx191_2, hx191_3, hx191_4⟩ := at_T91 HR0.out x8_1 p191 q191
     cases e191
     replace hx191_0 := (HB.out.cell (World.block_lt_of_cell? w _ hx191_0)).trans hx191_0
     replace hx191_1 := (HB.out.cell (World.block_lt_of_cell? w _ hx191_1)).trans hx191_1
     replace hx191_2 := (HB.out.cell (World.block_lt_of_cell? w _ hx191_2)).trans hx191_2
     replace hx191_3 := (HB.out.cell (World.block_lt_of_cell? w _ hx191_3)).trans hx191_3
     replace hx191_4 := (HB.out.cell (World.block_lt_of_cell? w _ hx191_4)).trans hx191_4
     replace p191 := eq_true p191; replace q191 := eq_true q191
     go_wp2_with (first | ((with_reducible refine gate_value (f := 200) rfl rfl ?_); refine goesV_ (some 16) rfl rfl Try.func200 (by kernel_rfl) rfl #[.agg #[.int .i64 ((rd_T91 l0 x8_1).f0), .int .i64 ((rd_T91 l0 x8_1).f1.f0), .int .i64 ((rd_T91 l0 x8_1).f1.f1), .int .i64 ((rd_T91 l0 x8_1).f1.f2), .bool ((rd_T91 l0 x8_1).f2)]] rfl rfl (by (try simp only [List.map_toArray, List.map_cons, List.map_nil]); first | done | rfl | (simp only [List.length_drop, List.length_take]; rfl)) ?_; (with_reducible refine (impl_areStatements_1.calls ((rd_T91 l0 x8_1).f0) ((rd_T91 l0 x8_1).f1.f0) ((rd_T91 l0 x8_1).f1.f1) ((rd_T91 l0 x8_1).f1.f2) ((rd_T91 l0 x8_1).f2) false _ A6.out).mono ?_); rintro e w9 ⟨rfl, hb⟩; refine ⟨_, rfl, ?_⟩; replace HB := ak (below_step (belowd HB) hb); (try clear hb)))
     go_roundg k1
     case measure => have := HK1.out; omega
     case rel => exact ⟨(wrap64 (x8_1 + 1)), er, H', ⟨by have := HK1.out; omega⟩, ⟨belowd HB⟩⟩
   ·rw [if_neg c3] at H
    have c3b0 : decide (x8_1 < (l0.length : Int)) = false := decide_eq_false c3
    clear c3
    obtain rfl := Option.some.inj H
    go_wp2
    go_ret
    exact ⟨er2, belowd HB⟩

/-! ### slices_ContainsFunc_199_at_200: function 199 -/
def slices_ContainsFunc_199_at_200.f (k : Nat) (l0 : List (S91))  : Option (Bool) := (slices_IndexFunc_228_at_200.f k l0).bind fun t193 => (some (decide (t193 ≥ 0)))
theorem slices_ContainsFunc_199_at_200.mono : ∀ a0 k, LeO (slices_ContainsFunc_199_at_200.f k a0) (slices_ContainsFunc_199_at_200.f (k + 1) a0) := by
 intro a0 k
 unfold slices_ContainsFunc_199_at_200.f
 repeat' (first | (with_reducible first | exact slices_IndexFunc_228_at_200.mono _ _ | exact LeO.refl _ | exact LeO.none _ | refine LeO.ite ?_ ?_ | refine LeO.bind ?_ (fun _ => ?_)) | exact slices_IndexFunc_228_at_200.mono _ _ | exact LeO.none _ | refine LeO.ite ?_ ?_ | refine LeO.bind ?_ (fun _ => ?_))
set_option maxHeartbeats 8000000 in
set_option maxRecDepth 100000 in
theorem slices_ContainsFunc_199_at_200.calls (k : Nat) (A0 : Option Addr) (c0 : Nat) (l0 : List (S91))  (r : Bool) (w : World) (hr0 : Kd.C k91 w A0 l0.length l0) (hc0 : l0.length ≤ c0) (h : slices_ContainsFunc_199_at_200.f k l0 = some r) :
  Calls Try.prog 199 #[.slice A0 l0.length c0, .func (.func 200) #[] #[]] w fun e w' => e = .returned (.bool r) ∧ Below w.heap.size w w' := by
 have HR0 := Aside0.mk hr0; have HC0 := Aside0.mk hc0; clear hr0 hc0
 have HB := Aside0.mk (Below.refl w.heap.size w)
 have H : ((slices_IndexFunc_228_at_200.f k l0).bind fun t193 => (some (decide (t193 ≥ 0)))) = some r := h
 clear h; replace H := bS H; obtain ⟨t193, A3, H⟩ := H
 replace H : (some (decide (t193 ≥ 0))) = some r := H
 obtain rfl := Option.some.inj H
 go_enter Try.func199, Try.ntmps199
 go_wp2_with (first | ((with_reducible refine gate_callee (f := 228) rfl ?_); refine goesLa (some 7) rfl Try.func228 #[.slice A0 l0.length c0, .func (.func 200) #[] #[]] rfl ?_; (with_reducible refine (slices_IndexFunc_228_at_200.calls k _ _ l0  t193 _ ?side1 ?side2 A3.out).mono ?_); (case side1 => exact cd HR0.out); (case side2 => exact HC0.out); rintro e w4 ⟨rfl, hb⟩; refine ⟨_, rfl, ?_⟩; replace HB := ak (below_step (belowd HB) hb); (try clear hb)))
 go_ret
 exact ⟨er2, belowd HB⟩

/-! ### impl_areStatements: function 138 -/
def impl_areStatements.f (k : Nat) (l0 : List (S91)) : Option (Bool) := if (l0.length : Int) ≤ 60 then ((slices_ContainsFunc_199_at_200.f k l0).bind fun t194 => (some (!t194))) else (some false)
theorem impl_areStatements.mono : ∀ a0 k, LeO (impl_areStatements.f k a0) (impl_areStatements.f (k + 1) a0) := by
 intro a0 k
 unfold impl_areStatements.f
 repeat' (first | (with_reducible first | exact slices_ContainsFunc_199_at_200.mono _ _ | exact LeO.refl _ | exact LeO.none _ | refine LeO.ite ?_ ?_ | refine LeO.bind ?_ (fun _ => ?_)) | exact slices_ContainsFunc_199_at_200.mono _ _ | exact LeO.none _ | refine LeO.ite ?_ ?_ | refine LeO.bind ?_ (fun _ => ?_))
set_option maxHeartbeats 8000000 in
set_option maxRecDepth 100000 in
theorem impl_areStatements.calls (k : Nat) (A0 : Option Addr) (c0 : Nat) (l0 : List (S91)) (r : Bool) (w : World) (hr0 : Kd.C k91 w A0 l0.length l0) (hc0 : l0.length ≤ c0) (h : impl_areStatements.f k l0 = some r) :
  Calls Try.prog 138 #[.slice A0 l0.length c0] w fun e w' => e = .returned (.bool r) ∧ Below w.heap.size w w' := by
 have HR0 := Aside0.mk hr0; have HC0 := Aside0.mk hc0; clear hr0 hc0
 have HB := Aside0.mk (Below.refl w.heap.size w)
 have H : (if (l0.length : Int) ≤ 60 then ((slices_ContainsFunc_199_at_200.f k l0).bind fun t194 => (some (!t194))) else (some false)) = some r := h
 clear h
 by_cases c2 : (l0.length : Int) ≤ 60
 ·rw [if_pos c2] at H
  have c2b0 : decide ((l0.length : Int) ≤ 60) = true := decide_eq_true c2
  have c2b1 : decide (l0.length ≤ 60) = true := decide_eq_true (by omega)
  clear c2; replace H := bS H; obtain ⟨t194, A3, H⟩ := H
  replace H : (some (!t194)) = some r := H
  obtain rfl := Option.some.inj H
  go_enter Try.func138, Try.ntmps138
  go_wp2_with (first | (go_at_call 199; (with_reducible refine (slices_ContainsFunc_199_at_200.calls k _ _ l0  t194 _ ?side1 ?side2 A3.out).mono ?_); (case side1 => exact cd HR0.out); (case side2 => exact HC0.out); rintro e w4 ⟨rfl, hb⟩; replace HB := ak (below_step (belowd HB) hb); (try clear hb)))
  go_ret
  exact ⟨er2, belowd HB⟩
 ·rw [if_neg c2] at H
  have c2b0 : decide ((l0.length : Int) ≤ 60) = false := decide_eq_false c2
  have c2b1 : decide (l0.length ≤ 60) = false := decide_eq_false (by omega)
  clear c2
  obtain rfl := Option.some.inj H
  go_enter Try.func138, Try.ntmps138
  go_wp2
  go_ret
  exact ⟨er2, belowd HB⟩

-- NOT PRINTED: function 241 (impl_Claim_241)

-- NOT PRINTED: function 261 (impl_Claim_261)

-- NOT PRINTED: function 242 (impl_Claim_242)

-- NOT PRINTED: function 249 (bits_Len32)

-- NOT PRINTED: function 250 (bits_Len64)

-- NOT PRINTED: function 230 (bits_Len)

-- NOT PRINTED: function 262 (slices_nextPowerOfTwo)

-- NOT PRINTED: function 263 (slices_xorshift_Next)

-- NOT PRINTED: function 243 (impl_Claim_243)

-- NOT PRINTED: function 269 (impl_Claim_269)

-- NOT PRINTED: function 265 (impl_Claim_265)

-- NOT PRINTED: function 264 (impl_Claim_264)

-- NOT PRINTED: function 244 (impl_Claim_244)

-- NOT PRINTED: function 245 (impl_Claim_245)

-- NOT PRINTED: function 246 (impl_Claim_246)

-- NOT PRINTED: function 247 (impl_Claim_247)

-- NOT PRINTED: function 248 (impl_Claim_248)

-- NOT PRINTED: function 229 (impl_Claim_229)

-- NOT PRINTED: function 201 (impl_Claim_201)

/-! ### cmp_Or_int: function 231 -/
def cmp_Or_int.l0 : Nat → Int → List Int → Int → Int → Option (Int)
  | 0, _, _, _, _ => none
  | k + 1, x3, x6, x7, x8 => if x8 < x7 then (if 0 ≤ x8 then (if x8 < (x6.length : Int) then (if (rd x6 x8) = x3 then (cmp_Or_int.l0 k x3 x6 x7 (wrap64 (x8 + 1))) else (some (rd x6 x8))) else (none)) else (none)) else (some x3)
def cmp_Or_int.f (k : Nat) (l0 : List Int) : Option (Int) := cmp_Or_int.l0 k 0 l0 (l0.length : Int) 0
theorem cmp_Or_int.mono_l : ∀ k, (∀ y0 y1 y2 y3, LeO (cmp_Or_int.l0 k y0 y1 y2 y3) (cmp_Or_int.l0 (k + 1) y0 y1 y2 y3))
 | 0 => fun _ _ _ _ r h => by simp [cmp_Or_int.l0] at h
 | k + 1 => by
  have ih0 := cmp_Or_int.mono_l k
  ·intro y0 y1 y2 y3
   unfold cmp_Or_int.l0
   repeat' (first | (with_reducible first | exact ih0 _ _ _ _ | exact LeO.refl _ | exact LeO.none _ | refine LeO.ite ?_ ?_ | refine LeO.bind ?_ (fun _ => ?_)) | exact ih0 _ _ _ _ | exact LeO.none _ | refine LeO.ite ?_ ?_ | refine LeO.bind ?_ (fun _ => ?_))
theorem cmp_Or_int.mono : ∀ a0 k, LeO (cmp_Or_int.f k a0) (cmp_Or_int.f (k + 1) a0) := by
 intro a0 k
 have ih0 := cmp_Or_int.mono_l k
 unfold cmp_Or_int.f
 repeat' (first | (with_reducible first | exact ih0 _ _ _ _ | exact LeO.refl _ | exact LeO.none _ | refine LeO.ite ?_ ?_ | refine LeO.bind ?_ (fun _ => ?_)) | exact ih0 _ _ _ _ | exact LeO.none _ | refine LeO.ite ?_ ?_ | refine LeO.bind ?_ (fun _ => ?_))
set_option maxHeartbeats 8000000 in
set_option maxRecDepth 100000 in
theorem cmp_Or_int.calls (k : Nat) (A0 : Option Addr) (c0 : Nat) (l0 : List Int) (r : Int) (w : World) (hr0 : Kd.C (Kd.int .i64) w A0 l0.length l0) (hc0 : l0.length ≤ c0) (h : cmp_Or_int.f k l0 = some r) :
  Calls Try.prog 231 #[.slice A0 l0.length c0] w fun e w' => e = .returned (.int .i64 r) ∧ Drawn0 w w' := by
 have HR0 := Aside0.mk hr0; have HC0 := Aside0.mk hc0; clear hr0 hc0
 have H : (cmp_Or_int.l0 k 0 l0 (l0.length : Int) 0) = some r := h
 clear h
 have H' := Aside0.mk H
 clear H
 go_enter Try.func231, Try.ntmps231
 go_wp2
 go_loopg [8] k (fun kq v8 w' => ∃ (x8_1 : Int), v8 = .int .i64 x8_1 ∧ Aside0 (cmp_Or_int.l0 kq 0 l0 (l0.length : Int) x8_1 = some r) ∧ Aside0 (kq ≤ k) ∧ Drawn0 w w')
 case atStart => exact ⟨(0), er, H', ⟨Nat.le_refl _⟩, drw⟩
 case round =>
  clear H'
  obtain ⟨x8_1, rfl, HA, HK1, ⟨m1, rfl⟩⟩ := hrel
  cases gk with
  | zero => exact absurd HA.out (by simp [cmp_Or_int.l0])
  | succ k1 =>
   have H := HA.out; clear HA
   simp only [cmp_Or_int.l0] at H
   by_cases c2 : x8_1 < (l0.length : Int)
   ·rw [if_pos c2] at H
    have c2b0 : decide (x8_1 < (l0.length : Int)) = true := decide_eq_true c2
    clear c2; replace H := ifS H; obtain ⟨c3, H⟩ := H; have c3b0 := decide_eq_true c3; clear c3; replace H := ifS H; obtain ⟨c4, H⟩ := H; have c4b0 := decide_eq_true c4; clear c4
    by_cases c5 : (rd l0 x8_1) = 0
    ·rw [if_pos c5] at H
     have c5b0 : ((rd l0 x8_1) == 0) = true := beq_iff_eq.mpr c5
     have c5b1 : ((rd l0 x8_1) != 0) = false := bne_eq_false_iff_eq.mpr c5
     clear c5
     have H' := Aside0.mk H
     clear H
     have p195 : 0 ≤ (x8_1 : Int) := da
     have q195 : x8_1 < (l0.length : Int) := da
     obtain ⟨ad195, e195, hx195_0⟩ := Kd.at_int HR0.out x8_1 p195 q195
     cases e195
     replace p195 := eq_true p195; replace q195 := eq_true q195; go_wp2
     go_roundg k1
     case measure => have := HK1.out; omega
     case rel => exact ⟨(wrap64 (x8_1 + 1)), er, H', ⟨by have := HK1.out; omega⟩, drw⟩
    ·rw [if_neg c5] at H
     have c5b0 : ((rd l0 x8_1) == 0) = false := beq_eq_false_iff_ne.mpr c5
     have c5b1 : ((rd l0 x8_1) != 0) = true := bne_iff_ne.mpr c5
     obtain rfl := Option.some.inj H
     have p195 : 0 ≤ (x8_1 : Int) := da
     have q195 : x8_1 < (l0.length : Int) := da
     obtain ⟨ad195, e195, hx195_0⟩ := Kd.at_int HR0.out x8_1 p195 q195
     cases e195
     replace p195 := eq_true p195; replace q195 := eq_true q195; go_wp2
     go_ret
     exact ⟨er, drw⟩
   ·rw [if_neg c2] at H
    have c2b0 : decide (x8_1 < (l0.length : Int)) = false := decide_eq_false c2
    clear c2
    obtain rfl := Option.some.inj H
    go_wp2
    go_ret
    exact ⟨er, drw⟩

/-! ### cmp_isNaN_int: function 237 -/
def cmp_isNaN_int.f (a0 : Int) : Option (Bool) := some (a0 != a0)
set_option maxHeartbeats 8000000 in
set_option maxRecDepth 100000 in
theorem cmp_isNaN_int.calls (a0 : Int) (r : Bool) (w : World) (h : cmp_isNaN_int.f a0 = some r) :
  Calls Try.prog 237 #[.int .i64 a0] w fun e w' => e = .returned (.bool r) ∧ Drawn0 w w' := by
 have H : (some (a0 != a0)) = some r := h
 clear h
 obtain rfl := Option.some.inj H
 go_enter Try.func237, Try.ntmps237
 go_wp2
 go_ret
 exact ⟨er, drw⟩

end Go.Proofs.Ytkgogglnipdcfaa.QFnScores
