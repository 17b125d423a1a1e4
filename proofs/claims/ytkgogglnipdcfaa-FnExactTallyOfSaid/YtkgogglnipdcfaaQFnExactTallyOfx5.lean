-- printed by this session's own program (wip/tools/pp.py: the kit's print.py with changes); Lean checks it
import Derived.Test.YtkgogglnipdcfaaQFnExactTallyOfx0
import Derived.Test.YtkgogglnipdcfaaQFnExactTallyOfx1
import Derived.Test.YtkgogglnipdcfaaQFnExactTallyOfx4
namespace Go.Proofs.Ytkgogglnipdcfaa.QFnExactTallyOf
open Go.RowKit Go.Proofs.YtkgogglnipdcfaaW.PrintWords Go.Proofs.YtkgogglnipdcfaaW.PrintLast Go.Proofs.YtkgogglnipdcfaaW.PrintMore
attribute [local go_sem] max2_int min2_int max_two min_two max_three min_three max_four min_four strLss strGtr strLeq strGeq   -- for this text's walks alone
set_option linter.unusedVariables false
set_option linter.unusedSimpArgs false

attribute [local go_sem high] eqA85
/-! ### spec_l12Refused: function 207 -/
mutual
def spec_l12Refused.l0 : Nat → List (S91) → List Int → Int → Int → Int → Int → Option (List Int)
  | 0, _, _, _, _, _, _ => none
  | k + 1, x0, x5, x6, x196000, x196001, x196002 => if x6 < 7 then (spec_l12Refused.l1 k x0 x5 x6 false false x0 (x0.length : Int) 0 x196000 x196001 x196002) else (some x5)
def spec_l12Refused.l1 : Nat → List (S91) → List Int → Int → Bool → Bool → List (S91) → Int → Int → Int → Int → Int → Option (List Int)
  | 0, _, _, _, _, _, _, _, _, _, _, _ => none
  | k + 1, x0, x5, x6, x7, x8, x15, x16, x17, x196000, x196001, x196002 => if x17 < x16 then (if 0 ≤ x17 then (if x17 < (x15.length : Int) then (if ((rd_T91 x15 x17).f0) = x6 then (if (((rd_T91 x15 x17).f1.f0) == x196000 && (((rd_T91 x15 x17).f1.f1) == x196001 && (((rd_T91 x15 x17).f1.f2) == x196002))) = true then (if x7 = true then (if x8 = true then (spec_l12Refused.l1 k x0 x5 x6 true true x15 x16 (wrap64 (x17 + 1)) x196000 x196001 x196002) else (spec_l12Refused.l1 k x0 x5 x6 true (!((rd_T91 x15 x17).f2)) x15 x16 (wrap64 (x17 + 1)) x196000 x196001 x196002)) else (if x8 = true then (spec_l12Refused.l1 k x0 x5 x6 ((rd_T91 x15 x17).f2) true x15 x16 (wrap64 (x17 + 1)) x196000 x196001 x196002) else (spec_l12Refused.l1 k x0 x5 x6 ((rd_T91 x15 x17).f2) (!((rd_T91 x15 x17).f2)) x15 x16 (wrap64 (x17 + 1)) x196000 x196001 x196002))) else (spec_l12Refused.l1 k x0 x5 x6 x7 x8 x15 x16 (wrap64 (x17 + 1)) x196000 x196001 x196002)) else (spec_l12Refused.l1 k x0 x5 x6 x7 x8 x15 x16 (wrap64 (x17 + 1)) x196000 x196001 x196002)) else (none)) else (none)) else (if x7 = true then (if x8 = true then (spec_l12Refused.l0 k x0 x5 (wrap64 (x6 + 1)) x196000 x196001 x196002) else (if x5.length < 17592186044416 then (spec_l12Refused.l0 k x0 (x5 ++ [x6]) (wrap64 (x6 + 1)) x196000 x196001 x196002) else (none))) else (spec_l12Refused.l0 k x0 x5 (wrap64 (x6 + 1)) x196000 x196001 x196002))
end
def spec_l12Refused.f (k : Nat) (l0 : List (S91)) (a1_0 : Int) (a1_1 : Int) (a1_2 : Int) : Option (List Int) := spec_l12Refused.l0 k l0 ([] : List Int) 0 a1_0 a1_1 a1_2
theorem spec_l12Refused.mono_l : ∀ k, (∀ y0 y1 y2 y3 y4 y5, LeO (spec_l12Refused.l0 k y0 y1 y2 y3 y4 y5) (spec_l12Refused.l0 (k + 1) y0 y1 y2 y3 y4 y5)) ∧ (∀ y0 y1 y2 y3 y4 y5 y6 y7 y8 y9 y10, LeO (spec_l12Refused.l1 k y0 y1 y2 y3 y4 y5 y6 y7 y8 y9 y10) (spec_l12Refused.l1 (k + 1) y0 y1 y2 y3 y4 y5 y6 y7 y8 y9 y10))
 | 0 => ⟨fun _ _ _ _ _ _ r h => by simp [spec_l12Refused.l0] at h, fun _ _ _ _ _ _ _ _ _ _ _ r h => by simp [spec_l12Refused.l1] at h⟩
 | k + 1 => by
  obtain ⟨ih0, ih1⟩ := spec_l12Refused.mono_l k
  refine ⟨?_, ?_⟩
  ·intro y0 y1 y2 y3 y4 y5
   unfold spec_l12Refused.l0
   repeat' (first | (with_reducible first | exact ih0 _ _ _ _ _ _ | exact ih1 _ _ _ _ _ _ _ _ _ _ _ | exact LeO.refl _ | exact LeO.none _ | refine LeO.ite ?_ ?_ | refine LeO.bind ?_ (fun _ => ?_)) | exact ih0 _ _ _ _ _ _ | exact ih1 _ _ _ _ _ _ _ _ _ _ _ | exact LeO.none _ | refine LeO.ite ?_ ?_ | refine LeO.bind ?_ (fun _ => ?_))
  ·intro y0 y1 y2 y3 y4 y5 y6 y7 y8 y9 y10
   unfold spec_l12Refused.l1
   repeat' (first | (with_reducible first | exact ih0 _ _ _ _ _ _ | exact ih1 _ _ _ _ _ _ _ _ _ _ _ | exact LeO.refl _ | exact LeO.none _ | refine LeO.ite ?_ ?_ | refine LeO.bind ?_ (fun _ => ?_)) | exact ih0 _ _ _ _ _ _ | exact ih1 _ _ _ _ _ _ _ _ _ _ _ | exact LeO.none _ | refine LeO.ite ?_ ?_ | refine LeO.bind ?_ (fun _ => ?_))
theorem spec_l12Refused.mono : ∀ a0 a1 a2 a3 k, LeO (spec_l12Refused.f k a0 a1 a2 a3) (spec_l12Refused.f (k + 1) a0 a1 a2 a3) := by
 intro a0 a1 a2 a3 k
 obtain ⟨ih0, ih1⟩ := spec_l12Refused.mono_l k
 unfold spec_l12Refused.f
 repeat' (first | (with_reducible first | exact ih0 _ _ _ _ _ _ | exact ih1 _ _ _ _ _ _ _ _ _ _ _ | exact LeO.refl _ | exact LeO.none _ | refine LeO.ite ?_ ?_ | refine LeO.bind ?_ (fun _ => ?_)) | exact ih0 _ _ _ _ _ _ | exact ih1 _ _ _ _ _ _ _ _ _ _ _ | exact LeO.none _ | refine LeO.ite ?_ ?_ | refine LeO.bind ?_ (fun _ => ?_))
set_option maxHeartbeats 8000000 in
set_option maxRecDepth 100000 in
theorem spec_l12Refused.calls (k : Nat) (A0 : Option Addr) (c0 : Nat) (l0 : List (S91)) (a1_0 : Int) (a1_1 : Int) (a1_2 : Int) (r : List Int) (w : World) (hr0 : Kd.C k91 w A0 l0.length l0) (hc0 : l0.length ≤ c0) (h : spec_l12Refused.f k l0 a1_0 a1_1 a1_2 = some r) :
  Calls Try.prog 207 #[.slice A0 l0.length c0, .agg #[.int .i64 a1_0, .int .i64 a1_1, .int .i64 a1_2]] w fun e w' => ∃ v0_ : Value, e = .returned (v0_) ∧ Kd.R (Kd.int .i64) 3 w' w.heap.size (fun _ => True) v0_ r ∧ Below w.heap.size w w' := by
 have hu85 := Try.underlying85
 have hu91 := Try.underlying91
 have HR0 := Aside0.mk hr0; have HC0 := Aside0.mk hc0; clear hr0 hc0
 have HB := Aside0.mk (Below.refl w.heap.size w)
 have H : (spec_l12Refused.l0 k l0 ([] : List Int) 0 a1_0 a1_1 a1_2) = some r := h
 clear h
 have H' := Aside0.mk H
 clear H
 go_enter Try.func207, Try.ntmps207
 go_wp2_with (first | ((with_reducible refine gate_dst (N := 3) rfl ?_); refine boxev 3 #[.int .i64 a1_0, .int .i64 a1_1, .int .i64 a1_2] 85 ?_; intro gb195 hg w3 hbox hb; have BK195 := ak (hbox); have GW195 := ak (hgl hg (belowd HB)); have GE195 := ak (hgl hg (belowd HB)); replace HB := ak (below_step (belowd HB) hb); clear hb hbox hg))
 go_loopg [5, 6] k (fun kq v5 v6 w' => ∃ (x5_1 : List Int) (x6_1 : Int), v6 = .int .i64 x6_1 ∧ Aside0 (spec_l12Refused.l0 kq l0 x5_1 x6_1 a1_0 a1_1 a1_2 = some r) ∧ Aside0 (kq ≤ k) ∧ Aside0 (Kd.R (Kd.int .i64) 3 w' w.heap.size (fun _ => True) v5 x5_1) ∧ Aside0 (w'.heap[gb195]? = some (.cells #[.int .i64 a1_0, .int .i64 a1_1, .int .i64 a1_2] 85 (0, 0))) ∧ Aside0 (Below w.heap.size w w'))
 case atStart => exact ⟨(([] : List Int)), (0), er, H', ⟨Nat.le_refl _⟩, ⟨by first | exact Kd.R_nil _ _ _ _ _ | exact Kd.N_nil _ _ _ _ _ | exact Kd.V_nil _ _ _ _ _ | exact Kd.Q_nil _ _ _ _ _ | exact Kd.S_nil _ _ _ _ _⟩, ⟨blkd BK195⟩, ⟨belowg1 HB GE195⟩⟩
 case round =>
  clear H'
  obtain ⟨x5_1, x6_1, rfl, HA, HK1, HO_5, BK195, HB⟩ := hrel
  cases gk with
  | zero => exact absurd HA.out (by simp [spec_l12Refused.l0])
  | succ k1 =>
   have H := HA.out; clear HA
   simp only [spec_l12Refused.l0] at H
   by_cases c4 : x6_1 < 7
   ·rw [if_pos c4] at H
    have c4b0 : decide (x6_1 < 7) = true := decide_eq_true c4
    clear c4
    have H' := Aside0.mk H
    clear H; go_wp2
    go_loopg [7, 8, 17] k1 (fun kq v7 v8 v17 w' => ∃ (x7_2 : Bool) (x8_2 : Bool) (x17_2 : Int), v7 = .bool x7_2 ∧ v8 = .bool x8_2 ∧ v17 = .int .i64 x17_2 ∧ Aside0 (spec_l12Refused.l1 kq l0 x5_1 x6_1 x7_2 x8_2 l0 (l0.length : Int) x17_2 a1_0 a1_1 a1_2 = some r) ∧ Aside0 (kq ≤ k1) ∧ Aside0 (Kd.R (Kd.int .i64) 3 w' w.heap.size (fun _ => True) u5 x5_1) ∧ Aside0 (w'.heap[gb195]? = some (.cells #[.int .i64 a1_0, .int .i64 a1_1, .int .i64 a1_2] 85 (0, 0))) ∧ Aside0 (Below w.heap.size w w'))
    case atStart => exact ⟨(false), (false), (0), er, er, er, H', ⟨Nat.le_refl _⟩, ⟨rdl HO_5⟩, ⟨blkd BK195⟩, ⟨belowg1 HB GE195⟩⟩
    case round =>
     clear H'
     (try clear c4b0)
     obtain ⟨x7_2, x8_2, x17_2, rfl, rfl, rfl, HA, HK2, HO_5, BK195, HB⟩ := hrel
     cases gk with
     | zero => exact absurd HA.out (by simp [spec_l12Refused.l1])
     | succ k2 =>
      have H := HA.out; clear HA
      simp only [spec_l12Refused.l1] at H
      by_cases c5 : x17_2 < (l0.length : Int)
      ·rw [if_pos c5] at H
       have c5b0 : decide (x17_2 < (l0.length : Int)) = true := decide_eq_true c5
       clear c5; replace H := ifS H; obtain ⟨c6, H⟩ := H; have c6b0 := decide_eq_true c6; clear c6; replace H := ifS H; obtain ⟨c7, H⟩ := H; have c7b0 := decide_eq_true c7; clear c7
       by_cases c8 : ((rd_T91 l0 x17_2).f0) = x6_1
       ·rw [if_pos c8] at H
        have c8b0 : (((rd_T91 l0 x17_2).f0) == x6_1) = true := beq_iff_eq.mpr c8
        have c8b1 : (((rd_T91 l0 x17_2).f0) != x6_1) = false := bne_eq_false_iff_eq.mpr c8
        clear c8
        by_cases c9 : (((rd_T91 l0 x17_2).f1.f0) == a1_0 && (((rd_T91 l0 x17_2).f1.f1) == a1_1 && (((rd_T91 l0 x17_2).f1.f2) == a1_2))) = true
        ·rw [if_pos c9] at H
         have c9b0 : (((rd_T91 l0 x17_2).f1.f0) == a1_0 && (((rd_T91 l0 x17_2).f1.f1) == a1_1 && (((rd_T91 l0 x17_2).f1.f2) == a1_2))) = true := c9
         (try (have c9b1 : decide (((rd_T91 l0 x17_2).f1.f0) = a1_0 && (((rd_T91 l0 x17_2).f1.f1) == a1_1 && (((rd_T91 l0 x17_2).f1.f2) == a1_2))) = true := by simpa using c9))
         (try (have c9b2 : (((rd_T91 l0 x17_2).f1.f0) == a1_0 && (((rd_T91 l0 x17_2).f1.f1) == a1_1 && (((rd_T91 l0 x17_2).f1.f2) == a1_2))) = true := by simpa using c9))
         clear c9
         by_cases c10 : x7_2 = true
         ·subst c10
          have H1 : (if x8_2 = true then (spec_l12Refused.l1 k2 l0 x5_1 x6_1 true true l0 (l0.length : Int) (wrap64 (x17_2 + 1)) a1_0 a1_1 a1_2) else (spec_l12Refused.l1 k2 l0 x5_1 x6_1 true (!((rd_T91 l0 x17_2).f2)) l0 (l0.length : Int) (wrap64 (x17_2 + 1)) a1_0 a1_1 a1_2)) = some r := by rw [if_pos rfl] at H; exact H
          clear H
          have H := H1
          clear H1
          by_cases c11 : x8_2 = true
          ·subst c11
           have H1 : (spec_l12Refused.l1 k2 l0 x5_1 x6_1 true true l0 (l0.length : Int) (wrap64 (x17_2 + 1)) a1_0 a1_1 a1_2) = some r := by rw [if_pos rfl] at H; exact H
           clear H
           have H := H1
           clear H1
           have H' := Aside0.mk H
           clear H
           have p196 : 0 ≤ (x17_2 : Int) := da
           have q196 : x17_2 < (l0.length : Int) := da
           obtain ⟨ad196, e196, hx196_0, hx196_1, hx196_2, hx196_3, hx196_4⟩ := at_T91 HR0.out x17_2 p196 q196
           cases e196
           replace hx196_0 := (HB.out.cell (World.block_lt_of_cell? w _ hx196_0)).trans hx196_0
           replace hx196_1 := (HB.out.cell (World.block_lt_of_cell? w _ hx196_1)).trans hx196_1
           replace hx196_2 := (HB.out.cell (World.block_lt_of_cell? w _ hx196_2)).trans hx196_2
           replace hx196_3 := (HB.out.cell (World.block_lt_of_cell? w _ hx196_3)).trans hx196_3
           replace hx196_4 := (HB.out.cell (World.block_lt_of_cell? w _ hx196_4)).trans hx196_4
           replace p196 := eq_true p196; replace q196 := eq_true q196
           go_wp2_with (first | ((with_reducible refine gate_dst (N := 10) rfl ?_); refine boxev 10 #[.int .i64 0, .int .i64 0, .int .i64 0, .int .i64 0, .bool false] 91 ?_; intro gb197 hg w12 hbox hb; replace HO_5 := ak (Kd.R_below (rdl HO_5) hb); have BK197 := ak (hbox); have GW197 := ak (hgl hg (belowg1 HB GE195)); have GE197 := ak (hgl hg (belowg1 HB GE195)); replace HB := ak (below_step (belowg1 HB GE195) hb); have NB195_197 := ak ((by rw [hg]; exact Nat.ne_of_lt (blk_lt (blkd BK195)) : gb195 ≠ gb197)); have NB197_195 := ak ((by rw [hg]; exact Nat.ne_of_gt (blk_lt (blkd BK195)) : gb197 ≠ gb195)); replace BK195 := ak (blk_below (blkd BK195) hb); clear hb hbox hg; have hnb13 := NB197_195.out; have hnc13 := NB195_197.out; obtain ⟨hcz14_0, hcz14_1, hcz14_2, hcz14_3, hcz14_4, hfz14_0, hfz14_1, hfz14_2, hfz14_3, hfz14_4⟩ := box5 BK197; obtain ⟨hcz15_0, hcz15_1, hcz15_2, hfz15_0, hfz15_1, hfz15_2⟩ := box3 BK195))
           go_roundg k2
           case measure => have := HK1.out; have := HK2.out; omega
           case rel => exact ⟨(true), (true), (wrap64 (x17_2 + 1)), er, er, er, H', ⟨by have := HK1.out; have := HK2.out; omega⟩, ⟨by (with_reducible repeat (first | apply Kd.R_alloc | apply Kd.R_drewN | apply Kd.R_drew)); exact Kd.R_mono (farsR (Kd.R_types HO_5.out BK197.out (by decide))) (fun _ hk => trivial)⟩, ⟨by (with_reducible repeat (first | refine blk_drewN ?_ _ | refine blk_drew ?_ | refine blk_alloc ?_ _)); refine blk_far ?_ NB195_197.out _; (with_reducible repeat (first | refine blk_drewN ?_ _ | refine blk_drew ?_ | refine blk_alloc ?_ _)); refine blk_far ?_ NB195_197.out _; (with_reducible repeat (first | refine blk_drewN ?_ _ | refine blk_drew ?_ | refine blk_alloc ?_ _)); refine blk_far ?_ NB195_197.out _; (with_reducible repeat (first | refine blk_drewN ?_ _ | refine blk_drew ?_ | refine blk_alloc ?_ _)); refine blk_far ?_ NB195_197.out _; (with_reducible repeat (first | refine blk_drewN ?_ _ | refine blk_drew ?_ | refine blk_alloc ?_ _)); refine blk_far ?_ NB195_197.out _; (with_reducible repeat (first | refine blk_drewN ?_ _ | refine blk_drew ?_ | refine blk_alloc ?_ _)); exact BK195.out⟩, ⟨belowg2 HB GE195 GE197⟩⟩
          ·replace c11 := Bool.eq_false_iff.mpr c11
           subst c11
           have H1 : (spec_l12Refused.l1 k2 l0 x5_1 x6_1 true (!((rd_T91 l0 x17_2).f2)) l0 (l0.length : Int) (wrap64 (x17_2 + 1)) a1_0 a1_1 a1_2) = some r := by rw [if_neg (show ¬ (false = true) by decide)] at H; exact H
           clear H
           have H := H1
           clear H1
           have H' := Aside0.mk H
           clear H
           have p196 : 0 ≤ (x17_2 : Int) := da
           have q196 : x17_2 < (l0.length : Int) := da
           obtain ⟨ad196, e196, hx196_0, hx196_1, hx196_2, hx196_3, hx196_4⟩ := at_T91 HR0.out x17_2 p196 q196
           cases e196
           replace hx196_0 := (HB.out.cell (World.block_lt_of_cell? w _ hx196_0)).trans hx196_0
           replace hx196_1 := (HB.out.cell (World.block_lt_of_cell? w _ hx196_1)).trans hx196_1
           replace hx196_2 := (HB.out.cell (World.block_lt_of_cell? w _ hx196_2)).trans hx196_2
           replace hx196_3 := (HB.out.cell (World.block_lt_of_cell? w _ hx196_3)).trans hx196_3
           replace hx196_4 := (HB.out.cell (World.block_lt_of_cell? w _ hx196_4)).trans hx196_4
           replace p196 := eq_true p196; replace q196 := eq_true q196
           go_wp2_with (first | ((with_reducible refine gate_dst (N := 10) rfl ?_); refine boxev 10 #[.int .i64 0, .int .i64 0, .int .i64 0, .int .i64 0, .bool false] 91 ?_; intro gb197 hg w16 hbox hb; replace HO_5 := ak (Kd.R_below (rdl HO_5) hb); have BK197 := ak (hbox); have GW197 := ak (hgl hg (belowg1 HB GE195)); have GE197 := ak (hgl hg (belowg1 HB GE195)); replace HB := ak (below_step (belowg1 HB GE195) hb); have NB195_197 := ak ((by rw [hg]; exact Nat.ne_of_lt (blk_lt (blkd BK195)) : gb195 ≠ gb197)); have NB197_195 := ak ((by rw [hg]; exact Nat.ne_of_gt (blk_lt (blkd BK195)) : gb197 ≠ gb195)); replace BK195 := ak (blk_below (blkd BK195) hb); clear hb hbox hg; have hnb17 := NB197_195.out; have hnc17 := NB195_197.out; obtain ⟨hcz18_0, hcz18_1, hcz18_2, hcz18_3, hcz18_4, hfz18_0, hfz18_1, hfz18_2, hfz18_3, hfz18_4⟩ := box5 BK197; obtain ⟨hcz19_0, hcz19_1, hcz19_2, hfz19_0, hfz19_1, hfz19_2⟩ := box3 BK195))
           go_roundg k2
           case measure => have := HK1.out; have := HK2.out; omega
           case rel => exact ⟨(true), (!((rd_T91 l0 x17_2).f2)), (wrap64 (x17_2 + 1)), er, er, er, H', ⟨by have := HK1.out; have := HK2.out; omega⟩, ⟨by (with_reducible repeat (first | apply Kd.R_alloc | apply Kd.R_drewN | apply Kd.R_drew)); exact Kd.R_mono (farsR (Kd.R_types HO_5.out BK197.out (by decide))) (fun _ hk => trivial)⟩, ⟨by (with_reducible repeat (first | refine blk_drewN ?_ _ | refine blk_drew ?_ | refine blk_alloc ?_ _)); refine blk_far ?_ NB195_197.out _; (with_reducible repeat (first | refine blk_drewN ?_ _ | refine blk_drew ?_ | refine blk_alloc ?_ _)); refine blk_far ?_ NB195_197.out _; (with_reducible repeat (first | refine blk_drewN ?_ _ | refine blk_drew ?_ | refine blk_alloc ?_ _)); refine blk_far ?_ NB195_197.out _; (with_reducible repeat (first | refine blk_drewN ?_ _ | refine blk_drew ?_ | refine blk_alloc ?_ _)); refine blk_far ?_ NB195_197.out _; (with_reducible repeat (first | refine blk_drewN ?_ _ | refine blk_drew ?_ | refine blk_alloc ?_ _)); refine blk_far ?_ NB195_197.out _; (with_reducible repeat (first | refine blk_drewN ?_ _ | refine blk_drew ?_ | refine blk_alloc ?_ _)); exact BK195.out⟩, ⟨belowg2 HB GE195 GE197⟩⟩
         ·replace c10 := Bool.eq_false_iff.mpr c10
          subst c10
          have H1 : (if x8_2 = true then (spec_l12Refused.l1 k2 l0 x5_1 x6_1 ((rd_T91 l0 x17_2).f2) true l0 (l0.length : Int) (wrap64 (x17_2 + 1)) a1_0 a1_1 a1_2) else (spec_l12Refused.l1 k2 l0 x5_1 x6_1 ((rd_T91 l0 x17_2).f2) (!((rd_T91 l0 x17_2).f2)) l0 (l0.length : Int) (wrap64 (x17_2 + 1)) a1_0 a1_1 a1_2)) = some r := by rw [if_neg (show ¬ (false = true) by decide)] at H; exact H
          clear H
          have H := H1
          clear H1
          by_cases c20 : x8_2 = true
          ·subst c20
           have H1 : (spec_l12Refused.l1 k2 l0 x5_1 x6_1 ((rd_T91 l0 x17_2).f2) true l0 (l0.length : Int) (wrap64 (x17_2 + 1)) a1_0 a1_1 a1_2) = some r := by rw [if_pos rfl] at H; exact H
           clear H
           have H := H1
           clear H1
           have H' := Aside0.mk H
           clear H
           have p196 : 0 ≤ (x17_2 : Int) := da
           have q196 : x17_2 < (l0.length : Int) := da
           obtain ⟨ad196, e196, hx196_0, hx196_1, hx196_2, hx196_3, hx196_4⟩ := at_T91 HR0.out x17_2 p196 q196
           cases e196
           replace hx196_0 := (HB.out.cell (World.block_lt_of_cell? w _ hx196_0)).trans hx196_0
           replace hx196_1 := (HB.out.cell (World.block_lt_of_cell? w _ hx196_1)).trans hx196_1
           replace hx196_2 := (HB.out.cell (World.block_lt_of_cell? w _ hx196_2)).trans hx196_2
           replace hx196_3 := (HB.out.cell (World.block_lt_of_cell? w _ hx196_3)).trans hx196_3
           replace hx196_4 := (HB.out.cell (World.block_lt_of_cell? w _ hx196_4)).trans hx196_4
           replace p196 := eq_true p196; replace q196 := eq_true q196
           go_wp2_with (first | ((with_reducible refine gate_dst (N := 10) rfl ?_); refine boxev 10 #[.int .i64 0, .int .i64 0, .int .i64 0, .int .i64 0, .bool false] 91 ?_; intro gb197 hg w21 hbox hb; replace HO_5 := ak (Kd.R_below (rdl HO_5) hb); have BK197 := ak (hbox); have GW197 := ak (hgl hg (belowg1 HB GE195)); have GE197 := ak (hgl hg (belowg1 HB GE195)); replace HB := ak (below_step (belowg1 HB GE195) hb); have NB195_197 := ak ((by rw [hg]; exact Nat.ne_of_lt (blk_lt (blkd BK195)) : gb195 ≠ gb197)); have NB197_195 := ak ((by rw [hg]; exact Nat.ne_of_gt (blk_lt (blkd BK195)) : gb197 ≠ gb195)); replace BK195 := ak (blk_below (blkd BK195) hb); clear hb hbox hg; have hnb22 := NB197_195.out; have hnc22 := NB195_197.out; obtain ⟨hcz23_0, hcz23_1, hcz23_2, hcz23_3, hcz23_4, hfz23_0, hfz23_1, hfz23_2, hfz23_3, hfz23_4⟩ := box5 BK197; obtain ⟨hcz24_0, hcz24_1, hcz24_2, hfz24_0, hfz24_1, hfz24_2⟩ := box3 BK195))
           go_roundg k2
           case measure => have := HK1.out; have := HK2.out; omega
           case rel => exact ⟨((rd_T91 l0 x17_2).f2), (true), (wrap64 (x17_2 + 1)), er, er, er, H', ⟨by have := HK1.out; have := HK2.out; omega⟩, ⟨by (with_reducible repeat (first | apply Kd.R_alloc | apply Kd.R_drewN | apply Kd.R_drew)); exact Kd.R_mono (farsR (Kd.R_types HO_5.out BK197.out (by decide))) (fun _ hk => trivial)⟩, ⟨by (with_reducible repeat (first | refine blk_drewN ?_ _ | refine blk_drew ?_ | refine blk_alloc ?_ _)); refine blk_far ?_ NB195_197.out _; (with_reducible repeat (first | refine blk_drewN ?_ _ | refine blk_drew ?_ | refine blk_alloc ?_ _)); refine blk_far ?_ NB195_197.out _; (with_reducible repeat (first | refine blk_drewN ?_ _ | refine blk_drew ?_ | refine blk_alloc ?_ _)); refine blk_far ?_ NB195_197.out _; (with_reducible repeat (first | refine blk_drewN ?_ _ | refine blk_drew ?_ | refine blk_alloc ?_ _)); refine blk_far ?_ NB195_197.out _; (with_reducible repeat (first | refine blk_drewN ?_ _ | refine blk_drew ?_ | refine blk_alloc ?_ _)); refine blk_far ?_ NB195_197.out _; (with_reducible repeat (first | refine blk_drewN ?_ _ | refine blk_drew ?_ | refine blk_alloc ?_ _)); exact BK195.out⟩, ⟨belowg2 HB GE195 GE197⟩⟩
          ·replace c20 := Bool.eq_false_iff.mpr c20
           subst c20
           have H1 : (spec_l12Refused.l1 k2 l0 x5_1 x6_1 ((rd_T91 l0 x17_2).f2) (!((rd_T91 l0 x17_2).f2)) l0 (l0.length : Int) (wrap64 (x17_2 + 1)) a1_0 a1_1 a1_2) = some r := by rw [if_neg (show ¬ (false = true) by decide)] at H; exact H
           clear H
           have H := H1
           clear H1
           have H' := Aside0.mk H
           clear H
           have p196 : 0 ≤ (x17_2 : Int) := da
           have q196 : x17_2 < (l0.length : Int) := da
           obtain ⟨ad196, e196, hx196_0, hx196_1, hx196_2, hx196_3, hx196_4⟩ := at_T91 HR0.out x17_2 p196 q196
           cases e196
           replace hx196_0 := (HB.out.cell (World.block_lt_of_cell? w _ hx196_0)).trans hx196_0
           replace hx196_1 := (HB.out.cell (World.block_lt_of_cell? w _ hx196_1)).trans hx196_1
           replace hx196_2 := (HB.out.cell (World.block_lt_of_cell? w _ hx196_2)).trans hx196_2
           replace hx196_3 := (HB.out.cell (World.block_lt_of_cell? w _ hx196_3)).trans hx196_3
           replace hx196_4 := (HB.out.cell (World.block_lt_of_cell? w _ hx196_4)).trans hx196_4
           replace p196 := eq_true p196; replace q196 := eq_true q196
           go_wp2_with (first | ((with_reducible refine gate_dst (N := 10) rfl ?_); refine boxev 10 #[.int .i64 0, .int .i64 0, .int .i64 0, .int .i64 0, .bool false] 91 ?_; intro gb197 hg w25 hbox hb; replace HO_5 := ak (Kd.R_below (rdl HO_5) hb); have BK197 := ak (hbox); have GW197 := ak (hgl hg (belowg1 HB GE195)); have GE197 := ak (hgl hg (belowg1 HB GE195)); replace HB := ak (below_step (belowg1 HB GE195) hb); have NB195_197 := ak ((by rw [hg]; exact Nat.ne_of_lt (blk_lt (blkd BK195)) : gb195 ≠ gb197)); have NB197_195 := ak ((by rw [hg]; exact Nat.ne_of_gt (blk_lt (blkd BK195)) : gb197 ≠ gb195)); replace BK195 := ak (blk_below (blkd BK195) hb); clear hb hbox hg; have hnb26 := NB197_195.out; have hnc26 := NB195_197.out; obtain ⟨hcz27_0, hcz27_1, hcz27_2, hcz27_3, hcz27_4, hfz27_0, hfz27_1, hfz27_2, hfz27_3, hfz27_4⟩ := box5 BK197; obtain ⟨hcz28_0, hcz28_1, hcz28_2, hfz28_0, hfz28_1, hfz28_2⟩ := box3 BK195))
           go_roundg k2
           case measure => have := HK1.out; have := HK2.out; omega
           case rel => exact ⟨((rd_T91 l0 x17_2).f2), (!((rd_T91 l0 x17_2).f2)), (wrap64 (x17_2 + 1)), er, er, er, H', ⟨by have := HK1.out; have := HK2.out; omega⟩, ⟨by (with_reducible repeat (first | apply Kd.R_alloc | apply Kd.R_drewN | apply Kd.R_drew)); exact Kd.R_mono (farsR (Kd.R_types HO_5.out BK197.out (by decide))) (fun _ hk => trivial)⟩, ⟨by (with_reducible repeat (first | refine blk_drewN ?_ _ | refine blk_drew ?_ | refine blk_alloc ?_ _)); refine blk_far ?_ NB195_197.out _; (with_reducible repeat (first | refine blk_drewN ?_ _ | refine blk_drew ?_ | refine blk_alloc ?_ _)); refine blk_far ?_ NB195_197.out _; (with_reducible repeat (first | refine blk_drewN ?_ _ | refine blk_drew ?_ | refine blk_alloc ?_ _)); refine blk_far ?_ NB195_197.out _; (with_reducible repeat (first | refine blk_drewN ?_ _ | refine blk_drew ?_ | refine blk_alloc ?_ _)); refine blk_far ?_ NB195_197.out _; (with_reducible repeat (first | refine blk_drewN ?_ _ | refine blk_drew ?_ | refine blk_alloc ?_ _)); refine blk_far ?_ NB195_197.out _; (with_reducible repeat (first | refine blk_drewN ?_ _ | refine blk_drew ?_ | refine blk_alloc ?_ _)); exact BK195.out⟩, ⟨belowg2 HB GE195 GE197⟩⟩
        ·rw [if_neg c9] at H
         have c9b0 : (((rd_T91 l0 x17_2).f1.f0) == a1_0 && (((rd_T91 l0 x17_2).f1.f1) == a1_1 && (((rd_T91 l0 x17_2).f1.f2) == a1_2))) = false := by simpa using c9
         (try (have c9b1 : decide (((rd_T91 l0 x17_2).f1.f0) = a1_0 && (((rd_T91 l0 x17_2).f1.f1) == a1_1 && (((rd_T91 l0 x17_2).f1.f2) == a1_2))) = false := by simpa using c9))
         (try (have c9b2 : (((rd_T91 l0 x17_2).f1.f0) == a1_0 && (((rd_T91 l0 x17_2).f1.f1) == a1_1 && (((rd_T91 l0 x17_2).f1.f2) == a1_2))) = false := by simpa using c9))
         (try (have c9b3 : ¬ (((rd_T91 l0 x17_2).f1.f0) = a1_0 && (((rd_T91 l0 x17_2).f1.f1) == a1_1 && (((rd_T91 l0 x17_2).f1.f2) == a1_2))) := by simpa using c9))
         clear c9
         have H' := Aside0.mk H
         clear H
         have p196 : 0 ≤ (x17_2 : Int) := da
         have q196 : x17_2 < (l0.length : Int) := da
         obtain ⟨ad196, e196, hx196_0, hx196_1, hx196_2, hx196_3, hx196_4⟩ := at_T91 HR0.out x17_2 p196 q196
         cases e196
         replace hx196_0 := (HB.out.cell (World.block_lt_of_cell? w _ hx196_0)).trans hx196_0
         replace hx196_1 := (HB.out.cell (World.block_lt_of_cell? w _ hx196_1)).trans hx196_1
         replace hx196_2 := (HB.out.cell (World.block_lt_of_cell? w _ hx196_2)).trans hx196_2
         replace hx196_3 := (HB.out.cell (World.block_lt_of_cell? w _ hx196_3)).trans hx196_3
         replace hx196_4 := (HB.out.cell (World.block_lt_of_cell? w _ hx196_4)).trans hx196_4
         replace p196 := eq_true p196; replace q196 := eq_true q196
         go_wp2_with (first | ((with_reducible refine gate_dst (N := 10) rfl ?_); refine boxev 10 #[.int .i64 0, .int .i64 0, .int .i64 0, .int .i64 0, .bool false] 91 ?_; intro gb197 hg w29 hbox hb; replace HO_5 := ak (Kd.R_below (rdl HO_5) hb); have BK197 := ak (hbox); have GW197 := ak (hgl hg (belowg1 HB GE195)); have GE197 := ak (hgl hg (belowg1 HB GE195)); replace HB := ak (below_step (belowg1 HB GE195) hb); have NB195_197 := ak ((by rw [hg]; exact Nat.ne_of_lt (blk_lt (blkd BK195)) : gb195 ≠ gb197)); have NB197_195 := ak ((by rw [hg]; exact Nat.ne_of_gt (blk_lt (blkd BK195)) : gb197 ≠ gb195)); replace BK195 := ak (blk_below (blkd BK195) hb); clear hb hbox hg; have hnb30 := NB197_195.out; have hnc30 := NB195_197.out; obtain ⟨hcz31_0, hcz31_1, hcz31_2, hcz31_3, hcz31_4, hfz31_0, hfz31_1, hfz31_2, hfz31_3, hfz31_4⟩ := box5 BK197; obtain ⟨hcz32_0, hcz32_1, hcz32_2, hfz32_0, hfz32_1, hfz32_2⟩ := box3 BK195))
         go_roundg k2
         case measure => have := HK1.out; have := HK2.out; omega
         case rel => exact ⟨(x7_2), (x8_2), (wrap64 (x17_2 + 1)), er, er, er, H', ⟨by have := HK1.out; have := HK2.out; omega⟩, ⟨by (with_reducible repeat (first | apply Kd.R_alloc | apply Kd.R_drewN | apply Kd.R_drew)); exact Kd.R_mono (farsR (Kd.R_types HO_5.out BK197.out (by decide))) (fun _ hk => trivial)⟩, ⟨by (with_reducible repeat (first | refine blk_drewN ?_ _ | refine blk_drew ?_ | refine blk_alloc ?_ _)); refine blk_far ?_ NB195_197.out _; (with_reducible repeat (first | refine blk_drewN ?_ _ | refine blk_drew ?_ | refine blk_alloc ?_ _)); refine blk_far ?_ NB195_197.out _; (with_reducible repeat (first | refine blk_drewN ?_ _ | refine blk_drew ?_ | refine blk_alloc ?_ _)); refine blk_far ?_ NB195_197.out _; (with_reducible repeat (first | refine blk_drewN ?_ _ | refine blk_drew ?_ | refine blk_alloc ?_ _)); refine blk_far ?_ NB195_197.out _; (with_reducible repeat (first | refine blk_drewN ?_ _ | refine blk_drew ?_ | refine blk_alloc ?_ _)); refine blk_far ?_ NB195_197.out _; (with_reducible repeat (first | refine blk_drewN ?_ _ | refine blk_drew ?_ | refine blk_alloc ?_ _)); exact BK195.out⟩, ⟨belowg2 HB GE195 GE197⟩⟩
       ·rw [if_neg c8] at H
        have c8b0 : (((rd_T91 l0 x17_2).f0) == x6_1) = false := beq_eq_false_iff_ne.mpr c8
        have c8b1 : (((rd_T91 l0 x17_2).f0) != x6_1) = true := bne_iff_ne.mpr c8
        have H' := Aside0.mk H
        clear H
        have p196 : 0 ≤ (x17_2 : Int) := da
        have q196 : x17_2 < (l0.length : Int) := da
        obtain ⟨ad196, e196, hx196_0, hx196_1, hx196_2, hx196_3, hx196_4⟩ := at_T91 HR0.out x17_2 p196 q196
        cases e196
        replace hx196_0 := (HB.out.cell (World.block_lt_of_cell? w _ hx196_0)).trans hx196_0
        replace hx196_1 := (HB.out.cell (World.block_lt_of_cell? w _ hx196_1)).trans hx196_1
        replace hx196_2 := (HB.out.cell (World.block_lt_of_cell? w _ hx196_2)).trans hx196_2
        replace hx196_3 := (HB.out.cell (World.block_lt_of_cell? w _ hx196_3)).trans hx196_3
        replace hx196_4 := (HB.out.cell (World.block_lt_of_cell? w _ hx196_4)).trans hx196_4
        replace p196 := eq_true p196; replace q196 := eq_true q196
        go_wp2_with (first | ((with_reducible refine gate_dst (N := 10) rfl ?_); refine boxev 10 #[.int .i64 0, .int .i64 0, .int .i64 0, .int .i64 0, .bool false] 91 ?_; intro gb197 hg w33 hbox hb; replace HO_5 := ak (Kd.R_below (rdl HO_5) hb); have BK197 := ak (hbox); have GW197 := ak (hgl hg (belowg1 HB GE195)); have GE197 := ak (hgl hg (belowg1 HB GE195)); replace HB := ak (below_step (belowg1 HB GE195) hb); have NB195_197 := ak ((by rw [hg]; exact Nat.ne_of_lt (blk_lt (blkd BK195)) : gb195 ≠ gb197)); have NB197_195 := ak ((by rw [hg]; exact Nat.ne_of_gt (blk_lt (blkd BK195)) : gb197 ≠ gb195)); replace BK195 := ak (blk_below (blkd BK195) hb); clear hb hbox hg; have hnb34 := NB197_195.out; have hnc34 := NB195_197.out; obtain ⟨hcz35_0, hcz35_1, hcz35_2, hcz35_3, hcz35_4, hfz35_0, hfz35_1, hfz35_2, hfz35_3, hfz35_4⟩ := box5 BK197))
        go_roundg k2
        case measure => have := HK1.out; have := HK2.out; omega
        case rel => exact ⟨(x7_2), (x8_2), (wrap64 (x17_2 + 1)), er, er, er, H', ⟨by have := HK1.out; have := HK2.out; omega⟩, ⟨by (with_reducible repeat (first | apply Kd.R_alloc | apply Kd.R_drewN | apply Kd.R_drew)); exact Kd.R_mono (farsR (Kd.R_types HO_5.out BK197.out (by decide))) (fun _ hk => trivial)⟩, ⟨by (with_reducible repeat (first | refine blk_drewN ?_ _ | refine blk_drew ?_ | refine blk_alloc ?_ _)); refine blk_far ?_ NB195_197.out _; (with_reducible repeat (first | refine blk_drewN ?_ _ | refine blk_drew ?_ | refine blk_alloc ?_ _)); refine blk_far ?_ NB195_197.out _; (with_reducible repeat (first | refine blk_drewN ?_ _ | refine blk_drew ?_ | refine blk_alloc ?_ _)); refine blk_far ?_ NB195_197.out _; (with_reducible repeat (first | refine blk_drewN ?_ _ | refine blk_drew ?_ | refine blk_alloc ?_ _)); refine blk_far ?_ NB195_197.out _; (with_reducible repeat (first | refine blk_drewN ?_ _ | refine blk_drew ?_ | refine blk_alloc ?_ _)); refine blk_far ?_ NB195_197.out _; (with_reducible repeat (first | refine blk_drewN ?_ _ | refine blk_drew ?_ | refine blk_alloc ?_ _)); exact BK195.out⟩, ⟨belowg2 HB GE195 GE197⟩⟩
      ·rw [if_neg c5] at H
       have c5b0 : decide (x17_2 < (l0.length : Int)) = false := decide_eq_false c5
       clear c5
       by_cases c36 : x7_2 = true
       ·subst c36
        have H1 : (if x8_2 = true then (spec_l12Refused.l0 k2 l0 x5_1 (wrap64 (x6_1 + 1)) a1_0 a1_1 a1_2) else (if x5_1.length < 17592186044416 then (spec_l12Refused.l0 k2 l0 (x5_1 ++ [x6_1]) (wrap64 (x6_1 + 1)) a1_0 a1_1 a1_2) else (none))) = some r := by rw [if_pos rfl] at H; exact H
        clear H
        have H := H1
        clear H1
        by_cases c37 : x8_2 = true
        ·subst c37
         have H1 : (spec_l12Refused.l0 k2 l0 x5_1 (wrap64 (x6_1 + 1)) a1_0 a1_1 a1_2) = some r := by rw [if_pos rfl] at H; exact H
         clear H
         have H := H1
         clear H1
         have H' := Aside0.mk H
         clear H; go_wp2
         go_roundg k2
         case measure => have := HK1.out; have := HK2.out; omega
         case rel => exact ⟨(x5_1), (wrap64 (x6_1 + 1)), er, H', ⟨by have := HK1.out; have := HK2.out; omega⟩, ⟨rdl HO_5⟩, ⟨blkd BK195⟩, ⟨belowg1 HB GE195⟩⟩
        ·replace c37 := Bool.eq_false_iff.mpr c37
         subst c37
         have H1 : (if x5_1.length < 17592186044416 then (spec_l12Refused.l0 k2 l0 (x5_1 ++ [x6_1]) (wrap64 (x6_1 + 1)) a1_0 a1_1 a1_2) else (none)) = some r := by rw [if_neg (show ¬ (false = true) by decide)] at H; exact H
         clear H
         have H := H1
         clear H1; replace H := ifS H; obtain ⟨c38, H⟩ := H; have LMc38 := Aside0.mk c38; clear c38
         obtain ⟨y198, hy_⟩ : ∃ y_ : List Int, y_ = (x5_1 ++ [x6_1]) := ⟨_, rfl⟩
         replace H : (spec_l12Refused.l0 k2 l0 y198 (wrap64 (x6_1 + 1)) a1_0 a1_1 a1_2) = some r := yH
         have Ny198 := ak hy_; clear hy_
         have H' := Aside0.mk H
         clear H
         go_wp2_with (first | ((with_reducible refine gate_builtin (b := .append) (xs := #[.tmp 48, .tmp 50]) rfl ?_); at_builtin; refine Kd.R_append (Kd.int .i64) (w0 := w) w.heap.size rfl (.tmp 48) (.tmp 50) 23 3 (.int .i64 0) 8 rfl Try.underlying23 info3 rfl (by decide) (by omega) u5 x5_1 x6_1 [.int .i64 x6_1] (fun _ => True) (fun _ => False) rfl rfl ?aP (fun _ hk => hk.elim) ?aF ?aO ?aB ?aS ?aL ?_; (case aP => exact rfl); (case aB => exact (belowg1 HB GE195)); (case aF => exact (fun _ _ => trivial)); (case aO => exact (rdl HO_5)); (case aS => exact (below_size (belowg1 HB GE195))); (case aL => have := LMc38.out; omega); intro v199 w39 ho hb hg hat; rw [← Ny198.out] at ho; replace BK195 := ak (blk_grown (blkd BK195) hg (Kd.R_ne HO_5.out BK195.out (by decide))); replace HB := ak (hb); have HO200 := ak (ho); clear HO_5; clear ho hb hg hat))
         go_roundg k2
         case measure => have := HK1.out; have := HK2.out; omega
         case rel => exact ⟨(y198), (wrap64 (x6_1 + 1)), er, H', ⟨by have := HK1.out; have := HK2.out; omega⟩, ⟨rdl HO200⟩, ⟨blkd BK195⟩, ⟨belowg1 HB GE195⟩⟩
       ·replace c36 := Bool.eq_false_iff.mpr c36
        subst c36
        have H1 : (spec_l12Refused.l0 k2 l0 x5_1 (wrap64 (x6_1 + 1)) a1_0 a1_1 a1_2) = some r := by rw [if_neg (show ¬ (false = true) by decide)] at H; exact H
        clear H
        have H := H1
        clear H1
        have H' := Aside0.mk H
        clear H; go_wp2
        go_roundg k2
        case measure => have := HK1.out; have := HK2.out; omega
        case rel => exact ⟨(x5_1), (wrap64 (x6_1 + 1)), er, H', ⟨by have := HK1.out; have := HK2.out; omega⟩, ⟨rdl HO_5⟩, ⟨blkd BK195⟩, ⟨belowg1 HB GE195⟩⟩
   ·rw [if_neg c4] at H
    have c4b0 : decide (x6_1 < 7) = false := decide_eq_false c4
    clear c4
    obtain rfl := Option.some.inj H
    go_wp2
    go_ret
    exact ⟨_, er2, by (with_reducible repeat (first | apply Kd.R_alloc | apply Kd.R_drewN | apply Kd.R_drew)); exact HO_5.out, belowg1 HB GE195⟩

/-! ### spec_l14Debits: function 154 -/
def spec_l14Debits.l0 : Nat → Int → List (S91) → Int → List (S85) → List (S85) → Int → Int → Option ((List (S85)))
  | 0, _, _, _, _, _, _, _ => none
  | k + 1, x0, x1, x2, x7, x11, x12, x13 => if x13 < x12 then (if 0 ≤ x13 then (if x13 < (x11.length : Int) then (if ((rd_T85 x11 x13).f0) = x2 then ((spec_l12Refused.f k x1 ((rd_T85 x11 x13).f0) ((rd_T85 x11 x13).f1) ((rd_T85 x11 x13).f2)).bind fun t206 => (if (t206.length : Int) > x0 then (if x7.length < 5864062014805 then (spec_l14Debits.l0 k x0 x1 x2 (x7 ++ [(⟨(rd_T85 x11 x13).f0, (rd_T85 x11 x13).f1, (rd_T85 x11 x13).f2⟩ : S85)]) x11 x12 (wrap64 (x13 + 1))) else (none)) else (spec_l14Debits.l0 k x0 x1 x2 x7 x11 x12 (wrap64 (x13 + 1))))) else (spec_l14Debits.l0 k x0 x1 x2 x7 x11 x12 (wrap64 (x13 + 1)))) else (none)) else (none)) else (some x7)
def spec_l14Debits.f (k : Nat) (a0 : Int) (l1 : List (S91)) (a2 : Int) : Option ((List (S85))) := (spec_l12Claims.f k l1).bind fun t201 => (spec_l14Debits.l0 k a0 l1 a2 ([] : List (S85)) t201 (t201.length : Int) 0)
theorem spec_l14Debits.mono_l : ∀ k, (∀ y0 y1 y2 y3 y4 y5 y6, LeO (spec_l14Debits.l0 k y0 y1 y2 y3 y4 y5 y6) (spec_l14Debits.l0 (k + 1) y0 y1 y2 y3 y4 y5 y6))
 | 0 => fun _ _ _ _ _ _ _ r h => by simp [spec_l14Debits.l0] at h
 | k + 1 => by
  have ih0 := spec_l14Debits.mono_l k
  ·intro y0 y1 y2 y3 y4 y5 y6
   unfold spec_l14Debits.l0
   repeat' (first | (with_reducible first | exact ih0 _ _ _ _ _ _ _ | exact spec_l12Claims.mono _ _ | exact spec_l12Refused.mono _ _ _ _ _ | exact LeO.refl _ | exact LeO.none _ | refine LeO.ite ?_ ?_ | refine LeO.bind ?_ (fun _ => ?_)) | exact ih0 _ _ _ _ _ _ _ | exact spec_l12Claims.mono _ _ | exact spec_l12Refused.mono _ _ _ _ _ | exact LeO.none _ | refine LeO.ite ?_ ?_ | refine LeO.bind ?_ (fun _ => ?_))
theorem spec_l14Debits.mono : ∀ a0 a1 a2 k, LeO (spec_l14Debits.f k a0 a1 a2) (spec_l14Debits.f (k + 1) a0 a1 a2) := by
 intro a0 a1 a2 k
 have ih0 := spec_l14Debits.mono_l k
 unfold spec_l14Debits.f
 repeat' (first | (with_reducible first | exact ih0 _ _ _ _ _ _ _ | exact spec_l12Claims.mono _ _ | exact spec_l12Refused.mono _ _ _ _ _ | exact LeO.refl _ | exact LeO.none _ | refine LeO.ite ?_ ?_ | refine LeO.bind ?_ (fun _ => ?_)) | exact ih0 _ _ _ _ _ _ _ | exact spec_l12Claims.mono _ _ | exact spec_l12Refused.mono _ _ _ _ _ | exact LeO.none _ | refine LeO.ite ?_ ?_ | refine LeO.bind ?_ (fun _ => ?_))
set_option maxHeartbeats 8000000 in
set_option maxRecDepth 100000 in
theorem spec_l14Debits.calls (k : Nat) (a0 : Int) (A1 : Option Addr) (c1 : Nat) (l1 : List (S91)) (a2 : Int) (r : List (S85)) (w : World) (hr1 : Kd.C k91 w A1 l1.length l1) (hc1 : l1.length ≤ c1) (h : spec_l14Debits.f k a0 l1 a2 = some r) :
  Calls Try.prog 154 #[.int .i64 a0, .slice A1 l1.length c1, .int .i64 a2] w fun e w' => ∃ v0_ : Value, e = .returned (v0_) ∧ Kd.R k85 85 w' w.heap.size (fun _ => True) v0_ r ∧ Below w.heap.size w w' := by
 have hu85 := Try.underlying85
 have HR1 := Aside0.mk hr1; have HC1 := Aside0.mk hc1; clear hr1 hc1
 have HB := Aside0.mk (Below.refl w.heap.size w)
 have H : ((spec_l12Claims.f k l1).bind fun t201 => (spec_l14Debits.l0 k a0 l1 a2 ([] : List (S85)) t201 (t201.length : Int) 0)) = some r := h
 clear h; replace H := bS H; obtain ⟨t201, A4, H⟩ := H
 replace H : (spec_l14Debits.l0 k a0 l1 a2 ([] : List (S85)) t201 (t201.length : Int) 0) = some r := H
 have H' := Aside0.mk H
 clear H
 go_enter Try.func154, Try.ntmps154
 go_wp2_with (first | ((with_reducible refine gate_callee (f := 136) rfl ?_); refine goesLa (some 11) rfl Try.func136 #[.slice A1 l1.length c1] rfl ?_; (with_reducible refine (spec_l12Claims.calls k _ _ l1 t201 _ ?side1 ?side2 A4.out).mono ?_); (case side1 => exact cd HR1.out); (case side2 => exact HC1.out); rintro e w5 ⟨v202, rfl, ho0, hb⟩; refine ⟨_, rfl, ?_⟩; have HO203 := ak (Kd.R_lower ho0 (below_size (belowd HB))); replace HB := ak (below_step (belowd HB) hb); (try clear hb); (try clear ho0); obtain ⟨Ao6, co6, eo6⟩ := Kd.R_slice HO203.out; subst eo6))
 go_loopg [7, 13] k (fun kq v7 v13 w' => ∃ (x7_1 : List (S85)) (x13_1 : Int), v13 = .int .i64 x13_1 ∧ Aside0 (spec_l14Debits.l0 kq a0 l1 a2 x7_1 t201 (t201.length : Int) x13_1 = some r) ∧ Aside0 (kq ≤ k) ∧ Aside0 (Kd.R k85 85 w' w.heap.size (fun k_ => some k_ ≠ ((.slice Ao6 t201.length co6) : Value).ownBlock) v7 x7_1) ∧ Aside0 (Kd.R k85 85 w' w.heap.size (fun k_ => some k_ ≠ (v7 : Value).ownBlock) (.slice Ao6 t201.length co6) t201) ∧ Aside0 (Below w.heap.size w w'))
 case atStart => exact ⟨(([] : List (S85))), (0), er, H', ⟨Nat.le_refl _⟩, ⟨by first | exact Kd.R_nil _ _ _ _ _ | exact Kd.N_nil _ _ _ _ _ | exact Kd.V_nil _ _ _ _ _ | exact Kd.Q_nil _ _ _ _ _ | exact Kd.S_nil _ _ _ _ _⟩, ⟨by (with_reducible repeat (first | apply Kd.R_alloc | apply Kd.R_drewN | apply Kd.R_drew)); exact Kd.R_mono HO203.out (fun _ hk => (by simp [Value.ownBlock]))⟩, ⟨belowd HB⟩⟩
 case round =>
  clear H'
  (try clear c1)
  obtain ⟨x7_1, x13_1, rfl, HA, HK1, HO_7, HO_11, HB⟩ := hrel
  cases gk with
  | zero => exact absurd HA.out (by simp [spec_l14Debits.l0])
  | succ k1 =>
   have H := HA.out; clear HA
   simp only [spec_l14Debits.l0] at H
   by_cases c7 : x13_1 < (t201.length : Int)
   ·rw [if_pos c7] at H
    have c7b0 : decide (x13_1 < (t201.length : Int)) = true := decide_eq_true c7
    clear c7; replace H := ifS H; obtain ⟨c8, H⟩ := H; have c8b0 := decide_eq_true c8; clear c8; replace H := ifS H; obtain ⟨c9, H⟩ := H; have c9b0 := decide_eq_true c9; clear c9
    by_cases c10 : ((rd_T85 t201 x13_1).f0) = a2
    ·rw [if_pos c10] at H
     have c10b0 : (((rd_T85 t201 x13_1).f0) == a2) = true := beq_iff_eq.mpr c10
     have c10b1 : (((rd_T85 t201 x13_1).f0) != a2) = false := bne_eq_false_iff_eq.mpr c10
     clear c10; replace H := bS H; obtain ⟨t206, A11, H⟩ := H
     replace H : (if (t206.length : Int) > a0 then (if x7_1.length < 5864062014805 then (spec_l14Debits.l0 k1 a0 l1 a2 (x7_1 ++ [(⟨(rd_T85 t201 x13_1).f0, (rd_T85 t201 x13_1).f1, (rd_T85 t201 x13_1).f2⟩ : S85)]) t201 (t201.length : Int) (wrap64 (x13_1 + 1))) else (none)) else (spec_l14Debits.l0 k1 a0 l1 a2 x7_1 t201 (t201.length : Int) (wrap64 (x13_1 + 1)))) = some r := H
     by_cases c12 : (t206.length : Int) > a0
     ·rw [if_pos c12] at H
      have c12b0 : decide (a0 < (t206.length : Int)) = true := decide_eq_true c12
      clear c12; replace H := ifS H; obtain ⟨c13, H⟩ := H; have LMc13 := Aside0.mk c13; clear c13
      obtain ⟨y209, hy_⟩ : ∃ y_ : List (S85), y_ = (x7_1 ++ [(⟨(rd_T85 t201 x13_1).f0, (rd_T85 t201 x13_1).f1, (rd_T85 t201 x13_1).f2⟩ : S85)]) := ⟨_, rfl⟩
      replace H : (spec_l14Debits.l0 k1 a0 l1 a2 y209 t201 (t201.length : Int) (wrap64 (x13_1 + 1))) = some r := yH
      have Ny209 := ak hy_; clear hy_
      have H' := Aside0.mk H
      clear H
      have p204 : 0 ≤ (x13_1 : Int) := da
      have q204 : x13_1 < (t201.length : Int) := da
      obtain ⟨ad204, e204, hx204_0, hx204_1, hx204_2⟩ := at_T85 (Kd.R_reads' HO_11.out).2.2 x13_1 p204 q204
      cases e204
      replace p204 := eq_true p204; replace q204 := eq_true q204
      go_wp2_with (first | ((with_reducible refine gate_dst (N := 9) rfl ?_); (try (refine gate_guard (by rfl) ?_; dsimp only)); refine boxev 9 #[.int .i64 0, .int .i64 0, .int .i64 0] 85 ?_; intro gb205 hg w14 hbox hb; replace HO_7 := ak (Kd.R_below (Kd.R_elderB (rdl HO_7) gb205 (Nat.le_of_eq hg.symm)) hb); replace HO_11 := ak (Kd.R_below (Kd.R_elderB (rdl HO_11) gb205 (Nat.le_of_eq hg.symm)) hb); have BK205 := ak (hbox); have GW205 := ak (hgl hg (belowd HB)); have GE205 := ak (hgl hg (belowd HB)); replace HB := ak (below_step (belowd HB) hb); clear hb hbox hg; obtain ⟨hcz15_0, hcz15_1, hcz15_2, hfz15_0, hfz15_1, hfz15_2⟩ := box3 BK205) | (go_at_call 207; (with_reducible refine (spec_l12Refused.calls k1 _ _ l1 ((rd_T85 t201 x13_1).f0) ((rd_T85 t201 x13_1).f1) ((rd_T85 t201 x13_1).f2) t206 _ ?side1 ?side2 A11.out).mono ?_); (case side1 => exact Kd.C_below HR1.out (belowg1 HB GE205)); (case side2 => exact HC1.out); rintro e w16 ⟨v207, rfl, ho0, hb⟩; replace HO_7 := ak (Kd.R_below (by (with_reducible repeat (first | apply Kd.R_alloc | apply Kd.R_drewN | apply Kd.R_drew)); exact (Kd.R_mono (farsR (Kd.R_mono HO_7.out (fun k_ hk => (⟨hk, hk.2⟩ : _ ∧ k_ ≠ gb205)))) (fun _ h_ => h_.1))) hb); replace HO_11 := ak (Kd.R_below (by (with_reducible repeat (first | apply Kd.R_alloc | apply Kd.R_drewN | apply Kd.R_drew)); exact (Kd.R_mono (farsR (Kd.R_mono HO_11.out (fun k_ hk => (⟨hk, hk.2⟩ : _ ∧ k_ ≠ gb205)))) (fun _ h_ => h_.1))) hb); have HO208 := ak (Kd.R_lower ho0 (below_size (belowg1 HB GE205))); replace BK205 := ak (blk_below (g := gb205) (o := .cells #[.int .i64 ((rd_T85 t201 x13_1).f0), .int .i64 ((rd_T85 t201 x13_1).f1), .int .i64 ((rd_T85 t201 x13_1).f2)] 85 (0, 0)) (by (with_reducible repeat (first | refine blk_drewN ?_ _ | refine blk_drew ?_ | refine blk_alloc ?_ _)); refine blk_put (cs := #[.int .i64 ((rd_T85 t201 x13_1).f0), .int .i64 ((rd_T85 t201 x13_1).f1), .int .i64 0]) ?_ 2 _ rfl; (with_reducible repeat (first | refine blk_drewN ?_ _ | refine blk_drew ?_ | refine blk_alloc ?_ _)); refine blk_put (cs := #[.int .i64 ((rd_T85 t201 x13_1).f0), .int .i64 0, .int .i64 0]) ?_ 1 _ rfl; (with_reducible repeat (first | refine blk_drewN ?_ _ | refine blk_drew ?_ | refine blk_alloc ?_ _)); refine blk_put (cs := #[.int .i64 0, .int .i64 0, .int .i64 0]) ?_ 0 _ rfl; (with_reducible repeat (first | refine blk_drewN ?_ _ | refine blk_drew ?_ | refine blk_alloc ?_ _)); exact BK205.out) hb); replace HB := ak (below_step (belowg1 HB GE205) hb); (try clear hb); (try clear ho0); obtain ⟨Ao17, co17, eo17⟩ := Kd.R_slice HO208.out; subst eo17; obtain ⟨hcz18_0, hcz18_1, hcz18_2, hfz18_0, hfz18_1, hfz18_2⟩ := box3 BK205) | ((with_reducible refine gate_builtin (b := .append) (xs := #[.tmp 29, .tmp 31]) rfl ?_); (try (refine gate_guard (by rfl) ?_; dsimp only)); at_builtin; refine Kd.R_append k85 (w0 := w) w.heap.size rfl (.tmp 29) (.tmp 31) 70 85 (.agg #[(.int .i64 0), (.int .i64 0), (.int .i64 0)]) 24 rfl Try.underlying70 info85 rfl (by decide) (by omega) u7 x7_1 (⟨(rd_T85 t201 x13_1).f0, (rd_T85 t201 x13_1).f1, (rd_T85 t201 x13_1).f2⟩ : S85) [.int .i64 ((rd_T85 t201 x13_1).f0), .int .i64 ((rd_T85 t201 x13_1).f1), .int .i64 ((rd_T85 t201 x13_1).f2)] (fun k_ => some k_ ≠ (.slice (some ad204) t201.length co6 : Value).ownBlock ∧ k_ ≠ gb205) (fun _ => False) rfl rfl ?aP (fun _ hk => hk.elim) ?aF ?aO ?aB ?aS ?aL ?_; (case aP => exact k85_mkM _ _ _ (⟨(rd_T85 t201 x13_1).f0, (rd_T85 t201 x13_1).f1, (rd_T85 t201 x13_1).f2⟩ : S85)); (case aB => exact (belowg1 HB GE205)); (case aF => exact (fun k_ hk => ⟨Kd.fresh' (Kd.R_lt (rdl HO_11)) k_ hk, Kd.freshB (blkd BK205) k_ hk⟩)); (case aO => exact (rdl HO_7)); (case aS => exact (below_size (belowg1 HB GE205))); (case aL => have := LMc13.out; omega); intro v210 w19 ho hb hg hat; rw [← Ny209.out] at ho; replace HO_11 := ak (Kd.R_after (ok := (fun k_ => k_ ≠ gb205)) (by (with_reducible repeat (first | apply Kd.R_alloc | apply Kd.R_drewN | apply Kd.R_drew)); exact Kd.R_mono HO_11.out (fun _ hk => ⟨hk.2, hk.1⟩)) hg hat); replace BK205 := ak (blk_grown (blkd BK205) hg (Kd.R_away HO_7.out (fun _ hk => hk.2))); replace HO208 := ak (Kd.R_over' (rdl HO208) (Kd.R_typed (rdl HO_7)) (by decide) hg); replace HB := ak (hb); have HO211 := ak (ho); clear HO_7; clear ho hb hg hat))
      go_roundg k1
      case measure => have := HK1.out; omega
      case rel => exact ⟨(y209), (wrap64 (x13_1 + 1)), er, H', ⟨by have := HK1.out; omega⟩, ⟨by (with_reducible repeat (first | apply Kd.R_alloc | apply Kd.R_drewN | apply Kd.R_drew)); exact Kd.R_mono HO211.out (fun _ hk => hk.1)⟩, ⟨by (with_reducible repeat (first | apply Kd.R_alloc | apply Kd.R_drewN | apply Kd.R_drew)); exact Kd.R_mono HO_11.out (fun _ hk => hk.2)⟩, ⟨belowg1 HB GE205⟩⟩
     ·rw [if_neg c12] at H
      have c12b0 : decide (a0 < (t206.length : Int)) = false := decide_eq_false c12
      clear c12
      have H' := Aside0.mk H
      clear H
      have p204 : 0 ≤ (x13_1 : Int) := da
      have q204 : x13_1 < (t201.length : Int) := da
      obtain ⟨ad204, e204, hx204_0, hx204_1, hx204_2⟩ := at_T85 (Kd.R_reads' HO_11.out).2.2 x13_1 p204 q204
      cases e204
      replace p204 := eq_true p204; replace q204 := eq_true q204
      go_wp2_with (first | ((with_reducible refine gate_dst (N := 9) rfl ?_); (try (refine gate_guard (by rfl) ?_; dsimp only)); refine boxev 9 #[.int .i64 0, .int .i64 0, .int .i64 0] 85 ?_; intro gb205 hg w20 hbox hb; replace HO_7 := ak (Kd.R_below (Kd.R_elderB (rdl HO_7) gb205 (Nat.le_of_eq hg.symm)) hb); replace HO_11 := ak (Kd.R_below (Kd.R_elderB (rdl HO_11) gb205 (Nat.le_of_eq hg.symm)) hb); have BK205 := ak (hbox); have GW205 := ak (hgl hg (belowd HB)); have GE205 := ak (hgl hg (belowd HB)); replace HB := ak (below_step (belowd HB) hb); clear hb hbox hg; obtain ⟨hcz21_0, hcz21_1, hcz21_2, hfz21_0, hfz21_1, hfz21_2⟩ := box3 BK205) | (go_at_call 207; (with_reducible refine (spec_l12Refused.calls k1 _ _ l1 ((rd_T85 t201 x13_1).f0) ((rd_T85 t201 x13_1).f1) ((rd_T85 t201 x13_1).f2) t206 _ ?side1 ?side2 A11.out).mono ?_); (case side1 => exact Kd.C_below HR1.out (belowg1 HB GE205)); (case side2 => exact HC1.out); rintro e w22 ⟨v207, rfl, ho0, hb⟩; replace HO_7 := ak (Kd.R_below (by (with_reducible repeat (first | apply Kd.R_alloc | apply Kd.R_drewN | apply Kd.R_drew)); exact (Kd.R_mono (farsR (Kd.R_mono HO_7.out (fun k_ hk => (⟨hk, hk.2⟩ : _ ∧ k_ ≠ gb205)))) (fun _ h_ => h_.1))) hb); replace HO_11 := ak (Kd.R_below (by (with_reducible repeat (first | apply Kd.R_alloc | apply Kd.R_drewN | apply Kd.R_drew)); exact (Kd.R_mono (farsR (Kd.R_mono HO_11.out (fun k_ hk => (⟨hk, hk.2⟩ : _ ∧ k_ ≠ gb205)))) (fun _ h_ => h_.1))) hb); have HO208 := ak (Kd.R_lower ho0 (below_size (belowg1 HB GE205))); replace BK205 := ak (blk_below (g := gb205) (o := .cells #[.int .i64 ((rd_T85 t201 x13_1).f0), .int .i64 ((rd_T85 t201 x13_1).f1), .int .i64 ((rd_T85 t201 x13_1).f2)] 85 (0, 0)) (by (with_reducible repeat (first | refine blk_drewN ?_ _ | refine blk_drew ?_ | refine blk_alloc ?_ _)); refine blk_put (cs := #[.int .i64 ((rd_T85 t201 x13_1).f0), .int .i64 ((rd_T85 t201 x13_1).f1), .int .i64 0]) ?_ 2 _ rfl; (with_reducible repeat (first | refine blk_drewN ?_ _ | refine blk_drew ?_ | refine blk_alloc ?_ _)); refine blk_put (cs := #[.int .i64 ((rd_T85 t201 x13_1).f0), .int .i64 0, .int .i64 0]) ?_ 1 _ rfl; (with_reducible repeat (first | refine blk_drewN ?_ _ | refine blk_drew ?_ | refine blk_alloc ?_ _)); refine blk_put (cs := #[.int .i64 0, .int .i64 0, .int .i64 0]) ?_ 0 _ rfl; (with_reducible repeat (first | refine blk_drewN ?_ _ | refine blk_drew ?_ | refine blk_alloc ?_ _)); exact BK205.out) hb); replace HB := ak (below_step (belowg1 HB GE205) hb); (try clear hb); (try clear ho0); obtain ⟨Ao23, co23, eo23⟩ := Kd.R_slice HO208.out; subst eo23))
      go_roundg k1
      case measure => have := HK1.out; omega
      case rel => exact ⟨(x7_1), (wrap64 (x13_1 + 1)), er, H', ⟨by have := HK1.out; omega⟩, ⟨by (with_reducible repeat (first | apply Kd.R_alloc | apply Kd.R_drewN | apply Kd.R_drew)); exact Kd.R_mono HO_7.out (fun _ hk => hk.1)⟩, ⟨by (with_reducible repeat (first | apply Kd.R_alloc | apply Kd.R_drewN | apply Kd.R_drew)); exact Kd.R_mono HO_11.out (fun _ hk => hk.1)⟩, ⟨belowg1 HB GE205⟩⟩
    ·rw [if_neg c10] at H
     have c10b0 : (((rd_T85 t201 x13_1).f0) == a2) = false := beq_eq_false_iff_ne.mpr c10
     have c10b1 : (((rd_T85 t201 x13_1).f0) != a2) = true := bne_iff_ne.mpr c10
     have H' := Aside0.mk H
     clear H
     have p204 : 0 ≤ (x13_1 : Int) := da
     have q204 : x13_1 < (t201.length : Int) := da
     obtain ⟨ad204, e204, hx204_0, hx204_1, hx204_2⟩ := at_T85 (Kd.R_reads' HO_11.out).2.2 x13_1 p204 q204
     cases e204
     replace p204 := eq_true p204; replace q204 := eq_true q204
     go_wp2_with (first | ((with_reducible refine gate_dst (N := 9) rfl ?_); (try (refine gate_guard (by rfl) ?_; dsimp only)); refine boxev 9 #[.int .i64 0, .int .i64 0, .int .i64 0] 85 ?_; intro gb205 hg w24 hbox hb; replace HO_7 := ak (Kd.R_below (Kd.R_elderB (rdl HO_7) gb205 (Nat.le_of_eq hg.symm)) hb); replace HO_11 := ak (Kd.R_below (Kd.R_elderB (rdl HO_11) gb205 (Nat.le_of_eq hg.symm)) hb); have BK205 := ak (hbox); have GW205 := ak (hgl hg (belowd HB)); have GE205 := ak (hgl hg (belowd HB)); replace HB := ak (below_step (belowd HB) hb); clear hb hbox hg; obtain ⟨hcz25_0, hcz25_1, hcz25_2, hfz25_0, hfz25_1, hfz25_2⟩ := box3 BK205))
     go_roundg k1
     case measure => have := HK1.out; omega
     case rel => exact ⟨(x7_1), (wrap64 (x13_1 + 1)), er, H', ⟨by have := HK1.out; omega⟩, ⟨by (with_reducible repeat (first | apply Kd.R_alloc | apply Kd.R_drewN | apply Kd.R_drew)); exact Kd.R_mono (farsR (Kd.R_mono HO_7.out (fun k_ hk => (⟨hk, hk.2⟩ : _ ∧ k_ ≠ gb205)))) (fun _ hk => hk.1.1)⟩, ⟨by (with_reducible repeat (first | apply Kd.R_alloc | apply Kd.R_drewN | apply Kd.R_drew)); exact Kd.R_mono (farsR (Kd.R_mono HO_11.out (fun k_ hk => (⟨hk, hk.2⟩ : _ ∧ k_ ≠ gb205)))) (fun _ hk => hk.1.1)⟩, ⟨belowg1 HB GE205⟩⟩
   ·rw [if_neg c7] at H
    have c7b0 : decide (x13_1 < (t201.length : Int)) = false := decide_eq_false c7
    clear c7
    obtain rfl := Option.some.inj H
    go_wp2
    go_ret
    exact ⟨_, er2, by (with_reducible repeat (first | apply Kd.R_alloc | apply Kd.R_drewN | apply Kd.R_drew)); exact Kd.R_mono HO_7.out (fun _ hk => trivial), belowd HB⟩

/-! ### spec_l14HasClaim: function 156 -/
def spec_l14HasClaim.l0 : Nat → List (S85) → Int → Int → Int → Int → Int → Option (Bool)
  | 0, _, _, _, _, _, _ => none
  | k + 1, x7, x8, x9, x213000, x213001, x213002 => if x9 < x8 then (if 0 ≤ x9 then (if x9 < (x7.length : Int) then (if (((rd_T85 x7 x9).f0) == x213000 && (((rd_T85 x7 x9).f1) == x213001 && (((rd_T85 x7 x9).f2) == x213002))) = true then (some true) else (spec_l14HasClaim.l0 k x7 x8 (wrap64 (x9 + 1)) x213000 x213001 x213002)) else (none)) else (none)) else (some false)
def spec_l14HasClaim.f (k : Nat) (l0 : List (S85)) (a1_0 : Int) (a1_1 : Int) (a1_2 : Int) : Option (Bool) := spec_l14HasClaim.l0 k l0 (l0.length : Int) 0 a1_0 a1_1 a1_2
theorem spec_l14HasClaim.mono_l : ∀ k, (∀ y0 y1 y2 y3 y4 y5, LeO (spec_l14HasClaim.l0 k y0 y1 y2 y3 y4 y5) (spec_l14HasClaim.l0 (k + 1) y0 y1 y2 y3 y4 y5))
 | 0 => fun _ _ _ _ _ _ r h => by simp [spec_l14HasClaim.l0] at h
 | k + 1 => by
  have ih0 := spec_l14HasClaim.mono_l k
  ·intro y0 y1 y2 y3 y4 y5
   unfold spec_l14HasClaim.l0
   repeat' (first | (with_reducible first | exact ih0 _ _ _ _ _ _ | exact LeO.refl _ | exact LeO.none _ | refine LeO.ite ?_ ?_ | refine LeO.bind ?_ (fun _ => ?_)) | exact ih0 _ _ _ _ _ _ | exact LeO.none _ | refine LeO.ite ?_ ?_ | refine LeO.bind ?_ (fun _ => ?_))
theorem spec_l14HasClaim.mono : ∀ a0 a1 a2 a3 k, LeO (spec_l14HasClaim.f k a0 a1 a2 a3) (spec_l14HasClaim.f (k + 1) a0 a1 a2 a3) := by
 intro a0 a1 a2 a3 k
 have ih0 := spec_l14HasClaim.mono_l k
 unfold spec_l14HasClaim.f
 repeat' (first | (with_reducible first | exact ih0 _ _ _ _ _ _ | exact LeO.refl _ | exact LeO.none _ | refine LeO.ite ?_ ?_ | refine LeO.bind ?_ (fun _ => ?_)) | exact ih0 _ _ _ _ _ _ | exact LeO.none _ | refine LeO.ite ?_ ?_ | refine LeO.bind ?_ (fun _ => ?_))
set_option maxHeartbeats 8000000 in
set_option maxRecDepth 100000 in
theorem spec_l14HasClaim.calls (k : Nat) (A0 : Option Addr) (c0 : Nat) (l0 : List (S85)) (a1_0 : Int) (a1_1 : Int) (a1_2 : Int) (r : Bool) (w : World) (hr0 : Kd.C k85 w A0 l0.length l0) (hc0 : l0.length ≤ c0) (h : spec_l14HasClaim.f k l0 a1_0 a1_1 a1_2 = some r) :
  Calls Try.prog 156 #[.slice A0 l0.length c0, .agg #[.int .i64 a1_0, .int .i64 a1_1, .int .i64 a1_2]] w fun e w' => e = .returned (.bool r) ∧ Below w.heap.size w w' := by
 have hu85 := Try.underlying85
 have HR0 := Aside0.mk hr0; have HC0 := Aside0.mk hc0; clear hr0 hc0
 have HB := Aside0.mk (Below.refl w.heap.size w)
 have H : (spec_l14HasClaim.l0 k l0 (l0.length : Int) 0 a1_0 a1_1 a1_2) = some r := h
 clear h
 have H' := Aside0.mk H
 clear H
 go_enter Try.func156, Try.ntmps156
 go_wp2_with (first | ((with_reducible refine gate_dst (N := 3) rfl ?_); refine boxev 3 #[.int .i64 a1_0, .int .i64 a1_1, .int .i64 a1_2] 85 ?_; intro gb212 hg w3 hbox hb; have BK212 := ak (hbox); have GW212 := ak (hgl hg (belowd HB)); have GE212 := ak (hgl hg (belowd HB)); replace HB := ak (below_step (belowd HB) hb); clear hb hbox hg))
 go_loopg [9] k (fun kq v9 w' => ∃ (x9_1 : Int), v9 = .int .i64 x9_1 ∧ Aside0 (spec_l14HasClaim.l0 kq l0 (l0.length : Int) x9_1 a1_0 a1_1 a1_2 = some r) ∧ Aside0 (kq ≤ k) ∧ Aside0 (w'.heap[gb212]? = some (.cells #[.int .i64 a1_0, .int .i64 a1_1, .int .i64 a1_2] 85 (0, 0))) ∧ Aside0 (Below w.heap.size w w'))
 case atStart => exact ⟨(0), er, H', ⟨Nat.le_refl _⟩, ⟨blkd BK212⟩, ⟨belowg1 HB GE212⟩⟩
 case round =>
  clear H'
  obtain ⟨x9_1, rfl, HA, HK1, BK212, HB⟩ := hrel
  cases gk with
  | zero => exact absurd HA.out (by simp [spec_l14HasClaim.l0])
  | succ k1 =>
   have H := HA.out; clear HA
   simp only [spec_l14HasClaim.l0] at H
   by_cases c4 : x9_1 < (l0.length : Int)
   ·rw [if_pos c4] at H
    have c4b0 : decide (x9_1 < (l0.length : Int)) = true := decide_eq_true c4
    clear c4; replace H := ifS H; obtain ⟨c5, H⟩ := H; have c5b0 := decide_eq_true c5; clear c5; replace H := ifS H; obtain ⟨c6, H⟩ := H; have c6b0 := decide_eq_true c6; clear c6
    by_cases c7 : (((rd_T85 l0 x9_1).f0) == a1_0 && (((rd_T85 l0 x9_1).f1) == a1_1 && (((rd_T85 l0 x9_1).f2) == a1_2))) = true
    ·rw [if_pos c7] at H
     have c7b0 : (((rd_T85 l0 x9_1).f0) == a1_0 && (((rd_T85 l0 x9_1).f1) == a1_1 && (((rd_T85 l0 x9_1).f2) == a1_2))) = true := c7
     (try (have c7b1 : decide (((rd_T85 l0 x9_1).f0) = a1_0 && (((rd_T85 l0 x9_1).f1) == a1_1 && (((rd_T85 l0 x9_1).f2) == a1_2))) = true := by simpa using c7))
     (try (have c7b2 : (((rd_T85 l0 x9_1).f0) == a1_0 && (((rd_T85 l0 x9_1).f1) == a1_1 && (((rd_T85 l0 x9_1).f2) == a1_2))) = true := by simpa using c7))
     clear c7
     obtain rfl := Option.some.inj H
     have p213 : 0 ≤ (x9_1 : Int) := da
     have q213 : x9_1 < (l0.length : Int) := da
     obtain ⟨ad213, e213, hx213_0, hx213_1, hx213_2⟩ := at_T85 HR0.out x9_1 p213 q213
     cases e213
     replace hx213_0 := (HB.out.cell (World.block_lt_of_cell? w _ hx213_0)).trans hx213_0
     replace hx213_1 := (HB.out.cell (World.block_lt_of_cell? w _ hx213_1)).trans hx213_1
     replace hx213_2 := (HB.out.cell (World.block_lt_of_cell? w _ hx213_2)).trans hx213_2
     replace p213 := eq_true p213; replace q213 := eq_true q213
     go_wp2_with (first | ((with_reducible refine gate_dst (N := 6) rfl ?_); refine boxev 6 #[.int .i64 0, .int .i64 0, .int .i64 0] 85 ?_; intro gb214 hg w8 hbox hb; have BK214 := ak (hbox); have GW214 := ak (hgl hg (belowg1 HB GE212)); have GE214 := ak (hgl hg (belowg1 HB GE212)); replace HB := ak (below_step (belowg1 HB GE212) hb); have NB212_214 := ak ((by rw [hg]; exact Nat.ne_of_lt (blk_lt (blkd BK212)) : gb212 ≠ gb214)); have NB214_212 := ak ((by rw [hg]; exact Nat.ne_of_gt (blk_lt (blkd BK212)) : gb214 ≠ gb212)); replace BK212 := ak (blk_below (blkd BK212) hb); clear hb hbox hg; have hnb9 := NB214_212.out; have hnc9 := NB212_214.out; obtain ⟨hcz10_0, hcz10_1, hcz10_2, hfz10_0, hfz10_1, hfz10_2⟩ := box3 BK214; obtain ⟨hcz11_0, hcz11_1, hcz11_2, hfz11_0, hfz11_1, hfz11_2⟩ := box3 BK212))
     go_ret
     exact ⟨er2, belowg2 HB GE212 GE214⟩
    ·rw [if_neg c7] at H
     have c7b0 : (((rd_T85 l0 x9_1).f0) == a1_0 && (((rd_T85 l0 x9_1).f1) == a1_1 && (((rd_T85 l0 x9_1).f2) == a1_2))) = false := by simpa using c7
     (try (have c7b1 : decide (((rd_T85 l0 x9_1).f0) = a1_0 && (((rd_T85 l0 x9_1).f1) == a1_1 && (((rd_T85 l0 x9_1).f2) == a1_2))) = false := by simpa using c7))
     (try (have c7b2 : (((rd_T85 l0 x9_1).f0) == a1_0 && (((rd_T85 l0 x9_1).f1) == a1_1 && (((rd_T85 l0 x9_1).f2) == a1_2))) = false := by simpa using c7))
     (try (have c7b3 : ¬ (((rd_T85 l0 x9_1).f0) = a1_0 && (((rd_T85 l0 x9_1).f1) == a1_1 && (((rd_T85 l0 x9_1).f2) == a1_2))) := by simpa using c7))
     clear c7
     have H' := Aside0.mk H
     clear H
     have p213 : 0 ≤ (x9_1 : Int) := da
     have q213 : x9_1 < (l0.length : Int) := da
     obtain ⟨ad213, e213, hx213_0, hx213_1, hx213_2⟩ := at_T85 HR0.out x9_1 p213 q213
     cases e213
     replace hx213_0 := (HB.out.cell (World.block_lt_of_cell? w _ hx213_0)).trans hx213_0
     replace hx213_1 := (HB.out.cell (World.block_lt_of_cell? w _ hx213_1)).trans hx213_1
     replace hx213_2 := (HB.out.cell (World.block_lt_of_cell? w _ hx213_2)).trans hx213_2
     replace p213 := eq_true p213; replace q213 := eq_true q213
     go_wp2_with (first | ((with_reducible refine gate_dst (N := 6) rfl ?_); refine boxev 6 #[.int .i64 0, .int .i64 0, .int .i64 0] 85 ?_; intro gb214 hg w12 hbox hb; have BK214 := ak (hbox); have GW214 := ak (hgl hg (belowg1 HB GE212)); have GE214 := ak (hgl hg (belowg1 HB GE212)); replace HB := ak (below_step (belowg1 HB GE212) hb); have NB212_214 := ak ((by rw [hg]; exact Nat.ne_of_lt (blk_lt (blkd BK212)) : gb212 ≠ gb214)); have NB214_212 := ak ((by rw [hg]; exact Nat.ne_of_gt (blk_lt (blkd BK212)) : gb214 ≠ gb212)); replace BK212 := ak (blk_below (blkd BK212) hb); clear hb hbox hg; have hnb13 := NB214_212.out; have hnc13 := NB212_214.out; obtain ⟨hcz14_0, hcz14_1, hcz14_2, hfz14_0, hfz14_1, hfz14_2⟩ := box3 BK214; obtain ⟨hcz15_0, hcz15_1, hcz15_2, hfz15_0, hfz15_1, hfz15_2⟩ := box3 BK212))
     go_roundg k1
     case measure => have := HK1.out; omega
     case rel => exact ⟨(wrap64 (x9_1 + 1)), er, H', ⟨by have := HK1.out; omega⟩, ⟨by (with_reducible repeat (first | refine blk_drewN ?_ _ | refine blk_drew ?_ | refine blk_alloc ?_ _)); refine blk_far ?_ NB212_214.out _; (with_reducible repeat (first | refine blk_drewN ?_ _ | refine blk_drew ?_ | refine blk_alloc ?_ _)); refine blk_far ?_ NB212_214.out _; (with_reducible repeat (first | refine blk_drewN ?_ _ | refine blk_drew ?_ | refine blk_alloc ?_ _)); refine blk_far ?_ NB212_214.out _; (with_reducible repeat (first | refine blk_drewN ?_ _ | refine blk_drew ?_ | refine blk_alloc ?_ _)); exact BK212.out⟩, ⟨belowg2 HB GE212 GE214⟩⟩
   ·rw [if_neg c4] at H
    have c4b0 : decide (x9_1 < (l0.length : Int)) = false := decide_eq_false c4
    clear c4
    obtain rfl := Option.some.inj H
    go_wp2
    go_ret
    exact ⟨er2, belowg1 HB GE212⟩

end Go.Proofs.Ytkgogglnipdcfaa.QFnExactTallyOf
