-- printed by this session's own program (wip/tools/pp.py: the kit's print.py with changes); Lean checks it
import Derived.Test.YtkgogglnipdcfaaQFnBoardx0
import Derived.Test.YtkgogglnipdcfaaQFnBoardx7
namespace Go.Proofs.Ytkgogglnipdcfaa.QFnBoard
open Go.RowKit Go.Proofs.YtkgogglnipdcfaaW.PrintWords Go.Proofs.YtkgogglnipdcfaaW.PrintLast Go.Proofs.YtkgogglnipdcfaaW.PrintMore
attribute [local go_sem] max2_int min2_int max_two min_two max_three min_three max_four min_four strLss strGtr strLeq strGeq   -- for this text's walks alone
set_option linter.unusedVariables false
set_option linter.unusedSimpArgs false

/-! ### spec_NewBoard: function 120 -/
def spec_NewBoard.f (k : Nat) (a0 : Int) (l1 : List Int) : Option (Int × Int × (List (List Int)) × List Int × List Int × Bool) := (some (([] : List Int) : List Int)).bind fun y391 => (if y391.length + l1.length < 17592186044416 then ((some (y391 ++ l1 : List Int)).bind fun y394 => ((spec_GoodBoard.f k a0 0 ([] : List (List Int)) y394 ([] : List Int)).bind fun t398 => (if t398 = true then (some (a0, 0, ([] : List (List Int)), y394, ([] : List Int), true)) else (some (0, 0, ([] : List (List Int)), ([] : List Int), ([] : List Int), false))))) else (none))
theorem spec_NewBoard.mono : ∀ a0 a1 k, LeO (spec_NewBoard.f k a0 a1) (spec_NewBoard.f (k + 1) a0 a1) := by
 intro a0 a1 k
 unfold spec_NewBoard.f
 repeat' (first | (with_reducible first | exact spec_GoodBoard.mono _ _ _ _ _ _ | exact LeO.refl _ | exact LeO.none _ | refine LeO.ite ?_ ?_ | refine LeO.bind ?_ (fun _ => ?_)) | exact spec_GoodBoard.mono _ _ _ _ _ _ | exact LeO.none _ | refine LeO.ite ?_ ?_ | refine LeO.bind ?_ (fun _ => ?_))
set_option maxHeartbeats 8000000 in
set_option maxRecDepth 100000 in
theorem spec_NewBoard.calls (k : Nat) (a0 : Int) (A1 : Option Addr) (c1 : Nat) (l1 : List Int) (r1 : Int) (r2 : Int) (r3 : List (List Int)) (r4 : List Int) (r5 : List Int) (r6 : Bool) (w : World) (hr1 : Kd.C (Kd.int .i64) w A1 l1.length l1) (hc1 : l1.length ≤ c1) (h : spec_NewBoard.f k a0 l1 = some (r1, r2, r3, r4, r5, r6)) :
  Calls Try.prog 120 #[.int .i64 a0, .slice A1 l1.length c1] w fun e w' => ∃ v2_ v3_ v4_ : Value, e = .returned (.tuple #[.agg #[.int .i64 r1, .int .i64 r2, v2_, v3_, v4_], .bool r6]) ∧ Kd.S (Kd.slice 3 (Kd.int .i64)) 23 w' w.heap.size (fun k_ => some k_ ≠ (v3_ : Value).ownBlock ∧ some k_ ≠ (v4_ : Value).ownBlock) v2_ r3 ∧ Kd.R (Kd.int .i64) 3 w' w.heap.size (fun k_ => some k_ ≠ (v4_ : Value).ownBlock) v3_ r4 ∧ Kd.R (Kd.int .i64) 3 w' w.heap.size (fun k_ => some k_ ≠ (v3_ : Value).ownBlock) v4_ r5 ∧ Below w.heap.size w w' := by
 have hu47 := Try.underlying47
 have HR1 := Aside0.mk hr1; have HC1 := Aside0.mk hc1; clear hr1 hc1
 have HB := Aside0.mk (Below.refl w.heap.size w)
 have H : ((some (([] : List Int) : List Int)).bind fun y391 => (if y391.length + l1.length < 17592186044416 then ((some (y391 ++ l1 : List Int)).bind fun y394 => ((spec_GoodBoard.f k a0 0 ([] : List (List Int)) y394 ([] : List Int)).bind fun t398 => (if t398 = true then (some (a0, 0, ([] : List (List Int)), y394, ([] : List Int), true)) else (some (0, 0, ([] : List (List Int)), ([] : List Int), ([] : List Int), false))))) else (none))) = some (r1, r2, r3, r4, r5, r6) := h
 clear h
 obtain ⟨y391, hy_⟩ : ∃ y_ : List Int, y_ = (([] : List Int)) := ⟨_, rfl⟩
 replace H : (if y391.length + l1.length < 17592186044416 then ((some (y391 ++ l1 : List Int)).bind fun y394 => ((spec_GoodBoard.f k a0 0 ([] : List (List Int)) y394 ([] : List Int)).bind fun t398 => (if t398 = true then (some (a0, 0, ([] : List (List Int)), y394, ([] : List Int), true)) else (some (0, 0, ([] : List (List Int)), ([] : List Int), ([] : List Int), false))))) else (none)) = some (r1, r2, r3, r4, r5, r6) := yH
 have Ny391 := ak hy_; clear hy_; replace H := ifS H; obtain ⟨c3, H⟩ := H; have LMc3 := Aside0.mk c3; clear c3
 obtain ⟨y394, hy_⟩ : ∃ y_ : List Int, y_ = (y391 ++ l1) := ⟨_, rfl⟩
 replace H : ((spec_GoodBoard.f k a0 0 ([] : List (List Int)) y394 ([] : List Int)).bind fun t398 => (if t398 = true then (some (a0, 0, ([] : List (List Int)), y394, ([] : List Int), true)) else (some (0, 0, ([] : List (List Int)), ([] : List Int), ([] : List Int), false)))) = some (r1, r2, r3, r4, r5, r6) := yH
 have Ny394 := ak hy_; clear hy_; replace H := bS H; obtain ⟨t398, A4, H⟩ := H
 replace H : (if t398 = true then (some (a0, 0, ([] : List (List Int)), y394, ([] : List Int), true)) else (some (0, 0, ([] : List (List Int)), ([] : List Int), ([] : List Int), false))) = some (r1, r2, r3, r4, r5, r6) := H
 by_cases c5 : t398 = true
 ·subst c5
  have H1 : (some (a0, 0, ([] : List (List Int)), y394, ([] : List Int), true)) = some (r1, r2, r3, r4, r5, r6) := by rw [if_pos rfl] at H; exact H
  clear H
  have H := H1
  clear H1
  simp only [Option.some.injEq, Prod.mk.injEq] at H
  obtain ⟨rfl, rfl, rfl, rfl, rfl, rfl⟩ := H
  go_enter Try.func120, Try.ntmps120
  go_wp2_with (first | ((with_reducible refine gate_dst (N := 4) rfl ?_); refine boxev 4 #[.int .i64 0, .int .i64 0, .slice none 0 0, .slice none 0 0, .slice none 0 0] 47 ?_; intro gb390 hg w6 hbox hb; have BK390 := ak (hbox); have GW390 := ak (hgl hg (belowd HB)); have GE390 := ak (hgl hg (belowd HB)); replace HB := ak (below_step (belowd HB) hb); clear hb hbox hg) | ((with_reducible refine gate_dst (N := 8) rfl ?_); refine Kd.R_lit (Kd.int .i64) _ 3 ?hg (N := 8) ?hd (xs := ([] : List Int)) (inner := []) (ok := fun _ => True) (okp := fun _ => True) ?hr ?hp (fun _ hk => hk) trivial (Below.refl _ _) (Nat.le_refl _) (by simp) ?_; (case hd => rfl); (case hg => rfl); (case hr => first | (go_simp; done) | (go_simp; rfl)); (case hp => exact (Reps.none _ _)); intro v392 w7 ho8 hb hg_ hnew_; clear hg_ hnew_; (first | rw [← Ny391.out] at ho8 | (simp only [Int.reduceToNat] at ho8; rw [← Ny391.out] at ho8)); have HO393 := ak (Kd.R_lower ho8 (below_size (belowg1 HB GE390))); replace BK390 := ak (blk_below (blkd BK390) hb); replace HB := ak (below_step (belowg1 HB GE390) hb); clear hb ho8) | ((with_reducible refine gate_builtin (b := .append) (xs := #[.tmp 8, .tmp 9]) rfl ?_); at_builtin; refine Kd.R_append_rows (Kd.int .i64) (w0 := w) w.heap.size rfl (.tmp 8) (.tmp 9) 23 3 (.int .i64 0) 8 rfl Try.underlying23 info3 rfl (by decide) (by omega) v392 y391 l1 _ _ _ (fun _ => True) (fun _ => False) rfl rfl ?aO ?aR (fun _ _ h => h) (fun _ h => h.elim) ?aF ?aB ?aS ?aL ?_; (case aR => exact cd (Kd.C_below HR1.out HB.out)); (case aB => exact (belowg1 HB GE390)); (case aF => exact (fun _ _ => trivial)); (case aO => exact (rdl HO393)); (case aS => exact (below_size (belowg1 HB GE390))); (case aL => have := LMc3.out; omega); intro v395 w9 ho hb hg hat; rw [← Ny394.out] at ho; replace BK390 := ak (blk_grown (blkd BK390) hg (Kd.R_ne HO393.out BK390.out (by decide))); replace HB := ak (hb); have HO396 := ak (ho); clear HO393; clear ho hb hg hat; obtain ⟨Ao10, co10, eo10⟩ := Kd.R_slice HO396.out; subst eo10) | ((with_reducible refine gate_dst (N := 6) rfl ?_); refine boxev 6 #[.int .i64 0, .int .i64 0, .slice none 0 0, .slice none 0 0, .slice none 0 0] 47 ?_; intro gb397 hg w11 hbox hb; replace HO396 := ak (Kd.R_below (rdl HO396) hb); have BK397 := ak (hbox); have GW397 := ak (hgl hg (belowg1 HB GE390)); have GE397 := ak (hgl hg (belowg1 HB GE390)); replace HB := ak (below_step (belowg1 HB GE390) hb); have NB390_397 := ak ((by rw [hg]; exact Nat.ne_of_lt (blk_lt (blkd BK390)) : gb390 ≠ gb397)); have NB397_390 := ak ((by rw [hg]; exact Nat.ne_of_gt (blk_lt (blkd BK390)) : gb397 ≠ gb390)); replace BK390 := ak (blk_below (blkd BK390) hb); clear hb hbox hg; have hnb12 := NB397_390.out; have hnc12 := NB390_397.out; obtain ⟨hcz13_0, hcz13_1, hcz13_2, hcz13_3, hcz13_4, hfz13_0, hfz13_1, hfz13_2, hfz13_3, hfz13_4⟩ := box5 BK397) | ((with_reducible refine gate_callee (f := 192) rfl ?_); refine goesLa (some 13) rfl Try.func192 #[.agg #[.int .i64 a0, .int .i64 0, .slice none 0 0, .slice Ao10 y394.length co10, .slice none 0 0]] rfl ?_; (refine (spec_GoodBoard.calls k a0 0 _ _ ([] : List (List Int)) _ _ y394 _ _ ([] : List Int) true _ ?side1 ?side2 ?side3 ?side4 ?side5 ?side6 A4.out).mono ?_); (case side1 => exact Kd.C_nil _ _); (case side2 => exact Nat.le_refl _); (case side3 => exact rdR HO396 BK397); (case side4 => exact (Kd.R_reads' HO396.out).2.1); (case side5 => exact Kd.C_nil _ _); (case side6 => exact Nat.le_refl _); rintro e w14 ⟨rfl, hb⟩; refine ⟨_, rfl, ?_⟩; replace HO396 := ak (Kd.R_below (by (with_reducible repeat (first | apply Kd.R_alloc | apply Kd.R_drewN | apply Kd.R_drew)); exact (Kd.R_mono (farsR (Kd.R_types HO396.out BK397.out (by decide))) (fun _ h_ => h_.1))) hb); replace BK390 := ak (blk_below (g := gb390) (o := .cells #[.int .i64 0, .int .i64 0, .slice none 0 0, .slice none 0 0, .slice none 0 0] 47 (0, 0)) (by (with_reducible repeat (first | refine blk_drewN ?_ _ | refine blk_drew ?_ | refine blk_alloc ?_ _)); refine blk_far ?_ NB390_397.out _; (with_reducible repeat (first | refine blk_drewN ?_ _ | refine blk_drew ?_ | refine blk_alloc ?_ _)); refine blk_far ?_ NB390_397.out _; (with_reducible repeat (first | refine blk_drewN ?_ _ | refine blk_drew ?_ | refine blk_alloc ?_ _)); refine blk_far ?_ NB390_397.out _; (with_reducible repeat (first | refine blk_drewN ?_ _ | refine blk_drew ?_ | refine blk_alloc ?_ _)); refine blk_far ?_ NB390_397.out _; (with_reducible repeat (first | refine blk_drewN ?_ _ | refine blk_drew ?_ | refine blk_alloc ?_ _)); refine blk_far ?_ NB390_397.out _; (with_reducible repeat (first | refine blk_drewN ?_ _ | refine blk_drew ?_ | refine blk_alloc ?_ _)); exact BK390.out) hb); replace BK397 := ak (blk_below (g := gb397) (o := .cells #[.int .i64 a0, .int .i64 0, .slice none 0 0, .slice Ao10 y394.length co10, .slice none 0 0] 47 (0, 0)) (by (with_reducible repeat (first | refine blk_drewN ?_ _ | refine blk_drew ?_ | refine blk_alloc ?_ _)); refine blk_put (cs := #[.int .i64 a0, .int .i64 0, .slice none 0 0, .slice Ao10 y394.length co10, .slice none 0 0]) ?_ 4 _ rfl; (with_reducible repeat (first | refine blk_drewN ?_ _ | refine blk_drew ?_ | refine blk_alloc ?_ _)); refine blk_put (cs := #[.int .i64 a0, .int .i64 0, .slice none 0 0, .slice none 0 0, .slice none 0 0]) ?_ 3 _ rfl; (with_reducible repeat (first | refine blk_drewN ?_ _ | refine blk_drew ?_ | refine blk_alloc ?_ _)); refine blk_put (cs := #[.int .i64 a0, .int .i64 0, .slice none 0 0, .slice none 0 0, .slice none 0 0]) ?_ 2 _ rfl; (with_reducible repeat (first | refine blk_drewN ?_ _ | refine blk_drew ?_ | refine blk_alloc ?_ _)); refine blk_put (cs := #[.int .i64 a0, .int .i64 0, .slice none 0 0, .slice none 0 0, .slice none 0 0]) ?_ 1 _ rfl; (with_reducible repeat (first | refine blk_drewN ?_ _ | refine blk_drew ?_ | refine blk_alloc ?_ _)); refine blk_put (cs := #[.int .i64 0, .int .i64 0, .slice none 0 0, .slice none 0 0, .slice none 0 0]) ?_ 0 _ rfl; (with_reducible repeat (first | refine blk_drewN ?_ _ | refine blk_drew ?_ | refine blk_alloc ?_ _)); exact BK397.out) hb); replace HB := ak (below_step (belowg2 HB GE390 GE397) hb); (try clear hb); obtain ⟨hcz15_0, hcz15_1, hcz15_2, hcz15_3, hcz15_4, hfz15_0, hfz15_1, hfz15_2, hfz15_3, hfz15_4⟩ := box5 BK397; obtain ⟨hcz16_0, hcz16_1, hcz16_2, hcz16_3, hcz16_4, hfz16_0, hfz16_1, hfz16_2, hfz16_3, hfz16_4⟩ := box5 BK390))
  refine bodyPost_ret (results_ct rfl _ _ gb390 47 #[.int .i64 a0, .int .i64 0, .slice none 0 0, .slice Ao10 y394.length co10, .slice none 0 0] (0, 0) _ rfl (by (with_reducible repeat (first | refine blk_drewN ?_ _ | refine blk_drew ?_ | refine blk_alloc ?_ _)); refine blk_put (cs := #[.int .i64 a0, .int .i64 0, .slice none 0 0, .slice Ao10 y394.length co10, .slice none 0 0]) ?_ 4 _ rfl; (with_reducible repeat (first | refine blk_drewN ?_ _ | refine blk_drew ?_ | refine blk_alloc ?_ _)); refine blk_put (cs := #[.int .i64 a0, .int .i64 0, .slice none 0 0, .slice none 0 0, .slice none 0 0]) ?_ 3 _ rfl; (with_reducible repeat (first | refine blk_drewN ?_ _ | refine blk_drew ?_ | refine blk_alloc ?_ _)); refine blk_put (cs := #[.int .i64 a0, .int .i64 0, .slice none 0 0, .slice none 0 0, .slice none 0 0]) ?_ 2 _ rfl; (with_reducible repeat (first | refine blk_drewN ?_ _ | refine blk_drew ?_ | refine blk_alloc ?_ _)); refine blk_put (cs := #[.int .i64 a0, .int .i64 0, .slice none 0 0, .slice none 0 0, .slice none 0 0]) ?_ 1 _ rfl; (with_reducible repeat (first | refine blk_drewN ?_ _ | refine blk_drew ?_ | refine blk_alloc ?_ _)); refine blk_put (cs := #[.int .i64 0, .int .i64 0, .slice none 0 0, .slice none 0 0, .slice none 0 0]) ?_ 0 _ rfl; (with_reducible repeat (first | refine blk_drewN ?_ _ | refine blk_drew ?_ | refine blk_alloc ?_ _)); exact BK390.out) Try.underlying47 rfl (by kernel_rfl)) rfl ?_
  exact ⟨_, _, _, er2, by first | exact Kd.S_nil _ _ _ _ _ | exact Kd.N_nil _ _ _ _ _ | exact Kd.V_nil _ _ _ _ _ | exact Kd.Q_nil _ _ _ _ _ | exact Kd.R_nil _ _ _ _ _, by (with_reducible repeat (first | apply Kd.R_alloc | apply Kd.R_drewN | apply Kd.R_drew)); exact Kd.R_mono (farsR (Kd.R_types HO396.out BK390.out (by decide))) (fun _ hk => (by simp [Value.ownBlock])), by first | exact Kd.R_nil _ _ _ _ _ | exact Kd.N_nil _ _ _ _ _ | exact Kd.V_nil _ _ _ _ _ | exact Kd.Q_nil _ _ _ _ _ | exact Kd.S_nil _ _ _ _ _, belowg2 HB GE390 GE397⟩
 ·replace c5 := Bool.eq_false_iff.mpr c5
  subst c5
  have H1 : (some (0, 0, ([] : List (List Int)), ([] : List Int), ([] : List Int), false)) = some (r1, r2, r3, r4, r5, r6) := by rw [if_neg (show ¬ (false = true) by decide)] at H; exact H
  clear H
  have H := H1
  clear H1
  simp only [Option.some.injEq, Prod.mk.injEq] at H
  obtain ⟨rfl, rfl, rfl, rfl, rfl, rfl⟩ := H
  go_enter Try.func120, Try.ntmps120
  go_wp2_with (first | ((with_reducible refine gate_dst (N := 4) rfl ?_); refine boxev 4 #[.int .i64 0, .int .i64 0, .slice none 0 0, .slice none 0 0, .slice none 0 0] 47 ?_; intro gb390 hg w17 hbox hb; have BK390 := ak (hbox); have GW390 := ak (hgl hg (belowd HB)); have GE390 := ak (hgl hg (belowd HB)); replace HB := ak (below_step (belowd HB) hb); clear hb hbox hg) | ((with_reducible refine gate_dst (N := 8) rfl ?_); refine Kd.R_lit (Kd.int .i64) _ 3 ?hg (N := 8) ?hd (xs := ([] : List Int)) (inner := []) (ok := fun _ => True) (okp := fun _ => True) ?hr ?hp (fun _ hk => hk) trivial (Below.refl _ _) (Nat.le_refl _) (by simp) ?_; (case hd => rfl); (case hg => rfl); (case hr => first | (go_simp; done) | (go_simp; rfl)); (case hp => exact (Reps.none _ _)); intro v392 w18 ho19 hb hg_ hnew_; clear hg_ hnew_; (first | rw [← Ny391.out] at ho19 | (simp only [Int.reduceToNat] at ho19; rw [← Ny391.out] at ho19)); have HO393 := ak (Kd.R_lower ho19 (below_size (belowg1 HB GE390))); replace BK390 := ak (blk_below (blkd BK390) hb); replace HB := ak (below_step (belowg1 HB GE390) hb); clear hb ho19) | ((with_reducible refine gate_builtin (b := .append) (xs := #[.tmp 8, .tmp 9]) rfl ?_); at_builtin; refine Kd.R_append_rows (Kd.int .i64) (w0 := w) w.heap.size rfl (.tmp 8) (.tmp 9) 23 3 (.int .i64 0) 8 rfl Try.underlying23 info3 rfl (by decide) (by omega) v392 y391 l1 _ _ _ (fun _ => True) (fun _ => False) rfl rfl ?aO ?aR (fun _ _ h => h) (fun _ h => h.elim) ?aF ?aB ?aS ?aL ?_; (case aR => exact cd (Kd.C_below HR1.out HB.out)); (case aB => exact (belowg1 HB GE390)); (case aF => exact (fun _ _ => trivial)); (case aO => exact (rdl HO393)); (case aS => exact (below_size (belowg1 HB GE390))); (case aL => have := LMc3.out; omega); intro v395 w20 ho hb hg hat; rw [← Ny394.out] at ho; replace BK390 := ak (blk_grown (blkd BK390) hg (Kd.R_ne HO393.out BK390.out (by decide))); replace HB := ak (hb); have HO396 := ak (ho); clear HO393; clear ho hb hg hat; obtain ⟨Ao21, co21, eo21⟩ := Kd.R_slice HO396.out; subst eo21) | ((with_reducible refine gate_dst (N := 6) rfl ?_); refine boxev 6 #[.int .i64 0, .int .i64 0, .slice none 0 0, .slice none 0 0, .slice none 0 0] 47 ?_; intro gb397 hg w22 hbox hb; replace HO396 := ak (Kd.R_below (rdl HO396) hb); have BK397 := ak (hbox); have GW397 := ak (hgl hg (belowg1 HB GE390)); have GE397 := ak (hgl hg (belowg1 HB GE390)); replace HB := ak (below_step (belowg1 HB GE390) hb); have NB390_397 := ak ((by rw [hg]; exact Nat.ne_of_lt (blk_lt (blkd BK390)) : gb390 ≠ gb397)); have NB397_390 := ak ((by rw [hg]; exact Nat.ne_of_gt (blk_lt (blkd BK390)) : gb397 ≠ gb390)); replace BK390 := ak (blk_below (blkd BK390) hb); clear hb hbox hg; have hnb23 := NB397_390.out; have hnc23 := NB390_397.out; obtain ⟨hcz24_0, hcz24_1, hcz24_2, hcz24_3, hcz24_4, hfz24_0, hfz24_1, hfz24_2, hfz24_3, hfz24_4⟩ := box5 BK397) | ((with_reducible refine gate_callee (f := 192) rfl ?_); refine goesLa (some 13) rfl Try.func192 #[.agg #[.int .i64 a0, .int .i64 0, .slice none 0 0, .slice Ao21 y394.length co21, .slice none 0 0]] rfl ?_; (refine (spec_GoodBoard.calls k a0 0 _ _ ([] : List (List Int)) _ _ y394 _ _ ([] : List Int) false _ ?side1 ?side2 ?side3 ?side4 ?side5 ?side6 A4.out).mono ?_); (case side1 => exact Kd.C_nil _ _); (case side2 => exact Nat.le_refl _); (case side3 => exact rdR HO396 BK397); (case side4 => exact (Kd.R_reads' HO396.out).2.1); (case side5 => exact Kd.C_nil _ _); (case side6 => exact Nat.le_refl _); rintro e w25 ⟨rfl, hb⟩; refine ⟨_, rfl, ?_⟩; replace HO396 := ak (Kd.R_below (by (with_reducible repeat (first | apply Kd.R_alloc | apply Kd.R_drewN | apply Kd.R_drew)); exact (Kd.R_mono (farsR (Kd.R_types HO396.out BK397.out (by decide))) (fun _ h_ => h_.1))) hb); replace BK390 := ak (blk_below (g := gb390) (o := .cells #[.int .i64 0, .int .i64 0, .slice none 0 0, .slice none 0 0, .slice none 0 0] 47 (0, 0)) (by (with_reducible repeat (first | refine blk_drewN ?_ _ | refine blk_drew ?_ | refine blk_alloc ?_ _)); refine blk_far ?_ NB390_397.out _; (with_reducible repeat (first | refine blk_drewN ?_ _ | refine blk_drew ?_ | refine blk_alloc ?_ _)); refine blk_far ?_ NB390_397.out _; (with_reducible repeat (first | refine blk_drewN ?_ _ | refine blk_drew ?_ | refine blk_alloc ?_ _)); refine blk_far ?_ NB390_397.out _; (with_reducible repeat (first | refine blk_drewN ?_ _ | refine blk_drew ?_ | refine blk_alloc ?_ _)); refine blk_far ?_ NB390_397.out _; (with_reducible repeat (first | refine blk_drewN ?_ _ | refine blk_drew ?_ | refine blk_alloc ?_ _)); refine blk_far ?_ NB390_397.out _; (with_reducible repeat (first | refine blk_drewN ?_ _ | refine blk_drew ?_ | refine blk_alloc ?_ _)); exact BK390.out) hb); replace BK397 := ak (blk_below (g := gb397) (o := .cells #[.int .i64 a0, .int .i64 0, .slice none 0 0, .slice Ao21 y394.length co21, .slice none 0 0] 47 (0, 0)) (by (with_reducible repeat (first | refine blk_drewN ?_ _ | refine blk_drew ?_ | refine blk_alloc ?_ _)); refine blk_put (cs := #[.int .i64 a0, .int .i64 0, .slice none 0 0, .slice Ao21 y394.length co21, .slice none 0 0]) ?_ 4 _ rfl; (with_reducible repeat (first | refine blk_drewN ?_ _ | refine blk_drew ?_ | refine blk_alloc ?_ _)); refine blk_put (cs := #[.int .i64 a0, .int .i64 0, .slice none 0 0, .slice none 0 0, .slice none 0 0]) ?_ 3 _ rfl; (with_reducible repeat (first | refine blk_drewN ?_ _ | refine blk_drew ?_ | refine blk_alloc ?_ _)); refine blk_put (cs := #[.int .i64 a0, .int .i64 0, .slice none 0 0, .slice none 0 0, .slice none 0 0]) ?_ 2 _ rfl; (with_reducible repeat (first | refine blk_drewN ?_ _ | refine blk_drew ?_ | refine blk_alloc ?_ _)); refine blk_put (cs := #[.int .i64 a0, .int .i64 0, .slice none 0 0, .slice none 0 0, .slice none 0 0]) ?_ 1 _ rfl; (with_reducible repeat (first | refine blk_drewN ?_ _ | refine blk_drew ?_ | refine blk_alloc ?_ _)); refine blk_put (cs := #[.int .i64 0, .int .i64 0, .slice none 0 0, .slice none 0 0, .slice none 0 0]) ?_ 0 _ rfl; (with_reducible repeat (first | refine blk_drewN ?_ _ | refine blk_drew ?_ | refine blk_alloc ?_ _)); exact BK397.out) hb); replace HB := ak (below_step (belowg2 HB GE390 GE397) hb); (try clear hb); obtain ⟨hcz26_0, hcz26_1, hcz26_2, hcz26_3, hcz26_4, hfz26_0, hfz26_1, hfz26_2, hfz26_3, hfz26_4⟩ := box5 BK390))
  refine bodyPost_ret (results_ct rfl _ _ gb390 47 #[.int .i64 0, .int .i64 0, .slice none 0 0, .slice none 0 0, .slice none 0 0] (0, 0) _ rfl (by (with_reducible repeat (first | refine blk_drewN ?_ _ | refine blk_drew ?_ | refine blk_alloc ?_ _)); refine blk_put (cs := #[.int .i64 0, .int .i64 0, .slice none 0 0, .slice none 0 0, .slice none 0 0]) ?_ 4 _ rfl; (with_reducible repeat (first | refine blk_drewN ?_ _ | refine blk_drew ?_ | refine blk_alloc ?_ _)); refine blk_put (cs := #[.int .i64 0, .int .i64 0, .slice none 0 0, .slice none 0 0, .slice none 0 0]) ?_ 3 _ rfl; (with_reducible repeat (first | refine blk_drewN ?_ _ | refine blk_drew ?_ | refine blk_alloc ?_ _)); refine blk_put (cs := #[.int .i64 0, .int .i64 0, .slice none 0 0, .slice none 0 0, .slice none 0 0]) ?_ 2 _ rfl; (with_reducible repeat (first | refine blk_drewN ?_ _ | refine blk_drew ?_ | refine blk_alloc ?_ _)); refine blk_put (cs := #[.int .i64 0, .int .i64 0, .slice none 0 0, .slice none 0 0, .slice none 0 0]) ?_ 1 _ rfl; (with_reducible repeat (first | refine blk_drewN ?_ _ | refine blk_drew ?_ | refine blk_alloc ?_ _)); refine blk_put (cs := #[.int .i64 0, .int .i64 0, .slice none 0 0, .slice none 0 0, .slice none 0 0]) ?_ 0 _ rfl; (with_reducible repeat (first | refine blk_drewN ?_ _ | refine blk_drew ?_ | refine blk_alloc ?_ _)); exact BK390.out) Try.underlying47 rfl (by kernel_rfl)) rfl ?_
  exact ⟨_, _, _, er2, by first | exact Kd.S_nil _ _ _ _ _ | exact Kd.N_nil _ _ _ _ _ | exact Kd.V_nil _ _ _ _ _ | exact Kd.Q_nil _ _ _ _ _ | exact Kd.R_nil _ _ _ _ _, by first | exact Kd.R_nil _ _ _ _ _ | exact Kd.N_nil _ _ _ _ _ | exact Kd.V_nil _ _ _ _ _ | exact Kd.Q_nil _ _ _ _ _ | exact Kd.S_nil _ _ _ _ _, by first | exact Kd.R_nil _ _ _ _ _ | exact Kd.N_nil _ _ _ _ _ | exact Kd.V_nil _ _ _ _ _ | exact Kd.Q_nil _ _ _ _ _ | exact Kd.S_nil _ _ _ _ _, belowg2 HB GE390 GE397⟩

/-! ### spec_l13Has: function 195 -/
def spec_l13Has.l0 : Nat → Int → Int → Int → List (List Int) → Int → Int → Option (Bool)
  | 0, _, _, _, _, _, _ => none
  | k + 1, x1, x2, x3, x12, x13, x14 => if x14 < x13 then (if 0 ≤ x14 then (if x14 < (x12.length : Int) then (if 0 < ((rd_L3 x12 x14).length : Int) then (if (rd (rd_L3 x12 x14) 0) = x1 then (if 1 < ((rd_L3 x12 x14).length : Int) then (if (rd (rd_L3 x12 x14) 1) = x2 then (if x3 < 0 then (some true) else (if 2 < ((rd_L3 x12 x14).length : Int) then (if (rd (rd_L3 x12 x14) 2) = x3 then (some true) else (spec_l13Has.l0 k x1 x2 x3 x12 x13 (wrap64 (x14 + 1)))) else (none))) else (spec_l13Has.l0 k x1 x2 x3 x12 x13 (wrap64 (x14 + 1)))) else (none)) else (spec_l13Has.l0 k x1 x2 x3 x12 x13 (wrap64 (x14 + 1)))) else (none)) else (none)) else (none)) else (some false)
def spec_l13Has.f (k : Nat) (a0_0 : Int) (a0_1 : Int) (l0_2 : List (List Int)) (l0_3 : List Int) (l0_4 : List Int) (a1 : Int) (a2 : Int) (a3 : Int) : Option (Bool) := spec_l13Has.l0 k a1 a2 a3 l0_2 (l0_2.length : Int) 0
theorem spec_l13Has.mono_l : ∀ k, (∀ y0 y1 y2 y3 y4 y5, LeO (spec_l13Has.l0 k y0 y1 y2 y3 y4 y5) (spec_l13Has.l0 (k + 1) y0 y1 y2 y3 y4 y5))
 | 0 => fun _ _ _ _ _ _ r h => by simp [spec_l13Has.l0] at h
 | k + 1 => by
  have ih0 := spec_l13Has.mono_l k
  ·intro y0 y1 y2 y3 y4 y5
   unfold spec_l13Has.l0
   repeat' (first | (with_reducible first | exact ih0 _ _ _ _ _ _ | exact LeO.refl _ | exact LeO.none _ | refine LeO.ite ?_ ?_ | refine LeO.bind ?_ (fun _ => ?_)) | exact ih0 _ _ _ _ _ _ | exact LeO.none _ | refine LeO.ite ?_ ?_ | refine LeO.bind ?_ (fun _ => ?_))
theorem spec_l13Has.mono : ∀ a0 a1 a2 a3 a4 a5 a6 a7 k, LeO (spec_l13Has.f k a0 a1 a2 a3 a4 a5 a6 a7) (spec_l13Has.f (k + 1) a0 a1 a2 a3 a4 a5 a6 a7) := by
 intro a0 a1 a2 a3 a4 a5 a6 a7 k
 have ih0 := spec_l13Has.mono_l k
 unfold spec_l13Has.f
 repeat' (first | (with_reducible first | exact ih0 _ _ _ _ _ _ | exact LeO.refl _ | exact LeO.none _ | refine LeO.ite ?_ ?_ | refine LeO.bind ?_ (fun _ => ?_)) | exact ih0 _ _ _ _ _ _ | exact LeO.none _ | refine LeO.ite ?_ ?_ | refine LeO.bind ?_ (fun _ => ?_))
set_option maxHeartbeats 8000000 in
set_option maxRecDepth 100000 in
theorem spec_l13Has.calls (k : Nat) (a0_0 : Int) (a0_1 : Int) (A0_2 : Option Addr) (c0_2 : Nat) (l0_2 : List (List Int)) (A0_3 : Option Addr) (c0_3 : Nat) (l0_3 : List Int) (A0_4 : Option Addr) (c0_4 : Nat) (l0_4 : List Int) (a1 : Int) (a2 : Int) (a3 : Int) (r : Bool) (w : World) (hr0_2 : Kd.C (Kd.slice 3 (Kd.int .i64)) w A0_2 l0_2.length l0_2) (hc0_2 : l0_2.length ≤ c0_2) (hr0_3 : Kd.C (Kd.int .i64) w A0_3 l0_3.length l0_3) (hc0_3 : l0_3.length ≤ c0_3) (hr0_4 : Kd.C (Kd.int .i64) w A0_4 l0_4.length l0_4) (hc0_4 : l0_4.length ≤ c0_4) (h : spec_l13Has.f k a0_0 a0_1 l0_2 l0_3 l0_4 a1 a2 a3 = some r) :
  Calls Try.prog 195 #[.agg #[.int .i64 a0_0, .int .i64 a0_1, .slice A0_2 l0_2.length c0_2, .slice A0_3 l0_3.length c0_3, .slice A0_4 l0_4.length c0_4], .int .i64 a1, .int .i64 a2, .int .i64 a3] w fun e w' => e = .returned (.bool r) ∧ Below w.heap.size w w' := by
 have hu47 := Try.underlying47
 have HR0_2 := Aside0.mk hr0_2; have HC0_2 := Aside0.mk hc0_2; clear hr0_2 hc0_2; have HR0_3 := Aside0.mk hr0_3; have HC0_3 := Aside0.mk hc0_3; clear hr0_3 hc0_3; have HR0_4 := Aside0.mk hr0_4; have HC0_4 := Aside0.mk hc0_4; clear hr0_4 hc0_4
 have HB := Aside0.mk (Below.refl w.heap.size w)
 have H : (spec_l13Has.l0 k a1 a2 a3 l0_2 (l0_2.length : Int) 0) = some r := h
 clear h
 have H' := Aside0.mk H
 clear H
 go_enter Try.func195, Try.ntmps195
 go_wp2_with (first | ((with_reducible refine gate_dst (N := 4) rfl ?_); refine boxev 4 #[.int .i64 a0_0, .int .i64 a0_1, .slice A0_2 l0_2.length c0_2, .slice A0_3 l0_3.length c0_3, .slice A0_4 l0_4.length c0_4] 47 ?_; intro gb399 hg w5 hbox hb; have BK399 := ak (hbox); have GW399 := ak (hgl hg (belowd HB)); have GE399 := ak (hgl hg (belowd HB)); replace HB := ak (below_step (belowd HB) hb); clear hb hbox hg; obtain ⟨hcz6_0, hcz6_1, hcz6_2, hcz6_3, hcz6_4, hfz6_0, hfz6_1, hfz6_2, hfz6_3, hfz6_4⟩ := box5 BK399))
 go_loopg [14] k (fun kq v14 w' => ∃ (x14_1 : Int), v14 = .int .i64 x14_1 ∧ Aside0 (spec_l13Has.l0 kq a1 a2 a3 l0_2 (l0_2.length : Int) x14_1 = some r) ∧ Aside0 (kq ≤ k) ∧ Aside0 (w'.heap[gb399]? = some (.cells #[.int .i64 a0_0, .int .i64 a0_1, (.slice A0_2 l0_2.length c0_2), (.slice A0_3 l0_3.length c0_3), (.slice A0_4 l0_4.length c0_4)] 47 (0, 0))) ∧ Aside0 (Below w.heap.size w w'))
 case atStart => exact ⟨(0), er, H', ⟨Nat.le_refl _⟩, ⟨blkd BK399⟩, ⟨belowg1 HB GE399⟩⟩
 case round =>
  clear H'
  (try clear hcz6_0); (try clear hcz6_1); (try clear hcz6_2); (try clear hcz6_3); (try clear hcz6_4); (try clear hfz6_0); (try clear hfz6_1); (try clear hfz6_2); (try clear hfz6_3); (try clear hfz6_4)
  obtain ⟨x14_1, rfl, HA, HK1, BK399, HB⟩ := hrel
  cases gk with
  | zero => exact absurd HA.out (by simp [spec_l13Has.l0])
  | succ k1 =>
   have H := HA.out; clear HA
   simp only [spec_l13Has.l0] at H
   by_cases c7 : x14_1 < (l0_2.length : Int)
   ·rw [if_pos c7] at H
    have c7b0 : decide (x14_1 < (l0_2.length : Int)) = true := decide_eq_true c7
    clear c7; replace H := ifS H; obtain ⟨c8, H⟩ := H; have c8b0 := decide_eq_true c8; clear c8; replace H := ifS H; obtain ⟨c9, H⟩ := H; have c9b0 := decide_eq_true c9; clear c9; replace H := ifS H; obtain ⟨c10, H⟩ := H; have c10b0 := decide_eq_true c10
    have c10b1 : decide (0 < (rd_L3 l0_2 x14_1).length) = true := decide_eq_true (by omega)
    clear c10
    by_cases c11 : (rd (rd_L3 l0_2 x14_1) 0) = a1
    ·rw [if_pos c11] at H
     have c11b0 : ((rd (rd_L3 l0_2 x14_1) 0) == a1) = true := beq_iff_eq.mpr c11
     have c11b1 : ((rd (rd_L3 l0_2 x14_1) 0) != a1) = false := bne_eq_false_iff_eq.mpr c11
     clear c11; replace H := ifS H; obtain ⟨c12, H⟩ := H; have c12b0 := decide_eq_true c12
     have c12b1 : decide (1 < (rd_L3 l0_2 x14_1).length) = true := decide_eq_true (by omega)
     clear c12
     by_cases c13 : (rd (rd_L3 l0_2 x14_1) 1) = a2
     ·rw [if_pos c13] at H
      have c13b0 : ((rd (rd_L3 l0_2 x14_1) 1) == a2) = true := beq_iff_eq.mpr c13
      have c13b1 : ((rd (rd_L3 l0_2 x14_1) 1) != a2) = false := bne_eq_false_iff_eq.mpr c13
      clear c13
      by_cases c14 : a3 < 0
      ·rw [if_pos c14] at H
       have c14b0 : decide (a3 < 0) = true := decide_eq_true c14
       clear c14
       obtain rfl := Option.some.inj H
       have p400 : 0 ≤ (x14_1 : Int) := da
       have q400 : x14_1 < (l0_2.length : Int) := da
       obtain ⟨ad400, A400_0, c400_0, e400, hx400_0, hl400_0, hi400_0⟩ := at_L3 HR0_2.out x14_1 p400 q400
       cases e400
       replace hx400_0 := (HB.out.cell (World.block_lt_of_cell? w _ hx400_0)).trans hx400_0
       have HR400_0 := Aside0.mk hi400_0; have HC400_0 := Aside0.mk hl400_0; clear hi400_0 hl400_0; replace p400 := eq_true p400; replace q400 := eq_true q400
       have p401 : 0 ≤ (0 : Int) := (by omega)
       have q401 : 0 < ((rd_L3 l0_2 x14_1).length : Int) := da
       obtain ⟨ad401, e401, hx401_0⟩ := Kd.at_int HR400_0.out 0 p401 q401
       cases e401
       have qi401 : (0 < (rd_L3 l0_2 x14_1).length) = True := eq_true (by omega)
       (try rw [show ((0 : Int)).toNat = 0 from rfl] at hx401_0)
       (try rw [Addr.add_zero'] at hx401_0)
       replace hx401_0 := (HB.out.cell (World.block_lt_of_cell? w _ hx401_0)).trans hx401_0
       replace p401 := eq_true p401; replace q401 := eq_true q401
       have p402 : 0 ≤ (1 : Int) := (by omega)
       have q402 : 1 < ((rd_L3 l0_2 x14_1).length : Int) := da
       obtain ⟨ad402, e402, hx402_0⟩ := Kd.at_int HR400_0.out 1 p402 q402
       obtain rfl : ad401 = ad402 := (by injection e402)
       (try simp only [show (1 : Int).toNat = 1 from rfl, Nat.reduceMul, Nat.reduceEqDiff, Go.Addr.add, ↓reduceIte] at hx402_0)
       have qi402 : (1 < (rd_L3 l0_2 x14_1).length) = True := eq_true (by omega)
       (try rw [show ((1 : Int)).toNat = 1 from rfl] at hx402_0)
       replace hx402_0 := (HB.out.cell (World.block_lt_of_cell? w _ hx402_0)).trans hx402_0
       replace p402 := eq_true p402; replace q402 := eq_true q402; go_wp2
       go_ret
       exact ⟨er2, belowg1 HB GE399⟩
      ·rw [if_neg c14] at H
       have c14b0 : decide (a3 < 0) = false := decide_eq_false c14
       clear c14; replace H := ifS H; obtain ⟨c15, H⟩ := H; have c15b0 := decide_eq_true c15
       have c15b1 : decide (2 < (rd_L3 l0_2 x14_1).length) = true := decide_eq_true (by omega)
       clear c15
       by_cases c16 : (rd (rd_L3 l0_2 x14_1) 2) = a3
       ·rw [if_pos c16] at H
        have c16b0 : ((rd (rd_L3 l0_2 x14_1) 2) == a3) = true := beq_iff_eq.mpr c16
        have c16b1 : ((rd (rd_L3 l0_2 x14_1) 2) != a3) = false := bne_eq_false_iff_eq.mpr c16
        clear c16
        obtain rfl := Option.some.inj H
        have p400 : 0 ≤ (x14_1 : Int) := da
        have q400 : x14_1 < (l0_2.length : Int) := da
        obtain ⟨ad400, A400_0, c400_0, e400, hx400_0, hl400_0, hi400_0⟩ := at_L3 HR0_2.out x14_1 p400 q400
        cases e400
        replace hx400_0 := (HB.out.cell (World.block_lt_of_cell? w _ hx400_0)).trans hx400_0
        have HR400_0 := Aside0.mk hi400_0; have HC400_0 := Aside0.mk hl400_0; clear hi400_0 hl400_0; replace p400 := eq_true p400; replace q400 := eq_true q400
        have p401 : 0 ≤ (0 : Int) := (by omega)
        have q401 : 0 < ((rd_L3 l0_2 x14_1).length : Int) := da
        obtain ⟨ad401, e401, hx401_0⟩ := Kd.at_int HR400_0.out 0 p401 q401
        cases e401
        have qi401 : (0 < (rd_L3 l0_2 x14_1).length) = True := eq_true (by omega)
        (try rw [show ((0 : Int)).toNat = 0 from rfl] at hx401_0)
        (try rw [Addr.add_zero'] at hx401_0)
        replace hx401_0 := (HB.out.cell (World.block_lt_of_cell? w _ hx401_0)).trans hx401_0
        replace p401 := eq_true p401; replace q401 := eq_true q401
        have p402 : 0 ≤ (1 : Int) := (by omega)
        have q402 : 1 < ((rd_L3 l0_2 x14_1).length : Int) := da
        obtain ⟨ad402, e402, hx402_0⟩ := Kd.at_int HR400_0.out 1 p402 q402
        obtain rfl : ad401 = ad402 := (by injection e402)
        (try simp only [show (1 : Int).toNat = 1 from rfl, Nat.reduceMul, Nat.reduceEqDiff, Go.Addr.add, ↓reduceIte] at hx402_0)
        have qi402 : (1 < (rd_L3 l0_2 x14_1).length) = True := eq_true (by omega)
        (try rw [show ((1 : Int)).toNat = 1 from rfl] at hx402_0)
        replace hx402_0 := (HB.out.cell (World.block_lt_of_cell? w _ hx402_0)).trans hx402_0
        replace p402 := eq_true p402; replace q402 := eq_true q402
        have p403 : 0 ≤ (2 : Int) := (by omega)
        have q403 : 2 < ((rd_L3 l0_2 x14_1).length : Int) := da
        obtain ⟨ad403, e403, hx403_0⟩ := Kd.at_int HR400_0.out 2 p403 q403
        obtain rfl : ad401 = ad403 := (by injection e403)
        (try simp only [show (2 : Int).toNat = 2 from rfl, Nat.reduceMul, Nat.reduceEqDiff, Go.Addr.add, ↓reduceIte] at hx403_0)
        have qi403 : (2 < (rd_L3 l0_2 x14_1).length) = True := eq_true (by omega)
        (try rw [show ((2 : Int)).toNat = 2 from rfl] at hx403_0)
        replace hx403_0 := (HB.out.cell (World.block_lt_of_cell? w _ hx403_0)).trans hx403_0
        replace p403 := eq_true p403; replace q403 := eq_true q403; go_wp2
        go_ret
        exact ⟨er2, belowg1 HB GE399⟩
       ·rw [if_neg c16] at H
        have c16b0 : ((rd (rd_L3 l0_2 x14_1) 2) == a3) = false := beq_eq_false_iff_ne.mpr c16
        have c16b1 : ((rd (rd_L3 l0_2 x14_1) 2) != a3) = true := bne_iff_ne.mpr c16
        have H' := Aside0.mk H
        clear H
        have p400 : 0 ≤ (x14_1 : Int) := da
        have q400 : x14_1 < (l0_2.length : Int) := da
        obtain ⟨ad400, A400_0, c400_0, e400, hx400_0, hl400_0, hi400_0⟩ := at_L3 HR0_2.out x14_1 p400 q400
        cases e400
        replace hx400_0 := (HB.out.cell (World.block_lt_of_cell? w _ hx400_0)).trans hx400_0
        have HR400_0 := Aside0.mk hi400_0; have HC400_0 := Aside0.mk hl400_0; clear hi400_0 hl400_0; replace p400 := eq_true p400; replace q400 := eq_true q400
        have p401 : 0 ≤ (0 : Int) := (by omega)
        have q401 : 0 < ((rd_L3 l0_2 x14_1).length : Int) := da
        obtain ⟨ad401, e401, hx401_0⟩ := Kd.at_int HR400_0.out 0 p401 q401
        cases e401
        have qi401 : (0 < (rd_L3 l0_2 x14_1).length) = True := eq_true (by omega)
        (try rw [show ((0 : Int)).toNat = 0 from rfl] at hx401_0)
        (try rw [Addr.add_zero'] at hx401_0)
        replace hx401_0 := (HB.out.cell (World.block_lt_of_cell? w _ hx401_0)).trans hx401_0
        replace p401 := eq_true p401; replace q401 := eq_true q401
        have p402 : 0 ≤ (1 : Int) := (by omega)
        have q402 : 1 < ((rd_L3 l0_2 x14_1).length : Int) := da
        obtain ⟨ad402, e402, hx402_0⟩ := Kd.at_int HR400_0.out 1 p402 q402
        obtain rfl : ad401 = ad402 := (by injection e402)
        (try simp only [show (1 : Int).toNat = 1 from rfl, Nat.reduceMul, Nat.reduceEqDiff, Go.Addr.add, ↓reduceIte] at hx402_0)
        have qi402 : (1 < (rd_L3 l0_2 x14_1).length) = True := eq_true (by omega)
        (try rw [show ((1 : Int)).toNat = 1 from rfl] at hx402_0)
        replace hx402_0 := (HB.out.cell (World.block_lt_of_cell? w _ hx402_0)).trans hx402_0
        replace p402 := eq_true p402; replace q402 := eq_true q402
        have p403 : 0 ≤ (2 : Int) := (by omega)
        have q403 : 2 < ((rd_L3 l0_2 x14_1).length : Int) := da
        obtain ⟨ad403, e403, hx403_0⟩ := Kd.at_int HR400_0.out 2 p403 q403
        obtain rfl : ad401 = ad403 := (by injection e403)
        (try simp only [show (2 : Int).toNat = 2 from rfl, Nat.reduceMul, Nat.reduceEqDiff, Go.Addr.add, ↓reduceIte] at hx403_0)
        have qi403 : (2 < (rd_L3 l0_2 x14_1).length) = True := eq_true (by omega)
        (try rw [show ((2 : Int)).toNat = 2 from rfl] at hx403_0)
        replace hx403_0 := (HB.out.cell (World.block_lt_of_cell? w _ hx403_0)).trans hx403_0
        replace p403 := eq_true p403; replace q403 := eq_true q403; go_wp2
        go_roundg k1
        case measure => have := HK1.out; omega
        case rel => exact ⟨(wrap64 (x14_1 + 1)), er, H', ⟨by have := HK1.out; omega⟩, ⟨blkd BK399⟩, ⟨belowg1 HB GE399⟩⟩
     ·rw [if_neg c13] at H
      have c13b0 : ((rd (rd_L3 l0_2 x14_1) 1) == a2) = false := beq_eq_false_iff_ne.mpr c13
      have c13b1 : ((rd (rd_L3 l0_2 x14_1) 1) != a2) = true := bne_iff_ne.mpr c13
      have H' := Aside0.mk H
      clear H
      have p400 : 0 ≤ (x14_1 : Int) := da
      have q400 : x14_1 < (l0_2.length : Int) := da
      obtain ⟨ad400, A400_0, c400_0, e400, hx400_0, hl400_0, hi400_0⟩ := at_L3 HR0_2.out x14_1 p400 q400
      cases e400
      replace hx400_0 := (HB.out.cell (World.block_lt_of_cell? w _ hx400_0)).trans hx400_0
      have HR400_0 := Aside0.mk hi400_0; have HC400_0 := Aside0.mk hl400_0; clear hi400_0 hl400_0; replace p400 := eq_true p400; replace q400 := eq_true q400
      have p401 : 0 ≤ (0 : Int) := (by omega)
      have q401 : 0 < ((rd_L3 l0_2 x14_1).length : Int) := da
      obtain ⟨ad401, e401, hx401_0⟩ := Kd.at_int HR400_0.out 0 p401 q401
      cases e401
      have qi401 : (0 < (rd_L3 l0_2 x14_1).length) = True := eq_true (by omega)
      (try rw [show ((0 : Int)).toNat = 0 from rfl] at hx401_0)
      (try rw [Addr.add_zero'] at hx401_0)
      replace hx401_0 := (HB.out.cell (World.block_lt_of_cell? w _ hx401_0)).trans hx401_0
      replace p401 := eq_true p401; replace q401 := eq_true q401
      have p402 : 0 ≤ (1 : Int) := (by omega)
      have q402 : 1 < ((rd_L3 l0_2 x14_1).length : Int) := da
      obtain ⟨ad402, e402, hx402_0⟩ := Kd.at_int HR400_0.out 1 p402 q402
      obtain rfl : ad401 = ad402 := (by injection e402)
      (try simp only [show (1 : Int).toNat = 1 from rfl, Nat.reduceMul, Nat.reduceEqDiff, Go.Addr.add, ↓reduceIte] at hx402_0)
      have qi402 : (1 < (rd_L3 l0_2 x14_1).length) = True := eq_true (by omega)
      (try rw [show ((1 : Int)).toNat = 1 from rfl] at hx402_0)
      replace hx402_0 := (HB.out.cell (World.block_lt_of_cell? w _ hx402_0)).trans hx402_0
      replace p402 := eq_true p402; replace q402 := eq_true q402; go_wp2
      go_roundg k1
      case measure => have := HK1.out; omega
      case rel => exact ⟨(wrap64 (x14_1 + 1)), er, H', ⟨by have := HK1.out; omega⟩, ⟨blkd BK399⟩, ⟨belowg1 HB GE399⟩⟩
    ·rw [if_neg c11] at H
     have c11b0 : ((rd (rd_L3 l0_2 x14_1) 0) == a1) = false := beq_eq_false_iff_ne.mpr c11
     have c11b1 : ((rd (rd_L3 l0_2 x14_1) 0) != a1) = true := bne_iff_ne.mpr c11
     have H' := Aside0.mk H
     clear H
     have p400 : 0 ≤ (x14_1 : Int) := da
     have q400 : x14_1 < (l0_2.length : Int) := da
     obtain ⟨ad400, A400_0, c400_0, e400, hx400_0, hl400_0, hi400_0⟩ := at_L3 HR0_2.out x14_1 p400 q400
     cases e400
     replace hx400_0 := (HB.out.cell (World.block_lt_of_cell? w _ hx400_0)).trans hx400_0
     have HR400_0 := Aside0.mk hi400_0; have HC400_0 := Aside0.mk hl400_0; clear hi400_0 hl400_0; replace p400 := eq_true p400; replace q400 := eq_true q400
     have p401 : 0 ≤ (0 : Int) := (by omega)
     have q401 : 0 < ((rd_L3 l0_2 x14_1).length : Int) := da
     obtain ⟨ad401, e401, hx401_0⟩ := Kd.at_int HR400_0.out 0 p401 q401
     cases e401
     have qi401 : (0 < (rd_L3 l0_2 x14_1).length) = True := eq_true (by omega)
     (try rw [show ((0 : Int)).toNat = 0 from rfl] at hx401_0)
     (try rw [Addr.add_zero'] at hx401_0)
     replace hx401_0 := (HB.out.cell (World.block_lt_of_cell? w _ hx401_0)).trans hx401_0
     replace p401 := eq_true p401; replace q401 := eq_true q401; go_wp2
     go_roundg k1
     case measure => have := HK1.out; omega
     case rel => exact ⟨(wrap64 (x14_1 + 1)), er, H', ⟨by have := HK1.out; omega⟩, ⟨blkd BK399⟩, ⟨belowg1 HB GE399⟩⟩
   ·rw [if_neg c7] at H
    have c7b0 : decide (x14_1 < (l0_2.length : Int)) = false := decide_eq_false c7
    clear c7
    obtain rfl := Option.some.inj H
    go_wp2
    go_ret
    exact ⟨er2, belowg1 HB GE399⟩

-- NOT PRINTED: function 121 (spec_l13Step)

end Go.Proofs.Ytkgogglnipdcfaa.QFnBoard
