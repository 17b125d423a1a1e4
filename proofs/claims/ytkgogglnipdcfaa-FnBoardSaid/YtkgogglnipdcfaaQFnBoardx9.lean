-- printed by this session's own program (wip/tools/pp.py: the kit's print.py with changes); Lean checks it
import Derived.Test.YtkgogglnipdcfaaQFnBoardx0
namespace Go.Proofs.Ytkgogglnipdcfaa.QFnBoard
open Go.RowKit Go.Proofs.YtkgogglnipdcfaaW.PrintWords Go.Proofs.YtkgogglnipdcfaaW.PrintLast Go.Proofs.YtkgogglnipdcfaaW.PrintMore
attribute [local go_sem] max2_int min2_int max_two min_two max_three min_three max_four min_four strLss strGtr strLeq strGeq   -- for this text's walks alone
set_option linter.unusedVariables false
set_option linter.unusedSimpArgs false

/-! ### spec_l13Own: function 122 -/
def spec_l13Own.l0 : Nat → List Int → List Int → List (List Int) → Int → Int → Int → Int → List (List Int) → Option (Int × Int × (List (List Int)) × List Int × List Int)
  | 0, _, _, _, _, _, _, _, _ => none
  | k + 1, x13, x17, x20, x21, x22, x437000, x437001, x437002 => if x22 < x21 then (if 0 ≤ x22 then (if x22 < (x20.length : Int) then ((some (([] : List Int) : List Int)).bind fun y438 => (if y438.length + (rd_L3 x20 x22).length < 17592186044416 then (if x437002.length < 5864062014805 then (spec_l13Own.l0 k x13 x17 x20 x21 (wrap64 (x22 + 1)) x437000 x437001 (x437002 ++ [(y438 ++ (rd_L3 x20 x22))])) else (none)) else (none))) else (none)) else (none)) else (some (x437000, x437001, x437002, x13, x17))
def spec_l13Own.f (k : Nat) (a0_0 : Int) (a0_1 : Int) (l0_2 : List (List Int)) (l0_3 : List Int) (l0_4 : List Int) : Option (Int × Int × (List (List Int)) × List Int × List Int) := (some (([] : List Int) : List Int)).bind fun y424 => (if y424.length + l0_3.length < 17592186044416 then ((some (([] : List Int) : List Int)).bind fun y430 => (if y430.length + l0_4.length < 17592186044416 then (spec_l13Own.l0 k (y424 ++ l0_3) (y430 ++ l0_4) l0_2 (l0_2.length : Int) 0 a0_0 a0_1 ([] : List (List Int))) else (none))) else (none))
theorem spec_l13Own.mono_l : ∀ k, (∀ y0 y1 y2 y3 y4 y5 y6 y7, LeO (spec_l13Own.l0 k y0 y1 y2 y3 y4 y5 y6 y7) (spec_l13Own.l0 (k + 1) y0 y1 y2 y3 y4 y5 y6 y7))
 | 0 => fun _ _ _ _ _ _ _ _ r h => by simp [spec_l13Own.l0] at h
 | k + 1 => by
  have ih0 := spec_l13Own.mono_l k
  ·intro y0 y1 y2 y3 y4 y5 y6 y7
   unfold spec_l13Own.l0
   repeat' (first | (with_reducible first | exact ih0 _ _ _ _ _ _ _ _ | exact LeO.refl _ | exact LeO.none _ | refine LeO.ite ?_ ?_ | refine LeO.bind ?_ (fun _ => ?_)) | exact ih0 _ _ _ _ _ _ _ _ | exact LeO.none _ | refine LeO.ite ?_ ?_ | refine LeO.bind ?_ (fun _ => ?_))
theorem spec_l13Own.mono : ∀ a0 a1 a2 a3 a4 k, LeO (spec_l13Own.f k a0 a1 a2 a3 a4) (spec_l13Own.f (k + 1) a0 a1 a2 a3 a4) := by
 intro a0 a1 a2 a3 a4 k
 have ih0 := spec_l13Own.mono_l k
 unfold spec_l13Own.f
 repeat' (first | (with_reducible first | exact ih0 _ _ _ _ _ _ _ _ | exact LeO.refl _ | exact LeO.none _ | refine LeO.ite ?_ ?_ | refine LeO.bind ?_ (fun _ => ?_)) | exact ih0 _ _ _ _ _ _ _ _ | exact LeO.none _ | refine LeO.ite ?_ ?_ | refine LeO.bind ?_ (fun _ => ?_))
def spec_l13Own.T1 : Bool × List (List Nat × List Nat) := (true, [([], []), ([0], [0]), ([], []), ([2], [2]), ([], []), ([], []), ([5], [5]), ([4, 6], [4, 6]), ([], []), ([], []), ([9], [9]), ([8, 10, 7], [8, 10]), ([1, 3, 7, 11], [1, 3, 7, 11]), ([], []), ([13, 12, 11, 0, 1, 2, 3, 4, 5, 6, 7, 8, 9, 10, 11, 12, 13], [12, 13])])
def spec_l13Own.B1 : List Nat := [0, 1, 0, 4, 0, 0, 32, 112, 0, 0, 512, 2032, 4095, 0, 16383]
theorem spec_l13Own.tab1 : rtab .any (opsOf Try.f122 1) = spec_l13Own.T1 := by kernel_rfl
theorem spec_l13Own.bits1 : waitsOk spec_l13Own.T1.2 spec_l13Own.B1 = true := by kernel_rfl
def spec_l13Own.T5 : Bool × List (List Nat × List Nat) := (true, [([], []), ([0], [0]), ([], []), ([], []), ([2, 3], [2, 3]), ([4], [4]), ([1, 5, 4], [1, 5]), ([0, 1, 2, 3, 4, 5, 6], []), ([7, 6, 6, 0, 1, 2, 3, 4, 5, 6], [6, 7])])
def spec_l13Own.B5 : List Nat := [0, 1, 0, 0, 12, 28, 63, 127, 255]
theorem spec_l13Own.tab5 : rtab .any (opsOf Try.f122 5) = spec_l13Own.T5 := by kernel_rfl
theorem spec_l13Own.bits5 : waitsOk spec_l13Own.T5.2 spec_l13Own.B5 = true := by kernel_rfl
set_option maxHeartbeats 8000000 in
set_option maxRecDepth 100000 in
theorem spec_l13Own.calls (k : Nat) (a0_0 : Int) (a0_1 : Int) (A0_2 : Option Addr) (c0_2 : Nat) (l0_2 : List (List Int)) (A0_3 : Option Addr) (c0_3 : Nat) (l0_3 : List Int) (A0_4 : Option Addr) (c0_4 : Nat) (l0_4 : List Int) (r1 : Int) (r2 : Int) (r3 : List (List Int)) (r4 : List Int) (r5 : List Int) (w : World) (hr0_2 : Kd.C (Kd.slice 3 (Kd.int .i64)) w A0_2 l0_2.length l0_2) (hc0_2 : l0_2.length ≤ c0_2) (hr0_3 : Kd.C (Kd.int .i64) w A0_3 l0_3.length l0_3) (hc0_3 : l0_3.length ≤ c0_3) (hr0_4 : Kd.C (Kd.int .i64) w A0_4 l0_4.length l0_4) (hc0_4 : l0_4.length ≤ c0_4) (h : spec_l13Own.f k a0_0 a0_1 l0_2 l0_3 l0_4 = some (r1, r2, r3, r4, r5)) :
  Calls Try.prog 122 #[.agg #[.int .i64 a0_0, .int .i64 a0_1, .slice A0_2 l0_2.length c0_2, .slice A0_3 l0_3.length c0_3, .slice A0_4 l0_4.length c0_4]] w fun e w' => ∃ v2_ v3_ v4_ : Value, e = .returned (.agg #[.int .i64 r1, .int .i64 r2, v2_, v3_, v4_]) ∧ Kd.S (Kd.slice 3 (Kd.int .i64)) 23 w' w.heap.size (fun k_ => some k_ ≠ (v3_ : Value).ownBlock ∧ some k_ ≠ (v4_ : Value).ownBlock) v2_ r3 ∧ Kd.R (Kd.int .i64) 3 w' w.heap.size (fun k_ => some k_ ≠ (v4_ : Value).ownBlock) v3_ r4 ∧ Kd.R (Kd.int .i64) 3 w' w.heap.size (fun k_ => some k_ ≠ (v3_ : Value).ownBlock) v4_ r5 ∧ Below w.heap.size w w' := by
 have hu47 := Try.underlying47
 have HR0_2 := Aside0.mk hr0_2; have HC0_2 := Aside0.mk hc0_2; clear hr0_2 hc0_2; have HR0_3 := Aside0.mk hr0_3; have HC0_3 := Aside0.mk hc0_3; clear hr0_3 hc0_3; have HR0_4 := Aside0.mk hr0_4; have HC0_4 := Aside0.mk hc0_4; clear hr0_4 hc0_4
 have HB := Aside0.mk (Below.refl w.heap.size w)
 have H : ((some (([] : List Int) : List Int)).bind fun y424 => (if y424.length + l0_3.length < 17592186044416 then ((some (([] : List Int) : List Int)).bind fun y430 => (if y430.length + l0_4.length < 17592186044416 then (spec_l13Own.l0 k (y424 ++ l0_3) (y430 ++ l0_4) l0_2 (l0_2.length : Int) 0 a0_0 a0_1 ([] : List (List Int))) else (none))) else (none))) = some (r1, r2, r3, r4, r5) := h
 clear h
 obtain ⟨y424, hy_⟩ : ∃ y_ : List Int, y_ = (([] : List Int)) := ⟨_, rfl⟩
 replace H : (if y424.length + l0_3.length < 17592186044416 then ((some (([] : List Int) : List Int)).bind fun y430 => (if y430.length + l0_4.length < 17592186044416 then (spec_l13Own.l0 k (y424 ++ l0_3) (y430 ++ l0_4) l0_2 (l0_2.length : Int) 0 a0_0 a0_1 ([] : List (List Int))) else (none))) else (none)) = some (r1, r2, r3, r4, r5) := yH
 have Ny424 := ak hy_; clear hy_; replace H := ifS H; obtain ⟨c2, H⟩ := H; have LMc2 := Aside0.mk c2; clear c2
 obtain ⟨y427, hy_⟩ : ∃ y_ : List Int, y_ = (y424 ++ l0_3) := ⟨_, rfl⟩
 replace H : ((some (([] : List Int) : List Int)).bind fun y430 => (if y430.length + l0_4.length < 17592186044416 then (spec_l13Own.l0 k y427 (y430 ++ l0_4) l0_2 (l0_2.length : Int) 0 a0_0 a0_1 ([] : List (List Int))) else (none))) = some (r1, r2, r3, r4, r5) := yH
 have Ny427 := ak hy_; clear hy_
 obtain ⟨y430, hy_⟩ : ∃ y_ : List Int, y_ = (([] : List Int)) := ⟨_, rfl⟩
 replace H : (if y430.length + l0_4.length < 17592186044416 then (spec_l13Own.l0 k y427 (y430 ++ l0_4) l0_2 (l0_2.length : Int) 0 a0_0 a0_1 ([] : List (List Int))) else (none)) = some (r1, r2, r3, r4, r5) := yH
 have Ny430 := ak hy_; clear hy_; replace H := ifS H; obtain ⟨c3, H⟩ := H; have LMc3 := Aside0.mk c3; clear c3
 obtain ⟨y433, hy_⟩ : ∃ y_ : List Int, y_ = (y430 ++ l0_4) := ⟨_, rfl⟩
 replace H : (spec_l13Own.l0 k y427 y433 l0_2 (l0_2.length : Int) 0 a0_0 a0_1 ([] : List (List Int))) = some (r1, r2, r3, r4, r5) := yH
 have Ny433 := ak hy_; clear hy_
 have H' := Aside0.mk H
 clear H
 go_enter Try.func122, Try.ntmps122
 try go_wp2_with (first | ((with_reducible refine gate_dst (N := 1) rfl ?_); refine boxev 1 #[.int .i64 a0_0, .int .i64 a0_1, .slice A0_2 l0_2.length c0_2, .slice A0_3 l0_3.length c0_3, .slice A0_4 l0_4.length c0_4] 47 ?_; intro gb422 hg w4 hbox hb; have BK422 := ak (hbox); have GW422 := ak (hgl hg (belowd HB)); have GE422 := ak (hgl hg (belowd HB)); replace HB := ak (below_step (belowd HB) hb); clear hb hbox hg) | ((with_reducible refine gate_dst (N := 2) rfl ?_); refine boxev 2 #[.int .i64 0, .int .i64 0, .slice none 0 0, .slice none 0 0, .slice none 0 0] 47 ?_; intro gb423 hg w5 hbox hb; have BK423 := ak (hbox); have GW423 := ak (hgl hg (belowg1 HB GE422)); have GE423 := ak (hgl hg (belowg1 HB GE422)); replace HB := ak (below_step (belowg1 HB GE422) hb); have NB422_423 := ak ((by rw [hg]; exact Nat.ne_of_lt (blk_lt (blkd BK422)) : gb422 ≠ gb423)); have NB423_422 := ak ((by rw [hg]; exact Nat.ne_of_gt (blk_lt (blkd BK422)) : gb423 ≠ gb422)); replace BK422 := ak (blk_below (blkd BK422) hb); clear hb hbox hg))
 replace BK422 := ak (blk_drew BK422.out)
 replace BK423 := ak (blk_drew BK423.out)
 replace HB := ak (below_drew1 HB.out)
 refine start_ (n := 15) (S := fun w' => w'.cell? ⟨gb422, 0, none⟩ = some (.int .i64 a0_0) ∧ w'.cell? ⟨gb422, 1, none⟩ = some (.int .i64 a0_1) ∧ w'.cell? ⟨gb422, 2, none⟩ = some (.slice A0_2 l0_2.length c0_2) ∧ w'.cell? ⟨gb422, 3, none⟩ = some (.slice A0_3 l0_3.length c0_3) ∧ w'.cell? ⟨gb422, 4, none⟩ = some (.slice A0_4 l0_4.length c0_4)) (ds := []) (bl 15 0) (by kernel_rfl) rfl rfl ⟨bq BK422 0, bq BK422 1, bq BK422 2, bq BK422 3, bq BK422 4⟩ (fun hHeld => ?_); refine with_tabW spec_l13Own.tab1 spec_l13Own.bits1 (fun HT_ HW_ => ?_)
 generalize w5.drew = w6 at BK422 BK423 HB hHeld ⊢
 refine pureA 0 (some 6) 15 1 HT_ ?_
 refine pureA 2 (some 8) 15 5 HT_ ?_
 refine pureA 5 (some 11) 15 37 HT_ ?_
 refine pureA 9 (some 15) 15 549 HT_ ?_
 refine takeA 1 (some 7) 15 551 HT_ HW_ hHeld ?_ (hy := by rintro w' ⟨s0, s1, s2, s3, s4⟩; go_simp; with_reducible rfl)
 refine takeA 3 (some 9) 15 559 HT_ HW_ hHeld ?_ (hy := by rintro w' ⟨s0, s1, s2, s3, s4⟩; go_simp; with_reducible rfl)
 refine takeA 6 (some 12) 15 623 HT_ HW_ hHeld ?_ (hy := by rintro w' ⟨s0, s1, s2, s3, s4⟩; go_simp; with_reducible rfl)
 refine takeA 10 (some 16) 15 1647 HT_ HW_ hHeld ?_ (hy := by rintro w' ⟨s0, s1, s2, s3, s4⟩; go_simp; with_reducible rfl)
 refine join_ (σ := Value × Value × Value × Value × Nat) 1 (bl 15 16383) (fun s_ => [(10, s_.1), (13, s_.2.1), (14, s_.2.2.1), (17, s_.2.2.2.1), (3, .pointer (some ⟨s_.2.2.2.2, 0, none⟩)), (18, .agg #[.int .i64 a0_0, .int .i64 a0_1, .slice none 0 0, s_.2.1, s_.2.2.2.1])]) (fun s_ w' => (w'.cell? ⟨gb422, 0, none⟩ = some (.int .i64 a0_0) ∧ w'.cell? ⟨gb422, 1, none⟩ = some (.int .i64 a0_1) ∧ w'.cell? ⟨gb422, 2, none⟩ = some (.slice A0_2 l0_2.length c0_2) ∧ w'.cell? ⟨gb422, 3, none⟩ = some (.slice A0_3 l0_3.length c0_3) ∧ w'.cell? ⟨gb422, 4, none⟩ = some (.slice A0_4 l0_4.length c0_4)) ∧ (Kd.R (Kd.int .i64) 3 w' w.heap.size (fun k_ => some k_ ≠ (s_.2.2.2.1 : Value).ownBlock) s_.2.1 y427) ∧ (Kd.R (Kd.int .i64) 3 w' w.heap.size (fun k_ => some k_ ≠ (s_.2.1 : Value).ownBlock) s_.2.2.2.1 y433) ∧ (w'.heap[gb422]? = some (.cells #[.int .i64 a0_0, .int .i64 a0_1, .slice A0_2 l0_2.length c0_2, .slice A0_3 l0_3.length c0_3, .slice A0_4 l0_4.length c0_4] 47 (0, 0))) ∧ (w'.heap[gb423]? = some (.cells #[.int .i64 0, .int .i64 0, .slice none 0 0, .slice none 0 0, .slice none 0 0] 47 (0, 0))) ∧ (w'.heap[s_.2.2.2.2]? = some (.cells #[.int .i64 0, .int .i64 0, .slice none 0 0, .slice none 0 0, .slice none 0 0] 47 (0, 0))) ∧ (w.heap.size ≤ s_.2.2.2.2) ∧ (w.heap.size ≤ s_.2.2.2.2) ∧ (gb422 ≠ s_.2.2.2.2) ∧ (s_.2.2.2.2 ≠ gb422) ∧ (gb423 ≠ s_.2.2.2.2) ∧ (s_.2.2.2.2 ≠ gb423) ∧ (Below w.heap.size w w')) ?_ ?_
 rotate_left
 ·intro hJ4_7_8_11_13
  refine join_ (σ := Value × Value × Value × Value) 2 (bl 15 8191) (fun s_ => [(10, s_.1), (13, s_.2.1), (14, s_.2.2.1), (17, s_.2.2.2), (18, .agg #[.int .i64 a0_0, .int .i64 a0_1, .slice none 0 0, s_.2.1, s_.2.2.2])]) (fun s_ w' => (w'.cell? ⟨gb422, 0, none⟩ = some (.int .i64 a0_0) ∧ w'.cell? ⟨gb422, 1, none⟩ = some (.int .i64 a0_1) ∧ w'.cell? ⟨gb422, 2, none⟩ = some (.slice A0_2 l0_2.length c0_2) ∧ w'.cell? ⟨gb422, 3, none⟩ = some (.slice A0_3 l0_3.length c0_3) ∧ w'.cell? ⟨gb422, 4, none⟩ = some (.slice A0_4 l0_4.length c0_4)) ∧ (Kd.R (Kd.int .i64) 3 w' w.heap.size (fun k_ => some k_ ≠ (s_.2.2.2 : Value).ownBlock) s_.2.1 y427) ∧ (Kd.R (Kd.int .i64) 3 w' w.heap.size (fun k_ => some k_ ≠ (s_.2.1 : Value).ownBlock) s_.2.2.2 y433) ∧ (w'.heap[gb422]? = some (.cells #[.int .i64 a0_0, .int .i64 a0_1, .slice A0_2 l0_2.length c0_2, .slice A0_3 l0_3.length c0_3, .slice A0_4 l0_4.length c0_4] 47 (0, 0))) ∧ (w'.heap[gb423]? = some (.cells #[.int .i64 0, .int .i64 0, .slice none 0 0, .slice none 0 0, .slice none 0 0] 47 (0, 0))) ∧ (Below w.heap.size w w')) ?_ ?_
  rotate_left
  ·intro hJ4_7_8_11
   refine join_ (σ := Value × Value × Value × Nat) 3 (bl 15 10239) (fun s_ => [(10, s_.1), (13, s_.2.1), (14, s_.2.2.1), (3, .pointer (some ⟨s_.2.2.2, 0, none⟩))]) (fun s_ w' => (w'.cell? ⟨gb422, 0, none⟩ = some (.int .i64 a0_0) ∧ w'.cell? ⟨gb422, 1, none⟩ = some (.int .i64 a0_1) ∧ w'.cell? ⟨gb422, 2, none⟩ = some (.slice A0_2 l0_2.length c0_2) ∧ w'.cell? ⟨gb422, 3, none⟩ = some (.slice A0_3 l0_3.length c0_3) ∧ w'.cell? ⟨gb422, 4, none⟩ = some (.slice A0_4 l0_4.length c0_4)) ∧ (Kd.R (Kd.int .i64) 3 w' w.heap.size (fun k_ => some k_ ≠ (s_.2.2.1 : Value).ownBlock) s_.2.1 y427) ∧ (Kd.R (Kd.int .i64) 3 w' w.heap.size (fun k_ => some k_ ≠ (s_.2.1 : Value).ownBlock) s_.2.2.1 y430) ∧ (w'.heap[gb422]? = some (.cells #[.int .i64 a0_0, .int .i64 a0_1, .slice A0_2 l0_2.length c0_2, .slice A0_3 l0_3.length c0_3, .slice A0_4 l0_4.length c0_4] 47 (0, 0))) ∧ (w'.heap[gb423]? = some (.cells #[.int .i64 0, .int .i64 0, .slice none 0 0, .slice none 0 0, .slice none 0 0] 47 (0, 0))) ∧ (w'.heap[s_.2.2.2]? = some (.cells #[.int .i64 0, .int .i64 0, .slice none 0 0, .slice none 0 0, .slice none 0 0] 47 (0, 0))) ∧ (w.heap.size ≤ s_.2.2.2) ∧ (w.heap.size ≤ s_.2.2.2) ∧ (gb422 ≠ s_.2.2.2) ∧ (s_.2.2.2 ≠ gb422) ∧ (gb423 ≠ s_.2.2.2) ∧ (s_.2.2.2 ≠ gb423) ∧ (Below w.heap.size w w')) ?_ ?_
   rotate_left
   ·intro hJ4_7_8_13
    refine join_ (σ := Value × Value × Value) 4 (bl 15 2047) (fun s_ => [(10, s_.1), (13, s_.2.1), (14, s_.2.2)]) (fun s_ w' => (w'.cell? ⟨gb422, 0, none⟩ = some (.int .i64 a0_0) ∧ w'.cell? ⟨gb422, 1, none⟩ = some (.int .i64 a0_1) ∧ w'.cell? ⟨gb422, 2, none⟩ = some (.slice A0_2 l0_2.length c0_2) ∧ w'.cell? ⟨gb422, 3, none⟩ = some (.slice A0_3 l0_3.length c0_3) ∧ w'.cell? ⟨gb422, 4, none⟩ = some (.slice A0_4 l0_4.length c0_4)) ∧ (Kd.R (Kd.int .i64) 3 w' w.heap.size (fun k_ => some k_ ≠ (s_.2.2 : Value).ownBlock) s_.2.1 y427) ∧ (Kd.R (Kd.int .i64) 3 w' w.heap.size (fun k_ => some k_ ≠ (s_.2.1 : Value).ownBlock) s_.2.2 y430) ∧ (w'.heap[gb422]? = some (.cells #[.int .i64 a0_0, .int .i64 a0_1, .slice A0_2 l0_2.length c0_2, .slice A0_3 l0_3.length c0_3, .slice A0_4 l0_4.length c0_4] 47 (0, 0))) ∧ (w'.heap[gb423]? = some (.cells #[.int .i64 0, .int .i64 0, .slice none 0 0, .slice none 0 0, .slice none 0 0] 47 (0, 0))) ∧ (Below w.heap.size w w')) ?_ ?_
    rotate_left
    ·intro hJ4_7_8
     refine join_ (σ := Value × Value × Nat) 4 (bl 15 9983) (fun s_ => [(10, s_.1), (13, s_.2.1), (3, .pointer (some ⟨s_.2.2, 0, none⟩))]) (fun s_ w' => (w'.cell? ⟨gb422, 0, none⟩ = some (.int .i64 a0_0) ∧ w'.cell? ⟨gb422, 1, none⟩ = some (.int .i64 a0_1) ∧ w'.cell? ⟨gb422, 2, none⟩ = some (.slice A0_2 l0_2.length c0_2) ∧ w'.cell? ⟨gb422, 3, none⟩ = some (.slice A0_3 l0_3.length c0_3) ∧ w'.cell? ⟨gb422, 4, none⟩ = some (.slice A0_4 l0_4.length c0_4)) ∧ (Kd.R (Kd.int .i64) 3 w' w.heap.size (fun _ => True) s_.2.1 y427) ∧ (w'.heap[gb422]? = some (.cells #[.int .i64 a0_0, .int .i64 a0_1, .slice A0_2 l0_2.length c0_2, .slice A0_3 l0_3.length c0_3, .slice A0_4 l0_4.length c0_4] 47 (0, 0))) ∧ (w'.heap[gb423]? = some (.cells #[.int .i64 0, .int .i64 0, .slice none 0 0, .slice none 0 0, .slice none 0 0] 47 (0, 0))) ∧ (w'.heap[s_.2.2]? = some (.cells #[.int .i64 0, .int .i64 0, .slice none 0 0, .slice none 0 0, .slice none 0 0] 47 (0, 0))) ∧ (w.heap.size ≤ s_.2.2) ∧ (w.heap.size ≤ s_.2.2) ∧ (gb422 ≠ s_.2.2) ∧ (s_.2.2 ≠ gb422) ∧ (gb423 ≠ s_.2.2) ∧ (s_.2.2 ≠ gb423) ∧ (Below w.heap.size w w')) ?_ ?_
     rotate_left
     ·intro hJ4_7_13
      refine join_ (σ := Value × Value × Nat) 4 (bl 15 10111) (fun s_ => [(10, s_.1), (14, s_.2.1), (3, .pointer (some ⟨s_.2.2, 0, none⟩))]) (fun s_ w' => (w'.cell? ⟨gb422, 0, none⟩ = some (.int .i64 a0_0) ∧ w'.cell? ⟨gb422, 1, none⟩ = some (.int .i64 a0_1) ∧ w'.cell? ⟨gb422, 2, none⟩ = some (.slice A0_2 l0_2.length c0_2) ∧ w'.cell? ⟨gb422, 3, none⟩ = some (.slice A0_3 l0_3.length c0_3) ∧ w'.cell? ⟨gb422, 4, none⟩ = some (.slice A0_4 l0_4.length c0_4)) ∧ (Kd.R (Kd.int .i64) 3 w' w.heap.size (fun k_ => some k_ ≠ (s_.2.1 : Value).ownBlock) s_.1 y424) ∧ (Kd.R (Kd.int .i64) 3 w' w.heap.size (fun k_ => some k_ ≠ (s_.1 : Value).ownBlock) s_.2.1 y430) ∧ (w'.heap[gb422]? = some (.cells #[.int .i64 a0_0, .int .i64 a0_1, .slice A0_2 l0_2.length c0_2, .slice A0_3 l0_3.length c0_3, .slice A0_4 l0_4.length c0_4] 47 (0, 0))) ∧ (w'.heap[gb423]? = some (.cells #[.int .i64 0, .int .i64 0, .slice none 0 0, .slice none 0 0, .slice none 0 0] 47 (0, 0))) ∧ (w'.heap[s_.2.2]? = some (.cells #[.int .i64 0, .int .i64 0, .slice none 0 0, .slice none 0 0, .slice none 0 0] 47 (0, 0))) ∧ (w.heap.size ≤ s_.2.2) ∧ (w.heap.size ≤ s_.2.2) ∧ (gb422 ≠ s_.2.2) ∧ (s_.2.2 ≠ gb422) ∧ (gb423 ≠ s_.2.2) ∧ (s_.2.2 ≠ gb423) ∧ (Below w.heap.size w w')) ?_ ?_
      rotate_left
      ·intro hJ4_8_13
       refine join_ (σ := Value × Value) 5 (bl 15 1791) (fun s_ => [(10, s_.1), (13, s_.2)]) (fun s_ w' => (w'.cell? ⟨gb422, 0, none⟩ = some (.int .i64 a0_0) ∧ w'.cell? ⟨gb422, 1, none⟩ = some (.int .i64 a0_1) ∧ w'.cell? ⟨gb422, 2, none⟩ = some (.slice A0_2 l0_2.length c0_2) ∧ w'.cell? ⟨gb422, 3, none⟩ = some (.slice A0_3 l0_3.length c0_3) ∧ w'.cell? ⟨gb422, 4, none⟩ = some (.slice A0_4 l0_4.length c0_4)) ∧ (Kd.R (Kd.int .i64) 3 w' w.heap.size (fun _ => True) s_.2 y427) ∧ (w'.heap[gb422]? = some (.cells #[.int .i64 a0_0, .int .i64 a0_1, .slice A0_2 l0_2.length c0_2, .slice A0_3 l0_3.length c0_3, .slice A0_4 l0_4.length c0_4] 47 (0, 0))) ∧ (w'.heap[gb423]? = some (.cells #[.int .i64 0, .int .i64 0, .slice none 0 0, .slice none 0 0, .slice none 0 0] 47 (0, 0))) ∧ (Below w.heap.size w w')) ?_ ?_
       rotate_left
       ·intro hJ4_7
        refine join_ (σ := Value × Value) 5 (bl 15 1919) (fun s_ => [(10, s_.1), (14, s_.2)]) (fun s_ w' => (w'.cell? ⟨gb422, 0, none⟩ = some (.int .i64 a0_0) ∧ w'.cell? ⟨gb422, 1, none⟩ = some (.int .i64 a0_1) ∧ w'.cell? ⟨gb422, 2, none⟩ = some (.slice A0_2 l0_2.length c0_2) ∧ w'.cell? ⟨gb422, 3, none⟩ = some (.slice A0_3 l0_3.length c0_3) ∧ w'.cell? ⟨gb422, 4, none⟩ = some (.slice A0_4 l0_4.length c0_4)) ∧ (Kd.R (Kd.int .i64) 3 w' w.heap.size (fun k_ => some k_ ≠ (s_.2 : Value).ownBlock) s_.1 y424) ∧ (Kd.R (Kd.int .i64) 3 w' w.heap.size (fun k_ => some k_ ≠ (s_.1 : Value).ownBlock) s_.2 y430) ∧ (w'.heap[gb422]? = some (.cells #[.int .i64 a0_0, .int .i64 a0_1, .slice A0_2 l0_2.length c0_2, .slice A0_3 l0_3.length c0_3, .slice A0_4 l0_4.length c0_4] 47 (0, 0))) ∧ (w'.heap[gb423]? = some (.cells #[.int .i64 0, .int .i64 0, .slice none 0 0, .slice none 0 0, .slice none 0 0] 47 (0, 0))) ∧ (Below w.heap.size w w')) ?_ ?_
        rotate_left
        ·intro hJ4_8
         refine join_ (σ := Value × Nat) 5 (bl 15 9855) (fun s_ => [(10, s_.1), (3, .pointer (some ⟨s_.2, 0, none⟩))]) (fun s_ w' => (w'.cell? ⟨gb422, 0, none⟩ = some (.int .i64 a0_0) ∧ w'.cell? ⟨gb422, 1, none⟩ = some (.int .i64 a0_1) ∧ w'.cell? ⟨gb422, 2, none⟩ = some (.slice A0_2 l0_2.length c0_2) ∧ w'.cell? ⟨gb422, 3, none⟩ = some (.slice A0_3 l0_3.length c0_3) ∧ w'.cell? ⟨gb422, 4, none⟩ = some (.slice A0_4 l0_4.length c0_4)) ∧ (Kd.R (Kd.int .i64) 3 w' w.heap.size (fun _ => True) s_.1 y424) ∧ (w'.heap[gb422]? = some (.cells #[.int .i64 a0_0, .int .i64 a0_1, .slice A0_2 l0_2.length c0_2, .slice A0_3 l0_3.length c0_3, .slice A0_4 l0_4.length c0_4] 47 (0, 0))) ∧ (w'.heap[gb423]? = some (.cells #[.int .i64 0, .int .i64 0, .slice none 0 0, .slice none 0 0, .slice none 0 0] 47 (0, 0))) ∧ (w'.heap[s_.2]? = some (.cells #[.int .i64 0, .int .i64 0, .slice none 0 0, .slice none 0 0, .slice none 0 0] 47 (0, 0))) ∧ (w.heap.size ≤ s_.2) ∧ (w.heap.size ≤ s_.2) ∧ (gb422 ≠ s_.2) ∧ (s_.2 ≠ gb422) ∧ (gb423 ≠ s_.2) ∧ (s_.2 ≠ gb423) ∧ (Below w.heap.size w w')) ?_ ?_
         rotate_left
         ·intro hJ4_13
          refine join_ (σ := Value × Nat) 5 (bl 15 10095) (fun s_ => [(14, s_.1), (3, .pointer (some ⟨s_.2, 0, none⟩))]) (fun s_ w' => (w'.cell? ⟨gb422, 0, none⟩ = some (.int .i64 a0_0) ∧ w'.cell? ⟨gb422, 1, none⟩ = some (.int .i64 a0_1) ∧ w'.cell? ⟨gb422, 2, none⟩ = some (.slice A0_2 l0_2.length c0_2) ∧ w'.cell? ⟨gb422, 3, none⟩ = some (.slice A0_3 l0_3.length c0_3) ∧ w'.cell? ⟨gb422, 4, none⟩ = some (.slice A0_4 l0_4.length c0_4)) ∧ (Kd.R (Kd.int .i64) 3 w' w.heap.size (fun _ => True) s_.1 y430) ∧ (w'.heap[gb422]? = some (.cells #[.int .i64 a0_0, .int .i64 a0_1, .slice A0_2 l0_2.length c0_2, .slice A0_3 l0_3.length c0_3, .slice A0_4 l0_4.length c0_4] 47 (0, 0))) ∧ (w'.heap[gb423]? = some (.cells #[.int .i64 0, .int .i64 0, .slice none 0 0, .slice none 0 0, .slice none 0 0] 47 (0, 0))) ∧ (w'.heap[s_.2]? = some (.cells #[.int .i64 0, .int .i64 0, .slice none 0 0, .slice none 0 0, .slice none 0 0] 47 (0, 0))) ∧ (w.heap.size ≤ s_.2) ∧ (w.heap.size ≤ s_.2) ∧ (gb422 ≠ s_.2) ∧ (s_.2 ≠ gb422) ∧ (gb423 ≠ s_.2) ∧ (s_.2 ≠ gb423) ∧ (Below w.heap.size w w')) ?_ ?_
          rotate_left
          ·intro hJ8_13
           refine join_ (σ := Value) 6 (bl 15 1663) (fun s_ => [(10, s_)]) (fun s_ w' => (w'.cell? ⟨gb422, 0, none⟩ = some (.int .i64 a0_0) ∧ w'.cell? ⟨gb422, 1, none⟩ = some (.int .i64 a0_1) ∧ w'.cell? ⟨gb422, 2, none⟩ = some (.slice A0_2 l0_2.length c0_2) ∧ w'.cell? ⟨gb422, 3, none⟩ = some (.slice A0_3 l0_3.length c0_3) ∧ w'.cell? ⟨gb422, 4, none⟩ = some (.slice A0_4 l0_4.length c0_4)) ∧ (Kd.R (Kd.int .i64) 3 w' w.heap.size (fun _ => True) s_ y424) ∧ (w'.heap[gb422]? = some (.cells #[.int .i64 a0_0, .int .i64 a0_1, .slice A0_2 l0_2.length c0_2, .slice A0_3 l0_3.length c0_3, .slice A0_4 l0_4.length c0_4] 47 (0, 0))) ∧ (w'.heap[gb423]? = some (.cells #[.int .i64 0, .int .i64 0, .slice none 0 0, .slice none 0 0, .slice none 0 0] 47 (0, 0))) ∧ (Below w.heap.size w w')) ?_ ?_
           rotate_left
           ·intro hJ4
            refine join_ (σ := Value) 6 (bl 15 1903) (fun s_ => [(14, s_)]) (fun s_ w' => (w'.cell? ⟨gb422, 0, none⟩ = some (.int .i64 a0_0) ∧ w'.cell? ⟨gb422, 1, none⟩ = some (.int .i64 a0_1) ∧ w'.cell? ⟨gb422, 2, none⟩ = some (.slice A0_2 l0_2.length c0_2) ∧ w'.cell? ⟨gb422, 3, none⟩ = some (.slice A0_3 l0_3.length c0_3) ∧ w'.cell? ⟨gb422, 4, none⟩ = some (.slice A0_4 l0_4.length c0_4)) ∧ (Kd.R (Kd.int .i64) 3 w' w.heap.size (fun _ => True) s_ y430) ∧ (w'.heap[gb422]? = some (.cells #[.int .i64 a0_0, .int .i64 a0_1, .slice A0_2 l0_2.length c0_2, .slice A0_3 l0_3.length c0_3, .slice A0_4 l0_4.length c0_4] 47 (0, 0))) ∧ (w'.heap[gb423]? = some (.cells #[.int .i64 0, .int .i64 0, .slice none 0 0, .slice none 0 0, .slice none 0 0] 47 (0, 0))) ∧ (Below w.heap.size w w')) ?_ ?_
            rotate_left
            ·intro hJ8
             refine join_ (σ := Nat) 6 (bl 15 9839) (fun s_ => [(3, .pointer (some ⟨s_, 0, none⟩))]) (fun s_ w' => (w'.cell? ⟨gb422, 0, none⟩ = some (.int .i64 a0_0) ∧ w'.cell? ⟨gb422, 1, none⟩ = some (.int .i64 a0_1) ∧ w'.cell? ⟨gb422, 2, none⟩ = some (.slice A0_2 l0_2.length c0_2) ∧ w'.cell? ⟨gb422, 3, none⟩ = some (.slice A0_3 l0_3.length c0_3) ∧ w'.cell? ⟨gb422, 4, none⟩ = some (.slice A0_4 l0_4.length c0_4)) ∧ (w'.heap[gb422]? = some (.cells #[.int .i64 a0_0, .int .i64 a0_1, .slice A0_2 l0_2.length c0_2, .slice A0_3 l0_3.length c0_3, .slice A0_4 l0_4.length c0_4] 47 (0, 0))) ∧ (w'.heap[gb423]? = some (.cells #[.int .i64 0, .int .i64 0, .slice none 0 0, .slice none 0 0, .slice none 0 0] 47 (0, 0))) ∧ (w'.heap[s_]? = some (.cells #[.int .i64 0, .int .i64 0, .slice none 0 0, .slice none 0 0, .slice none 0 0] 47 (0, 0))) ∧ (w.heap.size ≤ s_) ∧ (w.heap.size ≤ s_) ∧ (gb422 ≠ s_) ∧ (s_ ≠ gb422) ∧ (gb423 ≠ s_) ∧ (s_ ≠ gb423) ∧ (Below w.heap.size w w')) ?_ ?_
             rotate_left
             ·intro hJ13
              refine three_ (i := 4) (j := 8) (k := 13) (Ni := some 10) (Nj := some 14) (Nk := some 3) (bl 15 1663) (bl 15 1903) (bl 15 9839) rfl rfl rfl rfl rfl rfl (three_of HT_.out (by kernel_rfl)) (by decide) (by decide) (by decide) (fun K hK => ?_) (fun K hK => ?_) (fun K hK => ?_)
              ·skip
               refine Kd.R_lit_step (Kd.int .i64) _ 3 ?hg (N := 10) ?hd (xs := ([] : List Int)) (inner := []) (ok := fun _ => True) (okp := fun _ => True) ?hr ?hp (fun _ hk => hk) trivial (Below.refl _ _) (Nat.le_refl _) (by simp) ?_; (case hd => rfl); (case hg => rfl); (case hr => first | (go_simp; done) | (go_simp; rfl)); (case hp => exact (Reps.none _ _))
               intro v425 w7 ho8 hb hg_ hnew_
               clear hg_ hnew_
               (first | rw [← Ny424.out] at ho8 | (simp only [Int.reduceToNat] at ho8; rw [← Ny424.out] at ho8))
               have HO426 := ak (Kd.R_lower ho8 (below_size (belowg2 HB GE422 GE423)))
               replace BK422 := ak (blk_below (blkd BK422) hb)
               replace BK423 := ak (blk_below (blkd BK423) hb)
               replace HB := ak (below_step (belowg2 HB GE422 GE423) hb)
               clear hb ho8
               refine hK.out _ _ ⟨bq BK422 0, bq BK422 1, bq BK422 2, bq BK422 3, bq BK422 4⟩ (fun hHeld => ?_)
               clear hK K
               refine norm_ (a' := ?_) ?_ ?_
               rotate_left
               ·show Act.put _ (some 10) _ = _
                simp only [Act.put, List.setIfInBounds_toArray, List.set_cons_zero, List.set_cons_succ, i64_w, i32_w]
                rfl
               exact norm_ (by first | (simp only [putAll, Act.put, List.setIfInBounds_toArray, List.set_cons_zero, List.set_cons_succ]; done) | (simp only [putAll, Act.put, List.setIfInBounds_toArray, List.set_cons_zero, List.set_cons_succ]; rfl)) (hJ4 (v425) _ ⟨hHeld, (rdl HO426), (blkd BK422), (blkd BK423), (belowg2 HB GE422 GE423)⟩)
              ·skip
               refine Kd.R_lit_step (Kd.int .i64) _ 3 ?hg (N := 14) ?hd (xs := ([] : List Int)) (inner := []) (ok := fun _ => True) (okp := fun _ => True) ?hr ?hp (fun _ hk => hk) trivial (Below.refl _ _) (Nat.le_refl _) (by simp) ?_; (case hd => rfl); (case hg => rfl); (case hr => first | (go_simp; done) | (go_simp; rfl)); (case hp => exact (Reps.none _ _))
               intro v431 w7 ho8 hb hg_ hnew_
               clear hg_ hnew_
               (first | rw [← Ny430.out] at ho8 | (simp only [Int.reduceToNat] at ho8; rw [← Ny430.out] at ho8))
               have HO432 := ak (Kd.R_lower ho8 (below_size (belowg2 HB GE422 GE423)))
               replace BK422 := ak (blk_below (blkd BK422) hb)
               replace BK423 := ak (blk_below (blkd BK423) hb)
               replace HB := ak (below_step (belowg2 HB GE422 GE423) hb)
               clear hb ho8
               refine hK.out _ _ ⟨bq BK422 0, bq BK422 1, bq BK422 2, bq BK422 3, bq BK422 4⟩ (fun hHeld => ?_)
               clear hK K
               refine norm_ (a' := ?_) ?_ ?_
               rotate_left
               ·show Act.put _ (some 14) _ = _
                simp only [Act.put, List.setIfInBounds_toArray, List.set_cons_zero, List.set_cons_succ, i64_w, i32_w]
                rfl
               exact norm_ (by first | (simp only [putAll, Act.put, List.setIfInBounds_toArray, List.set_cons_zero, List.set_cons_succ]; done) | (simp only [putAll, Act.put, List.setIfInBounds_toArray, List.set_cons_zero, List.set_cons_succ]; rfl)) (hJ8 (v431) _ ⟨hHeld, (rdl HO432), (blkd BK422), (blkd BK423), (belowg2 HB GE422 GE423)⟩)
              ·skip
               refine box_step ?hg (N := 3) ?hd (cs := #[.int .i64 0, .int .i64 0, .slice none 0 0, .slice none 0 0, .slice none 0 0]) (t := 47) ?hr ?_; (case hd => rfl); (case hg => rfl); (case hr => first | (go_simp; done) | (go_simp; rfl))
               intro gb436 hg w7 hbox hb
               have BK436 := ak (hbox)
               have GW436 := ak (hgl hg (belowg2 HB GE422 GE423))
               have GE436 := ak (hgl hg (belowg2 HB GE422 GE423))
               replace HB := ak (below_step (belowg2 HB GE422 GE423) hb)
               have NB422_436 := ak ((by rw [hg]; exact Nat.ne_of_lt (blk_lt (blkd BK422)) : gb422 ≠ gb436))
               have NB436_422 := ak ((by rw [hg]; exact Nat.ne_of_gt (blk_lt (blkd BK422)) : gb436 ≠ gb422))
               replace BK422 := ak (blk_below (blkd BK422) hb)
               have NB423_436 := ak ((by rw [hg]; exact Nat.ne_of_lt (blk_lt (blkd BK423)) : gb423 ≠ gb436))
               have NB436_423 := ak ((by rw [hg]; exact Nat.ne_of_gt (blk_lt (blkd BK423)) : gb436 ≠ gb423))
               replace BK423 := ak (blk_below (blkd BK423) hb)
               clear hb hbox hg
               refine hK.out _ _ ⟨bq BK422 0, bq BK422 1, bq BK422 2, bq BK422 3, bq BK422 4⟩ (fun hHeld => ?_)
               clear hK K
               refine norm_ (a' := ?_) ?_ ?_
               rotate_left
               ·show Act.put _ (some 3) _ = _
                simp only [Act.put, List.setIfInBounds_toArray, List.set_cons_zero, List.set_cons_succ, i64_w, i32_w]
                rfl
               exact norm_ (by first | (simp only [putAll, Act.put, List.setIfInBounds_toArray, List.set_cons_zero, List.set_cons_succ]; done) | (simp only [putAll, Act.put, List.setIfInBounds_toArray, List.set_cons_zero, List.set_cons_succ]; rfl)) (hJ13 (gb436) _ ⟨hHeld, (blkd BK422), (blkd BK423), (blkd BK436), GW436.out, GE436.out, NB422_436.out, NB436_422.out, NB423_436.out, NB436_423.out, (belowg3 HB GE422 GE423 GE436)⟩)
             ·skip
              rintro gb436 w8 ⟨hS_, h0_, h1_, h2_, h3_, h4_, h5_, h6_, h7_, h8_, h9_⟩
              have n0_ : Aside0 (w8.heap[gb422]? = some (.cells #[.int .i64 a0_0, .int .i64 a0_1, .slice A0_2 l0_2.length c0_2, .slice A0_3 l0_3.length c0_3, .slice A0_4 l0_4.length c0_4] 47 (0, 0))) := ⟨h0_⟩
              have n1_ : Aside0 (w8.heap[gb423]? = some (.cells #[.int .i64 0, .int .i64 0, .slice none 0 0, .slice none 0 0, .slice none 0 0] 47 (0, 0))) := ⟨h1_⟩
              have n2_ : Aside0 (w8.heap[gb436]? = some (.cells #[.int .i64 0, .int .i64 0, .slice none 0 0, .slice none 0 0, .slice none 0 0] 47 (0, 0))) := ⟨h2_⟩
              have n3_ : Aside0 (w.heap.size ≤ gb436) := ⟨h3_⟩
              have n4_ : Aside0 (w.heap.size ≤ gb436) := ⟨h4_⟩
              have n5_ : Aside0 (gb422 ≠ gb436) := ⟨h5_⟩
              have n6_ : Aside0 (gb436 ≠ gb422) := ⟨h6_⟩
              have n7_ : Aside0 (gb423 ≠ gb436) := ⟨h7_⟩
              have n8_ : Aside0 (gb436 ≠ gb423) := ⟨h8_⟩
              have n9_ : Aside0 (Below w.heap.size w w8) := ⟨h9_⟩
              clear BK422; clear BK423; clear HB; clear h0_ h1_ h2_ h3_ h4_ h5_ h6_ h7_ h8_ h9_
              have BK422 := n0_
              have BK423 := n1_
              have BK436 := n2_
              have GW436 := n3_
              have GE436 := n4_
              have NB422_436 := n5_
              have NB436_422 := n6_
              have NB423_436 := n7_
              have NB436_423 := n8_
              have HB := n9_
              clear n0_ n1_ n2_ n3_ n4_ n5_ n6_ n7_ n8_ n9_
              have hHeld : w8.cell? ⟨gb422, 0, none⟩ = some (.int .i64 a0_0) ∧ w8.cell? ⟨gb422, 1, none⟩ = some (.int .i64 a0_1) ∧ w8.cell? ⟨gb422, 2, none⟩ = some (.slice A0_2 l0_2.length c0_2) ∧ w8.cell? ⟨gb422, 3, none⟩ = some (.slice A0_3 l0_3.length c0_3) ∧ w8.cell? ⟨gb422, 4, none⟩ = some (.slice A0_4 l0_4.length c0_4) := hS_
              refine norm_ (a' := ?_) ?_ ?_
              rotate_left
              ·simp only [putAll, Act.put, List.setIfInBounds_toArray, List.set_cons_zero, List.set_cons_succ]
               rfl
              refine two_ (i := 4) (j := 8) (Ni := some 10) (Nj := some 14) (bl 15 9855) (bl 15 10095) rfl rfl rfl rfl (two_of HT_.out (by kernel_rfl)) (by decide) (by decide) (fun K hK => ?_) (fun K hK => ?_)
              ·skip
               refine Kd.R_lit_step (Kd.int .i64) _ 3 ?hg (N := 10) ?hd (xs := ([] : List Int)) (inner := []) (ok := fun _ => True) (okp := fun _ => True) ?hr ?hp (fun _ hk => hk) trivial (Below.refl _ _) (Nat.le_refl _) (by simp) ?_; (case hd => rfl); (case hg => rfl); (case hr => first | (go_simp; done) | (go_simp; rfl)); (case hp => exact (Reps.none _ _))
               intro v425 w9 ho10 hb hg_ hnew_
               clear hg_ hnew_
               (first | rw [← Ny424.out] at ho10 | (simp only [Int.reduceToNat] at ho10; rw [← Ny424.out] at ho10))
               have HO426 := ak (Kd.R_lower ho10 (below_size (belowg3 HB GE422 GE423 GE436)))
               replace BK422 := ak (blk_below (blkd BK422) hb)
               replace BK423 := ak (blk_below (blkd BK423) hb)
               replace BK436 := ak (blk_below (blkd BK436) hb)
               replace HB := ak (below_step (belowg3 HB GE422 GE423 GE436) hb)
               clear hb ho10
               refine hK.out _ _ ⟨bq BK422 0, bq BK422 1, bq BK422 2, bq BK422 3, bq BK422 4⟩ (fun hHeld => ?_)
               clear hK K
               refine norm_ (a' := ?_) ?_ ?_
               rotate_left
               ·show Act.put _ (some 10) _ = _
                simp only [Act.put, List.setIfInBounds_toArray, List.set_cons_zero, List.set_cons_succ, i64_w, i32_w]
                rfl
               exact norm_ (by first | (simp only [putAll, Act.put, List.setIfInBounds_toArray, List.set_cons_zero, List.set_cons_succ]; done) | (simp only [putAll, Act.put, List.setIfInBounds_toArray, List.set_cons_zero, List.set_cons_succ]; rfl)) (hJ4_13 (v425, gb436) _ ⟨hHeld, (rdl HO426), (blkd BK422), (blkd BK423), (blkd BK436), GW436.out, GE436.out, NB422_436.out, NB436_422.out, NB423_436.out, NB436_423.out, (belowg3 HB GE422 GE423 GE436)⟩)
              ·skip
               refine Kd.R_lit_step (Kd.int .i64) _ 3 ?hg (N := 14) ?hd (xs := ([] : List Int)) (inner := []) (ok := fun _ => True) (okp := fun _ => True) ?hr ?hp (fun _ hk => hk) trivial (Below.refl _ _) (Nat.le_refl _) (by simp) ?_; (case hd => rfl); (case hg => rfl); (case hr => first | (go_simp; done) | (go_simp; rfl)); (case hp => exact (Reps.none _ _))
               intro v431 w9 ho10 hb hg_ hnew_
               clear hg_ hnew_
               (first | rw [← Ny430.out] at ho10 | (simp only [Int.reduceToNat] at ho10; rw [← Ny430.out] at ho10))
               have HO432 := ak (Kd.R_lower ho10 (below_size (belowg3 HB GE422 GE423 GE436)))
               replace BK422 := ak (blk_below (blkd BK422) hb)
               replace BK423 := ak (blk_below (blkd BK423) hb)
               replace BK436 := ak (blk_below (blkd BK436) hb)
               replace HB := ak (below_step (belowg3 HB GE422 GE423 GE436) hb)
               clear hb ho10
               refine hK.out _ _ ⟨bq BK422 0, bq BK422 1, bq BK422 2, bq BK422 3, bq BK422 4⟩ (fun hHeld => ?_)
               clear hK K
               refine norm_ (a' := ?_) ?_ ?_
               rotate_left
               ·show Act.put _ (some 14) _ = _
                simp only [Act.put, List.setIfInBounds_toArray, List.set_cons_zero, List.set_cons_succ, i64_w, i32_w]
                rfl
               exact norm_ (by first | (simp only [putAll, Act.put, List.setIfInBounds_toArray, List.set_cons_zero, List.set_cons_succ]; done) | (simp only [putAll, Act.put, List.setIfInBounds_toArray, List.set_cons_zero, List.set_cons_succ]; rfl)) (hJ8_13 (v431, gb436) _ ⟨hHeld, (rdl HO432), (blkd BK422), (blkd BK423), (blkd BK436), GW436.out, GE436.out, NB422_436.out, NB436_422.out, NB423_436.out, NB436_423.out, (belowg3 HB GE422 GE423 GE436)⟩)
            ·skip
             rintro v431 w9 ⟨hS_, h0_, h1_, h2_, h3_⟩
             have n0_ : Aside0 (Kd.R (Kd.int .i64) 3 w9 w.heap.size (fun _ => True) v431 y430) := ⟨h0_⟩
             have n1_ : Aside0 (w9.heap[gb422]? = some (.cells #[.int .i64 a0_0, .int .i64 a0_1, .slice A0_2 l0_2.length c0_2, .slice A0_3 l0_3.length c0_3, .slice A0_4 l0_4.length c0_4] 47 (0, 0))) := ⟨h1_⟩
             have n2_ : Aside0 (w9.heap[gb423]? = some (.cells #[.int .i64 0, .int .i64 0, .slice none 0 0, .slice none 0 0, .slice none 0 0] 47 (0, 0))) := ⟨h2_⟩
             have n3_ : Aside0 (Below w.heap.size w w9) := ⟨h3_⟩
             clear BK422; clear BK423; clear HB; clear h0_ h1_ h2_ h3_
             have HO432 := n0_
             have BK422 := n1_
             have BK423 := n2_
             have HB := n3_
             clear n0_ n1_ n2_ n3_
             have hHeld : w9.cell? ⟨gb422, 0, none⟩ = some (.int .i64 a0_0) ∧ w9.cell? ⟨gb422, 1, none⟩ = some (.int .i64 a0_1) ∧ w9.cell? ⟨gb422, 2, none⟩ = some (.slice A0_2 l0_2.length c0_2) ∧ w9.cell? ⟨gb422, 3, none⟩ = some (.slice A0_3 l0_3.length c0_3) ∧ w9.cell? ⟨gb422, 4, none⟩ = some (.slice A0_4 l0_4.length c0_4) := hS_
             refine norm_ (a' := ?_) ?_ ?_
             rotate_left
             ·simp only [putAll, Act.put, List.setIfInBounds_toArray, List.set_cons_zero, List.set_cons_succ]
              rfl
             refine two_ (i := 4) (j := 13) (Ni := some 10) (Nj := some 3) (bl 15 1919) (bl 15 10095) rfl rfl rfl rfl (two_of HT_.out (by kernel_rfl)) (by decide) (by decide) (fun K hK => ?_) (fun K hK => ?_)
             ·skip
              refine Kd.R_lit_step (Kd.int .i64) _ 3 ?hg (N := 10) ?hd (xs := ([] : List Int)) (inner := []) (ok := fun _ => True) (okp := fun _ => True) ?hr ?hp (fun _ hk => hk) trivial (Below.refl _ _) (Nat.le_refl _) (by simp) ?_; (case hd => rfl); (case hg => rfl); (case hr => first | (go_simp; done) | (go_simp; rfl)); (case hp => exact (Reps.none _ _))
              intro v425 w10 ho11 hb hg_ hnew_
              clear hg_ hnew_
              (first | rw [← Ny424.out] at ho11 | (simp only [Int.reduceToNat] at ho11; rw [← Ny424.out] at ho11))
              have HO426 := ak (Kd.R_lower (Kd.R_new' ho11 (Kd.R_lt (rdl HO432))) (below_size (belowg2 HB GE422 GE423)))
              replace HO432 := ak (Kd.R_elder' (rdl HO432) (Kd.R_base ho11) hb)
              replace BK422 := ak (blk_below (blkd BK422) hb)
              replace BK423 := ak (blk_below (blkd BK423) hb)
              replace HB := ak (below_step (belowg2 HB GE422 GE423) hb)
              clear hb ho11
              refine hK.out _ _ ⟨bq BK422 0, bq BK422 1, bq BK422 2, bq BK422 3, bq BK422 4⟩ (fun hHeld => ?_)
              clear hK K
              refine norm_ (a' := ?_) ?_ ?_
              rotate_left
              ·show Act.put _ (some 10) _ = _
               simp only [Act.put, List.setIfInBounds_toArray, List.set_cons_zero, List.set_cons_succ, i64_w, i32_w]
               rfl
              exact norm_ (by first | (simp only [putAll, Act.put, List.setIfInBounds_toArray, List.set_cons_zero, List.set_cons_succ]; done) | (simp only [putAll, Act.put, List.setIfInBounds_toArray, List.set_cons_zero, List.set_cons_succ]; rfl)) (hJ4_8 (v425, v431) _ ⟨hHeld, (by (with_reducible repeat (first | apply Kd.R_alloc | apply Kd.R_drewN | apply Kd.R_drew)); exact Kd.R_mono HO426.out (fun _ hk => hk.2)), (by (with_reducible repeat (first | apply Kd.R_alloc | apply Kd.R_drewN | apply Kd.R_drew)); exact Kd.R_mono HO432.out (fun _ hk => hk.2)), (blkd BK422), (blkd BK423), (belowg2 HB GE422 GE423)⟩)
             ·skip
              refine box_step ?hg (N := 3) ?hd (cs := #[.int .i64 0, .int .i64 0, .slice none 0 0, .slice none 0 0, .slice none 0 0]) (t := 47) ?hr ?_; (case hd => rfl); (case hg => rfl); (case hr => first | (go_simp; done) | (go_simp; rfl))
              intro gb436 hg w10 hbox hb
              replace HO432 := ak (Kd.R_below (rdl HO432) hb)
              have BK436 := ak (hbox)
              have GW436 := ak (hgl hg (belowg2 HB GE422 GE423))
              have GE436 := ak (hgl hg (belowg2 HB GE422 GE423))
              replace HB := ak (below_step (belowg2 HB GE422 GE423) hb)
              have NB422_436 := ak ((by rw [hg]; exact Nat.ne_of_lt (blk_lt (blkd BK422)) : gb422 ≠ gb436))
              have NB436_422 := ak ((by rw [hg]; exact Nat.ne_of_gt (blk_lt (blkd BK422)) : gb436 ≠ gb422))
              replace BK422 := ak (blk_below (blkd BK422) hb)
              have NB423_436 := ak ((by rw [hg]; exact Nat.ne_of_lt (blk_lt (blkd BK423)) : gb423 ≠ gb436))
              have NB436_423 := ak ((by rw [hg]; exact Nat.ne_of_gt (blk_lt (blkd BK423)) : gb436 ≠ gb423))
              replace BK423 := ak (blk_below (blkd BK423) hb)
              clear hb hbox hg
              refine hK.out _ _ ⟨bq BK422 0, bq BK422 1, bq BK422 2, bq BK422 3, bq BK422 4⟩ (fun hHeld => ?_)
              clear hK K
              refine norm_ (a' := ?_) ?_ ?_
              rotate_left
              ·show Act.put _ (some 3) _ = _
               simp only [Act.put, List.setIfInBounds_toArray, List.set_cons_zero, List.set_cons_succ, i64_w, i32_w]
               rfl
              exact norm_ (by first | (simp only [putAll, Act.put, List.setIfInBounds_toArray, List.set_cons_zero, List.set_cons_succ]; done) | (simp only [putAll, Act.put, List.setIfInBounds_toArray, List.set_cons_zero, List.set_cons_succ]; rfl)) (hJ8_13 (v431, gb436) _ ⟨hHeld, (rdl HO432), (blkd BK422), (blkd BK423), (blkd BK436), GW436.out, GE436.out, NB422_436.out, NB436_422.out, NB423_436.out, NB436_423.out, (belowg3 HB GE422 GE423 GE436)⟩)
           ·skip
            rintro v425 w9 ⟨hS_, h0_, h1_, h2_, h3_⟩
            have n0_ : Aside0 (Kd.R (Kd.int .i64) 3 w9 w.heap.size (fun _ => True) v425 y424) := ⟨h0_⟩
            have n1_ : Aside0 (w9.heap[gb422]? = some (.cells #[.int .i64 a0_0, .int .i64 a0_1, .slice A0_2 l0_2.length c0_2, .slice A0_3 l0_3.length c0_3, .slice A0_4 l0_4.length c0_4] 47 (0, 0))) := ⟨h1_⟩
            have n2_ : Aside0 (w9.heap[gb423]? = some (.cells #[.int .i64 0, .int .i64 0, .slice none 0 0, .slice none 0 0, .slice none 0 0] 47 (0, 0))) := ⟨h2_⟩
            have n3_ : Aside0 (Below w.heap.size w w9) := ⟨h3_⟩
            clear BK422; clear BK423; clear HB; clear h0_ h1_ h2_ h3_
            have HO426 := n0_
            have BK422 := n1_
            have BK423 := n2_
            have HB := n3_
            clear n0_ n1_ n2_ n3_
            have hHeld : w9.cell? ⟨gb422, 0, none⟩ = some (.int .i64 a0_0) ∧ w9.cell? ⟨gb422, 1, none⟩ = some (.int .i64 a0_1) ∧ w9.cell? ⟨gb422, 2, none⟩ = some (.slice A0_2 l0_2.length c0_2) ∧ w9.cell? ⟨gb422, 3, none⟩ = some (.slice A0_3 l0_3.length c0_3) ∧ w9.cell? ⟨gb422, 4, none⟩ = some (.slice A0_4 l0_4.length c0_4) := hS_
            refine norm_ (a' := ?_) ?_ ?_
            rotate_left
            ·simp only [putAll, Act.put, List.setIfInBounds_toArray, List.set_cons_zero, List.set_cons_succ]
             rfl
            refine three_ (i := 7) (j := 8) (k := 13) (Ni := some 13) (Nj := some 14) (Nk := some 3) (bl 15 1791) (bl 15 1919) (bl 15 9855) rfl rfl rfl rfl rfl rfl (three_of HT_.out (by kernel_rfl)) (by decide) (by decide) (by decide) (fun K hK => ?_) (fun K hK => ?_) (fun K hK => ?_)
            ·skip
             refine Kd.R_append_rows_step (Kd.int .i64) (w0 := w) w.heap.size (by rfl) (.tmp 10) (.tmp 12) 23 3 (.int .i64 0) 8 rfl Try.underlying23 info3 rfl (by decide) (by omega) v425 y424 l0_3 _ _ _ (fun _ => True) (fun _ => False) rfl rfl ?aO ?aR (fun _ _ h => h) (fun _ h => h.elim) ?aF ?aB ?aS ?aL ?_
             (case aR => exact cd (Kd.C_below HR0_3.out HB.out))
             (case aB => exact (belowg2 HB GE422 GE423))
             (case aF => exact (fun _ _ => trivial))
             (case aO => exact (rdl HO426))
             (case aS => exact (below_size (belowg2 HB GE422 GE423)))
             (case aL => have := LMc2.out; omega)
             intro v428 w10 ho hb hg hat
             rw [← Ny427.out] at ho
             replace BK422 := ak (blk_grown (blkd BK422) hg (Kd.R_ne HO426.out BK422.out (by decide)))
             replace BK423 := ak (blk_grown (blkd BK423) hg (Kd.R_ne HO426.out BK423.out (by decide)))
             replace HB := ak (hb)
             have HO429 := ak (ho); clear HO426; clear ho hb hg hat
             refine hK.out _ _ ⟨bq BK422 0, bq BK422 1, bq BK422 2, bq BK422 3, bq BK422 4⟩ (fun hHeld => ?_)
             clear hK K
             refine norm_ (a' := ?_) ?_ ?_
             rotate_left
             ·show Act.put _ (some 13) _ = _
              simp only [Act.put, List.setIfInBounds_toArray, List.set_cons_zero, List.set_cons_succ, i64_w, i32_w]
              rfl
             exact norm_ (by first | (simp only [putAll, Act.put, List.setIfInBounds_toArray, List.set_cons_zero, List.set_cons_succ]; done) | (simp only [putAll, Act.put, List.setIfInBounds_toArray, List.set_cons_zero, List.set_cons_succ]; rfl)) (hJ4_7 (v425, v428) _ ⟨hHeld, (rdl HO429), (blkd BK422), (blkd BK423), (belowg2 HB GE422 GE423)⟩)
            ·skip
             refine Kd.R_lit_step (Kd.int .i64) _ 3 ?hg (N := 14) ?hd (xs := ([] : List Int)) (inner := []) (ok := fun _ => True) (okp := fun _ => True) ?hr ?hp (fun _ hk => hk) trivial (Below.refl _ _) (Nat.le_refl _) (by simp) ?_; (case hd => rfl); (case hg => rfl); (case hr => first | (go_simp; done) | (go_simp; rfl)); (case hp => exact (Reps.none _ _))
             intro v431 w10 ho11 hb hg_ hnew_
             clear hg_ hnew_
             (first | rw [← Ny430.out] at ho11 | (simp only [Int.reduceToNat] at ho11; rw [← Ny430.out] at ho11))
             have HO432 := ak (Kd.R_lower (Kd.R_new' ho11 (Kd.R_lt (rdl HO426))) (below_size (belowg2 HB GE422 GE423)))
             replace HO426 := ak (Kd.R_elder' (rdl HO426) (Kd.R_base ho11) hb)
             replace BK422 := ak (blk_below (blkd BK422) hb)
             replace BK423 := ak (blk_below (blkd BK423) hb)
             replace HB := ak (below_step (belowg2 HB GE422 GE423) hb)
             clear hb ho11
             refine hK.out _ _ ⟨bq BK422 0, bq BK422 1, bq BK422 2, bq BK422 3, bq BK422 4⟩ (fun hHeld => ?_)
             clear hK K
             refine norm_ (a' := ?_) ?_ ?_
             rotate_left
             ·show Act.put _ (some 14) _ = _
              simp only [Act.put, List.setIfInBounds_toArray, List.set_cons_zero, List.set_cons_succ, i64_w, i32_w]
              rfl
             exact norm_ (by first | (simp only [putAll, Act.put, List.setIfInBounds_toArray, List.set_cons_zero, List.set_cons_succ]; done) | (simp only [putAll, Act.put, List.setIfInBounds_toArray, List.set_cons_zero, List.set_cons_succ]; rfl)) (hJ4_8 (v425, v431) _ ⟨hHeld, (by (with_reducible repeat (first | apply Kd.R_alloc | apply Kd.R_drewN | apply Kd.R_drew)); exact Kd.R_mono HO426.out (fun _ hk => hk.2)), (by (with_reducible repeat (first | apply Kd.R_alloc | apply Kd.R_drewN | apply Kd.R_drew)); exact Kd.R_mono HO432.out (fun _ hk => hk.2)), (blkd BK422), (blkd BK423), (belowg2 HB GE422 GE423)⟩)
            ·skip
             refine box_step ?hg (N := 3) ?hd (cs := #[.int .i64 0, .int .i64 0, .slice none 0 0, .slice none 0 0, .slice none 0 0]) (t := 47) ?hr ?_; (case hd => rfl); (case hg => rfl); (case hr => first | (go_simp; done) | (go_simp; rfl))
             intro gb436 hg w10 hbox hb
             replace HO426 := ak (Kd.R_below (rdl HO426) hb)
             have BK436 := ak (hbox)
             have GW436 := ak (hgl hg (belowg2 HB GE422 GE423))
             have GE436 := ak (hgl hg (belowg2 HB GE422 GE423))
             replace HB := ak (below_step (belowg2 HB GE422 GE423) hb)
             have NB422_436 := ak ((by rw [hg]; exact Nat.ne_of_lt (blk_lt (blkd BK422)) : gb422 ≠ gb436))
             have NB436_422 := ak ((by rw [hg]; exact Nat.ne_of_gt (blk_lt (blkd BK422)) : gb436 ≠ gb422))
             replace BK422 := ak (blk_below (blkd BK422) hb)
             have NB423_436 := ak ((by rw [hg]; exact Nat.ne_of_lt (blk_lt (blkd BK423)) : gb423 ≠ gb436))
             have NB436_423 := ak ((by rw [hg]; exact Nat.ne_of_gt (blk_lt (blkd BK423)) : gb436 ≠ gb423))
             replace BK423 := ak (blk_below (blkd BK423) hb)
             clear hb hbox hg
             refine hK.out _ _ ⟨bq BK422 0, bq BK422 1, bq BK422 2, bq BK422 3, bq BK422 4⟩ (fun hHeld => ?_)
             clear hK K
             refine norm_ (a' := ?_) ?_ ?_
             rotate_left
             ·show Act.put _ (some 3) _ = _
              simp only [Act.put, List.setIfInBounds_toArray, List.set_cons_zero, List.set_cons_succ, i64_w, i32_w]
              rfl
             exact norm_ (by first | (simp only [putAll, Act.put, List.setIfInBounds_toArray, List.set_cons_zero, List.set_cons_succ]; done) | (simp only [putAll, Act.put, List.setIfInBounds_toArray, List.set_cons_zero, List.set_cons_succ]; rfl)) (hJ4_13 (v425, gb436) _ ⟨hHeld, (rdl HO426), (blkd BK422), (blkd BK423), (blkd BK436), GW436.out, GE436.out, NB422_436.out, NB436_422.out, NB423_436.out, NB436_423.out, (belowg3 HB GE422 GE423 GE436)⟩)
          ·skip
           rintro ⟨v431, gb436⟩ w10 ⟨hS_, h0_, h1_, h2_, h3_, h4_, h5_, h6_, h7_, h8_, h9_, h10_⟩
           have n0_ : Aside0 (Kd.R (Kd.int .i64) 3 w10 w.heap.size (fun _ => True) v431 y430) := ⟨h0_⟩
           have n1_ : Aside0 (w10.heap[gb422]? = some (.cells #[.int .i64 a0_0, .int .i64 a0_1, .slice A0_2 l0_2.length c0_2, .slice A0_3 l0_3.length c0_3, .slice A0_4 l0_4.length c0_4] 47 (0, 0))) := ⟨h1_⟩
           have n2_ : Aside0 (w10.heap[gb423]? = some (.cells #[.int .i64 0, .int .i64 0, .slice none 0 0, .slice none 0 0, .slice none 0 0] 47 (0, 0))) := ⟨h2_⟩
           have n3_ : Aside0 (w10.heap[gb436]? = some (.cells #[.int .i64 0, .int .i64 0, .slice none 0 0, .slice none 0 0, .slice none 0 0] 47 (0, 0))) := ⟨h3_⟩
           have n4_ : Aside0 (w.heap.size ≤ gb436) := ⟨h4_⟩
           have n5_ : Aside0 (w.heap.size ≤ gb436) := ⟨h5_⟩
           have n6_ : Aside0 (gb422 ≠ gb436) := ⟨h6_⟩
           have n7_ : Aside0 (gb436 ≠ gb422) := ⟨h7_⟩
           have n8_ : Aside0 (gb423 ≠ gb436) := ⟨h8_⟩
           have n9_ : Aside0 (gb436 ≠ gb423) := ⟨h9_⟩
           have n10_ : Aside0 (Below w.heap.size w w10) := ⟨h10_⟩
           clear BK422; clear BK423; clear HB; clear h0_ h1_ h2_ h3_ h4_ h5_ h6_ h7_ h8_ h9_ h10_
           have HO432 := n0_
           have BK422 := n1_
           have BK423 := n2_
           have BK436 := n3_
           have GW436 := n4_
           have GE436 := n5_
           have NB422_436 := n6_
           have NB436_422 := n7_
           have NB423_436 := n8_
           have NB436_423 := n9_
           have HB := n10_
           clear n0_ n1_ n2_ n3_ n4_ n5_ n6_ n7_ n8_ n9_ n10_
           have hHeld : w10.cell? ⟨gb422, 0, none⟩ = some (.int .i64 a0_0) ∧ w10.cell? ⟨gb422, 1, none⟩ = some (.int .i64 a0_1) ∧ w10.cell? ⟨gb422, 2, none⟩ = some (.slice A0_2 l0_2.length c0_2) ∧ w10.cell? ⟨gb422, 3, none⟩ = some (.slice A0_3 l0_3.length c0_3) ∧ w10.cell? ⟨gb422, 4, none⟩ = some (.slice A0_4 l0_4.length c0_4) := hS_
           refine norm_ (a' := ?_) ?_ ?_
           rotate_left
           ·simp only [putAll, Act.put, List.setIfInBounds_toArray, List.set_cons_zero, List.set_cons_succ]
            rfl
           refine oneA 4 (some 10) 15 10111 HT_ (fun K hK => ?_)
           refine Kd.R_lit_step (Kd.int .i64) _ 3 ?hg (N := 10) ?hd (xs := ([] : List Int)) (inner := []) (ok := fun _ => True) (okp := fun _ => True) ?hr ?hp (fun _ hk => hk) trivial (Below.refl _ _) (Nat.le_refl _) (by simp) ?_; (case hd => rfl); (case hg => rfl); (case hr => first | (go_simp; done) | (go_simp; rfl)); (case hp => exact (Reps.none _ _))
           intro v425 w11 ho12 hb hg_ hnew_
           clear hg_ hnew_
           (first | rw [← Ny424.out] at ho12 | (simp only [Int.reduceToNat] at ho12; rw [← Ny424.out] at ho12))
           have HO426 := ak (Kd.R_lower (Kd.R_new' ho12 (Kd.R_lt (rdl HO432))) (below_size (belowg3 HB GE422 GE423 GE436)))
           replace HO432 := ak (Kd.R_elder' (rdl HO432) (Kd.R_base ho12) hb)
           replace BK422 := ak (blk_below (blkd BK422) hb)
           replace BK423 := ak (blk_below (blkd BK423) hb)
           replace BK436 := ak (blk_below (blkd BK436) hb)
           replace HB := ak (below_step (belowg3 HB GE422 GE423 GE436) hb)
           clear hb ho12
           refine hK.out _ _ ⟨bq BK422 0, bq BK422 1, bq BK422 2, bq BK422 3, bq BK422 4⟩ (fun hHeld => ?_)
           clear hK K
           refine norm_ (a' := ?_) ?_ ?_
           rotate_left
           ·show Act.put _ (some 10) _ = _
            simp only [Act.put, List.setIfInBounds_toArray, List.set_cons_zero, List.set_cons_succ, i64_w, i32_w]
            rfl
           exact norm_ (by first | (simp only [putAll, Act.put, List.setIfInBounds_toArray, List.set_cons_zero, List.set_cons_succ]; done) | (simp only [putAll, Act.put, List.setIfInBounds_toArray, List.set_cons_zero, List.set_cons_succ]; rfl)) (hJ4_8_13 (v425, v431, gb436) _ ⟨hHeld, (by (with_reducible repeat (first | apply Kd.R_alloc | apply Kd.R_drewN | apply Kd.R_drew)); exact Kd.R_mono HO426.out (fun _ hk => hk.2)), (by (with_reducible repeat (first | apply Kd.R_alloc | apply Kd.R_drewN | apply Kd.R_drew)); exact Kd.R_mono HO432.out (fun _ hk => hk.2)), (blkd BK422), (blkd BK423), (blkd BK436), GW436.out, GE436.out, NB422_436.out, NB436_422.out, NB423_436.out, NB436_423.out, (belowg3 HB GE422 GE423 GE436)⟩)
         ·skip
          rintro ⟨v425, gb436⟩ w10 ⟨hS_, h0_, h1_, h2_, h3_, h4_, h5_, h6_, h7_, h8_, h9_, h10_⟩
          have n0_ : Aside0 (Kd.R (Kd.int .i64) 3 w10 w.heap.size (fun _ => True) v425 y424) := ⟨h0_⟩
          have n1_ : Aside0 (w10.heap[gb422]? = some (.cells #[.int .i64 a0_0, .int .i64 a0_1, .slice A0_2 l0_2.length c0_2, .slice A0_3 l0_3.length c0_3, .slice A0_4 l0_4.length c0_4] 47 (0, 0))) := ⟨h1_⟩
          have n2_ : Aside0 (w10.heap[gb423]? = some (.cells #[.int .i64 0, .int .i64 0, .slice none 0 0, .slice none 0 0, .slice none 0 0] 47 (0, 0))) := ⟨h2_⟩
          have n3_ : Aside0 (w10.heap[gb436]? = some (.cells #[.int .i64 0, .int .i64 0, .slice none 0 0, .slice none 0 0, .slice none 0 0] 47 (0, 0))) := ⟨h3_⟩
          have n4_ : Aside0 (w.heap.size ≤ gb436) := ⟨h4_⟩
          have n5_ : Aside0 (w.heap.size ≤ gb436) := ⟨h5_⟩
          have n6_ : Aside0 (gb422 ≠ gb436) := ⟨h6_⟩
          have n7_ : Aside0 (gb436 ≠ gb422) := ⟨h7_⟩
          have n8_ : Aside0 (gb423 ≠ gb436) := ⟨h8_⟩
          have n9_ : Aside0 (gb436 ≠ gb423) := ⟨h9_⟩
          have n10_ : Aside0 (Below w.heap.size w w10) := ⟨h10_⟩
          clear BK422; clear BK423; clear HB; clear h0_ h1_ h2_ h3_ h4_ h5_ h6_ h7_ h8_ h9_ h10_
          have HO426 := n0_
          have BK422 := n1_
          have BK423 := n2_
          have BK436 := n3_
          have GW436 := n4_
          have GE436 := n5_
          have NB422_436 := n6_
          have NB436_422 := n7_
          have NB423_436 := n8_
          have NB436_423 := n9_
          have HB := n10_
          clear n0_ n1_ n2_ n3_ n4_ n5_ n6_ n7_ n8_ n9_ n10_
          have hHeld : w10.cell? ⟨gb422, 0, none⟩ = some (.int .i64 a0_0) ∧ w10.cell? ⟨gb422, 1, none⟩ = some (.int .i64 a0_1) ∧ w10.cell? ⟨gb422, 2, none⟩ = some (.slice A0_2 l0_2.length c0_2) ∧ w10.cell? ⟨gb422, 3, none⟩ = some (.slice A0_3 l0_3.length c0_3) ∧ w10.cell? ⟨gb422, 4, none⟩ = some (.slice A0_4 l0_4.length c0_4) := hS_
          refine norm_ (a' := ?_) ?_ ?_
          rotate_left
          ·simp only [putAll, Act.put, List.setIfInBounds_toArray, List.set_cons_zero, List.set_cons_succ]
           rfl
          refine two_ (i := 7) (j := 8) (Ni := some 13) (Nj := some 14) (bl 15 9983) (bl 15 10111) rfl rfl rfl rfl (two_of HT_.out (by kernel_rfl)) (by decide) (by decide) (fun K hK => ?_) (fun K hK => ?_)
          ·skip
           refine Kd.R_append_rows_step (Kd.int .i64) (w0 := w) w.heap.size (by rfl) (.tmp 10) (.tmp 12) 23 3 (.int .i64 0) 8 rfl Try.underlying23 info3 rfl (by decide) (by omega) v425 y424 l0_3 _ _ _ (fun _ => True) (fun _ => False) rfl rfl ?aO ?aR (fun _ _ h => h) (fun _ h => h.elim) ?aF ?aB ?aS ?aL ?_
           (case aR => exact cd (Kd.C_below HR0_3.out HB.out))
           (case aB => exact (belowg3 HB GE422 GE423 GE436))
           (case aF => exact (fun _ _ => trivial))
           (case aO => exact (rdl HO426))
           (case aS => exact (below_size (belowg3 HB GE422 GE423 GE436)))
           (case aL => have := LMc2.out; omega)
           intro v428 w11 ho hb hg hat
           rw [← Ny427.out] at ho
           replace BK422 := ak (blk_grown (blkd BK422) hg (Kd.R_ne HO426.out BK422.out (by decide)))
           replace BK423 := ak (blk_grown (blkd BK423) hg (Kd.R_ne HO426.out BK423.out (by decide)))
           replace BK436 := ak (blk_grown (blkd BK436) hg (Kd.R_ne HO426.out BK436.out (by decide)))
           replace HB := ak (hb)
           have HO429 := ak (ho); clear HO426; clear ho hb hg hat
           refine hK.out _ _ ⟨bq BK422 0, bq BK422 1, bq BK422 2, bq BK422 3, bq BK422 4⟩ (fun hHeld => ?_)
           clear hK K
           refine norm_ (a' := ?_) ?_ ?_
           rotate_left
           ·show Act.put _ (some 13) _ = _
            simp only [Act.put, List.setIfInBounds_toArray, List.set_cons_zero, List.set_cons_succ, i64_w, i32_w]
            rfl
           exact norm_ (by first | (simp only [putAll, Act.put, List.setIfInBounds_toArray, List.set_cons_zero, List.set_cons_succ]; done) | (simp only [putAll, Act.put, List.setIfInBounds_toArray, List.set_cons_zero, List.set_cons_succ]; rfl)) (hJ4_7_13 (v425, v428, gb436) _ ⟨hHeld, (rdl HO429), (blkd BK422), (blkd BK423), (blkd BK436), GW436.out, GE436.out, NB422_436.out, NB436_422.out, NB423_436.out, NB436_423.out, (belowg3 HB GE422 GE423 GE436)⟩)
          ·skip
           refine Kd.R_lit_step (Kd.int .i64) _ 3 ?hg (N := 14) ?hd (xs := ([] : List Int)) (inner := []) (ok := fun _ => True) (okp := fun _ => True) ?hr ?hp (fun _ hk => hk) trivial (Below.refl _ _) (Nat.le_refl _) (by simp) ?_; (case hd => rfl); (case hg => rfl); (case hr => first | (go_simp; done) | (go_simp; rfl)); (case hp => exact (Reps.none _ _))
           intro v431 w11 ho12 hb hg_ hnew_
           clear hg_ hnew_
           (first | rw [← Ny430.out] at ho12 | (simp only [Int.reduceToNat] at ho12; rw [← Ny430.out] at ho12))
           have HO432 := ak (Kd.R_lower (Kd.R_new' ho12 (Kd.R_lt (rdl HO426))) (below_size (belowg3 HB GE422 GE423 GE436)))
           replace HO426 := ak (Kd.R_elder' (rdl HO426) (Kd.R_base ho12) hb)
           replace BK422 := ak (blk_below (blkd BK422) hb)
           replace BK423 := ak (blk_below (blkd BK423) hb)
           replace BK436 := ak (blk_below (blkd BK436) hb)
           replace HB := ak (below_step (belowg3 HB GE422 GE423 GE436) hb)
           clear hb ho12
           refine hK.out _ _ ⟨bq BK422 0, bq BK422 1, bq BK422 2, bq BK422 3, bq BK422 4⟩ (fun hHeld => ?_)
           clear hK K
           refine norm_ (a' := ?_) ?_ ?_
           rotate_left
           ·show Act.put _ (some 14) _ = _
            simp only [Act.put, List.setIfInBounds_toArray, List.set_cons_zero, List.set_cons_succ, i64_w, i32_w]
            rfl
           exact norm_ (by first | (simp only [putAll, Act.put, List.setIfInBounds_toArray, List.set_cons_zero, List.set_cons_succ]; done) | (simp only [putAll, Act.put, List.setIfInBounds_toArray, List.set_cons_zero, List.set_cons_succ]; rfl)) (hJ4_8_13 (v425, v431, gb436) _ ⟨hHeld, (by (with_reducible repeat (first | apply Kd.R_alloc | apply Kd.R_drewN | apply Kd.R_drew)); exact Kd.R_mono HO426.out (fun _ hk => hk.2)), (by (with_reducible repeat (first | apply Kd.R_alloc | apply Kd.R_drewN | apply Kd.R_drew)); exact Kd.R_mono HO432.out (fun _ hk => hk.2)), (blkd BK422), (blkd BK423), (blkd BK436), GW436.out, GE436.out, NB422_436.out, NB436_422.out, NB423_436.out, NB436_423.out, (belowg3 HB GE422 GE423 GE436)⟩)
        ·skip
         rintro ⟨v425, v431⟩ w11 ⟨hS_, h0_, h1_, h2_, h3_, h4_⟩
         have n0_ : Aside0 (Kd.R (Kd.int .i64) 3 w11 w.heap.size (fun k_ => some k_ ≠ (v431 : Value).ownBlock) v425 y424) := ⟨h0_⟩
         have n1_ : Aside0 (Kd.R (Kd.int .i64) 3 w11 w.heap.size (fun k_ => some k_ ≠ (v425 : Value).ownBlock) v431 y430) := ⟨h1_⟩
         have n2_ : Aside0 (w11.heap[gb422]? = some (.cells #[.int .i64 a0_0, .int .i64 a0_1, .slice A0_2 l0_2.length c0_2, .slice A0_3 l0_3.length c0_3, .slice A0_4 l0_4.length c0_4] 47 (0, 0))) := ⟨h2_⟩
         have n3_ : Aside0 (w11.heap[gb423]? = some (.cells #[.int .i64 0, .int .i64 0, .slice none 0 0, .slice none 0 0, .slice none 0 0] 47 (0, 0))) := ⟨h3_⟩
         have n4_ : Aside0 (Below w.heap.size w w11) := ⟨h4_⟩
         clear BK422; clear BK423; clear HB; clear h0_ h1_ h2_ h3_ h4_
         have HO426 := n0_
         have HO432 := n1_
         have BK422 := n2_
         have BK423 := n3_
         have HB := n4_
         clear n0_ n1_ n2_ n3_ n4_
         have hHeld : w11.cell? ⟨gb422, 0, none⟩ = some (.int .i64 a0_0) ∧ w11.cell? ⟨gb422, 1, none⟩ = some (.int .i64 a0_1) ∧ w11.cell? ⟨gb422, 2, none⟩ = some (.slice A0_2 l0_2.length c0_2) ∧ w11.cell? ⟨gb422, 3, none⟩ = some (.slice A0_3 l0_3.length c0_3) ∧ w11.cell? ⟨gb422, 4, none⟩ = some (.slice A0_4 l0_4.length c0_4) := hS_
         refine norm_ (a' := ?_) ?_ ?_
         rotate_left
         ·simp only [putAll, Act.put, List.setIfInBounds_toArray, List.set_cons_zero, List.set_cons_succ]
          rfl
         refine two_ (i := 7) (j := 13) (Ni := some 13) (Nj := some 3) (bl 15 2047) (bl 15 10111) rfl rfl rfl rfl (two_of HT_.out (by kernel_rfl)) (by decide) (by decide) (fun K hK => ?_) (fun K hK => ?_)
         ·skip
          refine Kd.R_append_rows_step (Kd.int .i64) (w0 := w) w.heap.size (by rfl) (.tmp 10) (.tmp 12) 23 3 (.int .i64 0) 8 rfl Try.underlying23 info3 rfl (by decide) (by omega) v425 y424 l0_3 _ _ _ (fun k_ => some k_ ≠ (v431 : Value).ownBlock) (fun _ => False) rfl rfl ?aO ?aR (fun _ _ h => h) (fun _ h => h.elim) ?aF ?aB ?aS ?aL ?_
          (case aR => exact cd (Kd.C_below HR0_3.out HB.out))
          (case aB => exact (belowg2 HB GE422 GE423))
          (case aF => exact (fun k_ hk => Kd.fresh' (Kd.R_lt (rdl HO432)) k_ hk))
          (case aO => exact (rdl HO426))
          (case aS => exact (below_size (belowg2 HB GE422 GE423)))
          (case aL => have := LMc2.out; omega)
          intro v428 w12 ho hb hg hat
          rw [← Ny427.out] at ho
          replace BK422 := ak (blk_grown (blkd BK422) hg (Kd.R_ne HO426.out BK422.out (by decide)))
          replace BK423 := ak (blk_grown (blkd BK423) hg (Kd.R_ne HO426.out BK423.out (by decide)))
          replace HO432 := ak (Kd.R_after (ok := (fun _ => True)) (by (with_reducible repeat (first | apply Kd.R_alloc | apply Kd.R_drewN | apply Kd.R_drew)); exact Kd.R_mono HO432.out (fun _ hk => ⟨trivial, hk⟩)) hg hat)
          replace HB := ak (hb)
          have HO429 := ak (ho); clear HO426; clear ho hb hg hat
          refine hK.out _ _ ⟨bq BK422 0, bq BK422 1, bq BK422 2, bq BK422 3, bq BK422 4⟩ (fun hHeld => ?_)
          clear hK K
          refine norm_ (a' := ?_) ?_ ?_
          rotate_left
          ·show Act.put _ (some 13) _ = _
           simp only [Act.put, List.setIfInBounds_toArray, List.set_cons_zero, List.set_cons_succ, i64_w, i32_w]
           rfl
          exact norm_ (by first | (simp only [putAll, Act.put, List.setIfInBounds_toArray, List.set_cons_zero, List.set_cons_succ]; done) | (simp only [putAll, Act.put, List.setIfInBounds_toArray, List.set_cons_zero, List.set_cons_succ]; rfl)) (hJ4_7_8 (v425, v428, v431) _ ⟨hHeld, (rdl HO429), (by (with_reducible repeat (first | apply Kd.R_alloc | apply Kd.R_drewN | apply Kd.R_drew)); exact Kd.R_mono HO432.out (fun _ hk => hk.2)), (blkd BK422), (blkd BK423), (belowg2 HB GE422 GE423)⟩)
         ·skip
          refine box_step ?hg (N := 3) ?hd (cs := #[.int .i64 0, .int .i64 0, .slice none 0 0, .slice none 0 0, .slice none 0 0]) (t := 47) ?hr ?_; (case hd => rfl); (case hg => rfl); (case hr => first | (go_simp; done) | (go_simp; rfl))
          intro gb436 hg w12 hbox hb
          replace HO426 := ak (Kd.R_below (rdl HO426) hb)
          replace HO432 := ak (Kd.R_below (rdl HO432) hb)
          have BK436 := ak (hbox)
          have GW436 := ak (hgl hg (belowg2 HB GE422 GE423))
          have GE436 := ak (hgl hg (belowg2 HB GE422 GE423))
          replace HB := ak (below_step (belowg2 HB GE422 GE423) hb)
          have NB422_436 := ak ((by rw [hg]; exact Nat.ne_of_lt (blk_lt (blkd BK422)) : gb422 ≠ gb436))
          have NB436_422 := ak ((by rw [hg]; exact Nat.ne_of_gt (blk_lt (blkd BK422)) : gb436 ≠ gb422))
          replace BK422 := ak (blk_below (blkd BK422) hb)
          have NB423_436 := ak ((by rw [hg]; exact Nat.ne_of_lt (blk_lt (blkd BK423)) : gb423 ≠ gb436))
          have NB436_423 := ak ((by rw [hg]; exact Nat.ne_of_gt (blk_lt (blkd BK423)) : gb436 ≠ gb423))
          replace BK423 := ak (blk_below (blkd BK423) hb)
          clear hb hbox hg
          refine hK.out _ _ ⟨bq BK422 0, bq BK422 1, bq BK422 2, bq BK422 3, bq BK422 4⟩ (fun hHeld => ?_)
          clear hK K
          refine norm_ (a' := ?_) ?_ ?_
          rotate_left
          ·show Act.put _ (some 3) _ = _
           simp only [Act.put, List.setIfInBounds_toArray, List.set_cons_zero, List.set_cons_succ, i64_w, i32_w]
           rfl
          exact norm_ (by first | (simp only [putAll, Act.put, List.setIfInBounds_toArray, List.set_cons_zero, List.set_cons_succ]; done) | (simp only [putAll, Act.put, List.setIfInBounds_toArray, List.set_cons_zero, List.set_cons_succ]; rfl)) (hJ4_8_13 (v425, v431, gb436) _ ⟨hHeld, (rdl HO426), (rdl HO432), (blkd BK422), (blkd BK423), (blkd BK436), GW436.out, GE436.out, NB422_436.out, NB436_422.out, NB423_436.out, NB436_423.out, (belowg3 HB GE422 GE423 GE436)⟩)
       ·skip
        rintro ⟨v425, v428⟩ w10 ⟨hS_, h0_, h1_, h2_, h3_⟩
        have n0_ : Aside0 (Kd.R (Kd.int .i64) 3 w10 w.heap.size (fun _ => True) v428 y427) := ⟨h0_⟩
        have n1_ : Aside0 (w10.heap[gb422]? = some (.cells #[.int .i64 a0_0, .int .i64 a0_1, .slice A0_2 l0_2.length c0_2, .slice A0_3 l0_3.length c0_3, .slice A0_4 l0_4.length c0_4] 47 (0, 0))) := ⟨h1_⟩
        have n2_ : Aside0 (w10.heap[gb423]? = some (.cells #[.int .i64 0, .int .i64 0, .slice none 0 0, .slice none 0 0, .slice none 0 0] 47 (0, 0))) := ⟨h2_⟩
        have n3_ : Aside0 (Below w.heap.size w w10) := ⟨h3_⟩
        clear BK422; clear BK423; clear HB; clear h0_ h1_ h2_ h3_
        have HO429 := n0_
        have BK422 := n1_
        have BK423 := n2_
        have HB := n3_
        clear n0_ n1_ n2_ n3_
        have hHeld : w10.cell? ⟨gb422, 0, none⟩ = some (.int .i64 a0_0) ∧ w10.cell? ⟨gb422, 1, none⟩ = some (.int .i64 a0_1) ∧ w10.cell? ⟨gb422, 2, none⟩ = some (.slice A0_2 l0_2.length c0_2) ∧ w10.cell? ⟨gb422, 3, none⟩ = some (.slice A0_3 l0_3.length c0_3) ∧ w10.cell? ⟨gb422, 4, none⟩ = some (.slice A0_4 l0_4.length c0_4) := hS_
        refine norm_ (a' := ?_) ?_ ?_
        rotate_left
        ·simp only [putAll, Act.put, List.setIfInBounds_toArray, List.set_cons_zero, List.set_cons_succ]
         rfl
        refine two_ (i := 8) (j := 13) (Ni := some 14) (Nj := some 3) (bl 15 2047) (bl 15 9983) rfl rfl rfl rfl (two_of HT_.out (by kernel_rfl)) (by decide) (by decide) (fun K hK => ?_) (fun K hK => ?_)
        ·skip
         refine Kd.R_lit_step (Kd.int .i64) _ 3 ?hg (N := 14) ?hd (xs := ([] : List Int)) (inner := []) (ok := fun _ => True) (okp := fun _ => True) ?hr ?hp (fun _ hk => hk) trivial (Below.refl _ _) (Nat.le_refl _) (by simp) ?_; (case hd => rfl); (case hg => rfl); (case hr => first | (go_simp; done) | (go_simp; rfl)); (case hp => exact (Reps.none _ _))
         intro v431 w11 ho12 hb hg_ hnew_
         clear hg_ hnew_
         (first | rw [← Ny430.out] at ho12 | (simp only [Int.reduceToNat] at ho12; rw [← Ny430.out] at ho12))
         have HO432 := ak (Kd.R_lower (Kd.R_new' ho12 (Kd.R_lt (rdl HO429))) (below_size (belowg2 HB GE422 GE423)))
         replace HO429 := ak (Kd.R_elder' (rdl HO429) (Kd.R_base ho12) hb)
         replace BK422 := ak (blk_below (blkd BK422) hb)
         replace BK423 := ak (blk_below (blkd BK423) hb)
         replace HB := ak (below_step (belowg2 HB GE422 GE423) hb)
         clear hb ho12
         refine hK.out _ _ ⟨bq BK422 0, bq BK422 1, bq BK422 2, bq BK422 3, bq BK422 4⟩ (fun hHeld => ?_)
         clear hK K
         refine norm_ (a' := ?_) ?_ ?_
         rotate_left
         ·show Act.put _ (some 14) _ = _
          simp only [Act.put, List.setIfInBounds_toArray, List.set_cons_zero, List.set_cons_succ, i64_w, i32_w]
          rfl
         exact norm_ (by first | (simp only [putAll, Act.put, List.setIfInBounds_toArray, List.set_cons_zero, List.set_cons_succ]; done) | (simp only [putAll, Act.put, List.setIfInBounds_toArray, List.set_cons_zero, List.set_cons_succ]; rfl)) (hJ4_7_8 (v425, v428, v431) _ ⟨hHeld, (by (with_reducible repeat (first | apply Kd.R_alloc | apply Kd.R_drewN | apply Kd.R_drew)); exact Kd.R_mono HO429.out (fun _ hk => hk.2)), (by (with_reducible repeat (first | apply Kd.R_alloc | apply Kd.R_drewN | apply Kd.R_drew)); exact Kd.R_mono HO432.out (fun _ hk => hk.2)), (blkd BK422), (blkd BK423), (belowg2 HB GE422 GE423)⟩)
        ·skip
         refine box_step ?hg (N := 3) ?hd (cs := #[.int .i64 0, .int .i64 0, .slice none 0 0, .slice none 0 0, .slice none 0 0]) (t := 47) ?hr ?_; (case hd => rfl); (case hg => rfl); (case hr => first | (go_simp; done) | (go_simp; rfl))
         intro gb436 hg w11 hbox hb
         replace HO429 := ak (Kd.R_below (rdl HO429) hb)
         have BK436 := ak (hbox)
         have GW436 := ak (hgl hg (belowg2 HB GE422 GE423))
         have GE436 := ak (hgl hg (belowg2 HB GE422 GE423))
         replace HB := ak (below_step (belowg2 HB GE422 GE423) hb)
         have NB422_436 := ak ((by rw [hg]; exact Nat.ne_of_lt (blk_lt (blkd BK422)) : gb422 ≠ gb436))
         have NB436_422 := ak ((by rw [hg]; exact Nat.ne_of_gt (blk_lt (blkd BK422)) : gb436 ≠ gb422))
         replace BK422 := ak (blk_below (blkd BK422) hb)
         have NB423_436 := ak ((by rw [hg]; exact Nat.ne_of_lt (blk_lt (blkd BK423)) : gb423 ≠ gb436))
         have NB436_423 := ak ((by rw [hg]; exact Nat.ne_of_gt (blk_lt (blkd BK423)) : gb436 ≠ gb423))
         replace BK423 := ak (blk_below (blkd BK423) hb)
         clear hb hbox hg
         refine hK.out _ _ ⟨bq BK422 0, bq BK422 1, bq BK422 2, bq BK422 3, bq BK422 4⟩ (fun hHeld => ?_)
         clear hK K
         refine norm_ (a' := ?_) ?_ ?_
         rotate_left
         ·show Act.put _ (some 3) _ = _
          simp only [Act.put, List.setIfInBounds_toArray, List.set_cons_zero, List.set_cons_succ, i64_w, i32_w]
          rfl
         exact norm_ (by first | (simp only [putAll, Act.put, List.setIfInBounds_toArray, List.set_cons_zero, List.set_cons_succ]; done) | (simp only [putAll, Act.put, List.setIfInBounds_toArray, List.set_cons_zero, List.set_cons_succ]; rfl)) (hJ4_7_13 (v425, v428, gb436) _ ⟨hHeld, (rdl HO429), (blkd BK422), (blkd BK423), (blkd BK436), GW436.out, GE436.out, NB422_436.out, NB436_422.out, NB423_436.out, NB436_423.out, (belowg3 HB GE422 GE423 GE436)⟩)
      ·skip
       rintro ⟨v425, v431, gb436⟩ w12 ⟨hS_, h0_, h1_, h2_, h3_, h4_, h5_, h6_, h7_, h8_, h9_, h10_, h11_⟩
       have n0_ : Aside0 (Kd.R (Kd.int .i64) 3 w12 w.heap.size (fun k_ => some k_ ≠ (v431 : Value).ownBlock) v425 y424) := ⟨h0_⟩
       have n1_ : Aside0 (Kd.R (Kd.int .i64) 3 w12 w.heap.size (fun k_ => some k_ ≠ (v425 : Value).ownBlock) v431 y430) := ⟨h1_⟩
       have n2_ : Aside0 (w12.heap[gb422]? = some (.cells #[.int .i64 a0_0, .int .i64 a0_1, .slice A0_2 l0_2.length c0_2, .slice A0_3 l0_3.length c0_3, .slice A0_4 l0_4.length c0_4] 47 (0, 0))) := ⟨h2_⟩
       have n3_ : Aside0 (w12.heap[gb423]? = some (.cells #[.int .i64 0, .int .i64 0, .slice none 0 0, .slice none 0 0, .slice none 0 0] 47 (0, 0))) := ⟨h3_⟩
       have n4_ : Aside0 (w12.heap[gb436]? = some (.cells #[.int .i64 0, .int .i64 0, .slice none 0 0, .slice none 0 0, .slice none 0 0] 47 (0, 0))) := ⟨h4_⟩
       have n5_ : Aside0 (w.heap.size ≤ gb436) := ⟨h5_⟩
       have n6_ : Aside0 (w.heap.size ≤ gb436) := ⟨h6_⟩
       have n7_ : Aside0 (gb422 ≠ gb436) := ⟨h7_⟩
       have n8_ : Aside0 (gb436 ≠ gb422) := ⟨h8_⟩
       have n9_ : Aside0 (gb423 ≠ gb436) := ⟨h9_⟩
       have n10_ : Aside0 (gb436 ≠ gb423) := ⟨h10_⟩
       have n11_ : Aside0 (Below w.heap.size w w12) := ⟨h11_⟩
       clear BK422; clear BK423; clear HB; clear h0_ h1_ h2_ h3_ h4_ h5_ h6_ h7_ h8_ h9_ h10_ h11_
       have HO426 := n0_
       have HO432 := n1_
       have BK422 := n2_
       have BK423 := n3_
       have BK436 := n4_
       have GW436 := n5_
       have GE436 := n6_
       have NB422_436 := n7_
       have NB436_422 := n8_
       have NB423_436 := n9_
       have NB436_423 := n10_
       have HB := n11_
       clear n0_ n1_ n2_ n3_ n4_ n5_ n6_ n7_ n8_ n9_ n10_ n11_
       have hHeld : w12.cell? ⟨gb422, 0, none⟩ = some (.int .i64 a0_0) ∧ w12.cell? ⟨gb422, 1, none⟩ = some (.int .i64 a0_1) ∧ w12.cell? ⟨gb422, 2, none⟩ = some (.slice A0_2 l0_2.length c0_2) ∧ w12.cell? ⟨gb422, 3, none⟩ = some (.slice A0_3 l0_3.length c0_3) ∧ w12.cell? ⟨gb422, 4, none⟩ = some (.slice A0_4 l0_4.length c0_4) := hS_
       refine norm_ (a' := ?_) ?_ ?_
       rotate_left
       ·simp only [putAll, Act.put, List.setIfInBounds_toArray, List.set_cons_zero, List.set_cons_succ]
        rfl
       refine oneA 7 (some 13) 15 10239 HT_ (fun K hK => ?_)
       refine Kd.R_append_rows_step (Kd.int .i64) (w0 := w) w.heap.size (by rfl) (.tmp 10) (.tmp 12) 23 3 (.int .i64 0) 8 rfl Try.underlying23 info3 rfl (by decide) (by omega) v425 y424 l0_3 _ _ _ (fun k_ => some k_ ≠ (v431 : Value).ownBlock) (fun _ => False) rfl rfl ?aO ?aR (fun _ _ h => h) (fun _ h => h.elim) ?aF ?aB ?aS ?aL ?_
       (case aR => exact cd (Kd.C_below HR0_3.out HB.out))
       (case aB => exact (belowg3 HB GE422 GE423 GE436))
       (case aF => exact (fun k_ hk => Kd.fresh' (Kd.R_lt (rdl HO432)) k_ hk))
       (case aO => exact (rdl HO426))
       (case aS => exact (below_size (belowg3 HB GE422 GE423 GE436)))
       (case aL => have := LMc2.out; omega)
       intro v428 w13 ho hb hg hat
       rw [← Ny427.out] at ho
       replace BK422 := ak (blk_grown (blkd BK422) hg (Kd.R_ne HO426.out BK422.out (by decide)))
       replace BK423 := ak (blk_grown (blkd BK423) hg (Kd.R_ne HO426.out BK423.out (by decide)))
       replace HO432 := ak (Kd.R_after (ok := (fun _ => True)) (by (with_reducible repeat (first | apply Kd.R_alloc | apply Kd.R_drewN | apply Kd.R_drew)); exact Kd.R_mono HO432.out (fun _ hk => ⟨trivial, hk⟩)) hg hat)
       replace BK436 := ak (blk_grown (blkd BK436) hg (Kd.R_ne HO426.out BK436.out (by decide)))
       replace HB := ak (hb)
       have HO429 := ak (ho); clear HO426; clear ho hb hg hat
       refine hK.out _ _ ⟨bq BK422 0, bq BK422 1, bq BK422 2, bq BK422 3, bq BK422 4⟩ (fun hHeld => ?_)
       clear hK K
       refine norm_ (a' := ?_) ?_ ?_
       rotate_left
       ·show Act.put _ (some 13) _ = _
        simp only [Act.put, List.setIfInBounds_toArray, List.set_cons_zero, List.set_cons_succ, i64_w, i32_w]
        rfl
       exact norm_ (by first | (simp only [putAll, Act.put, List.setIfInBounds_toArray, List.set_cons_zero, List.set_cons_succ]; done) | (simp only [putAll, Act.put, List.setIfInBounds_toArray, List.set_cons_zero, List.set_cons_succ]; rfl)) (hJ4_7_8_13 (v425, v428, v431, gb436) _ ⟨hHeld, (rdl HO429), (by (with_reducible repeat (first | apply Kd.R_alloc | apply Kd.R_drewN | apply Kd.R_drew)); exact Kd.R_mono HO432.out (fun _ hk => hk.2)), (blkd BK422), (blkd BK423), (blkd BK436), GW436.out, GE436.out, NB422_436.out, NB436_422.out, NB423_436.out, NB436_423.out, (belowg3 HB GE422 GE423 GE436)⟩)
     ·skip
      rintro ⟨v425, v428, gb436⟩ w11 ⟨hS_, h0_, h1_, h2_, h3_, h4_, h5_, h6_, h7_, h8_, h9_, h10_⟩
      have n0_ : Aside0 (Kd.R (Kd.int .i64) 3 w11 w.heap.size (fun _ => True) v428 y427) := ⟨h0_⟩
      have n1_ : Aside0 (w11.heap[gb422]? = some (.cells #[.int .i64 a0_0, .int .i64 a0_1, .slice A0_2 l0_2.length c0_2, .slice A0_3 l0_3.length c0_3, .slice A0_4 l0_4.length c0_4] 47 (0, 0))) := ⟨h1_⟩
      have n2_ : Aside0 (w11.heap[gb423]? = some (.cells #[.int .i64 0, .int .i64 0, .slice none 0 0, .slice none 0 0, .slice none 0 0] 47 (0, 0))) := ⟨h2_⟩
      have n3_ : Aside0 (w11.heap[gb436]? = some (.cells #[.int .i64 0, .int .i64 0, .slice none 0 0, .slice none 0 0, .slice none 0 0] 47 (0, 0))) := ⟨h3_⟩
      have n4_ : Aside0 (w.heap.size ≤ gb436) := ⟨h4_⟩
      have n5_ : Aside0 (w.heap.size ≤ gb436) := ⟨h5_⟩
      have n6_ : Aside0 (gb422 ≠ gb436) := ⟨h6_⟩
      have n7_ : Aside0 (gb436 ≠ gb422) := ⟨h7_⟩
      have n8_ : Aside0 (gb423 ≠ gb436) := ⟨h8_⟩
      have n9_ : Aside0 (gb436 ≠ gb423) := ⟨h9_⟩
      have n10_ : Aside0 (Below w.heap.size w w11) := ⟨h10_⟩
      clear BK422; clear BK423; clear HB; clear h0_ h1_ h2_ h3_ h4_ h5_ h6_ h7_ h8_ h9_ h10_
      have HO429 := n0_
      have BK422 := n1_
      have BK423 := n2_
      have BK436 := n3_
      have GW436 := n4_
      have GE436 := n5_
      have NB422_436 := n6_
      have NB436_422 := n7_
      have NB423_436 := n8_
      have NB436_423 := n9_
      have HB := n10_
      clear n0_ n1_ n2_ n3_ n4_ n5_ n6_ n7_ n8_ n9_ n10_
      have hHeld : w11.cell? ⟨gb422, 0, none⟩ = some (.int .i64 a0_0) ∧ w11.cell? ⟨gb422, 1, none⟩ = some (.int .i64 a0_1) ∧ w11.cell? ⟨gb422, 2, none⟩ = some (.slice A0_2 l0_2.length c0_2) ∧ w11.cell? ⟨gb422, 3, none⟩ = some (.slice A0_3 l0_3.length c0_3) ∧ w11.cell? ⟨gb422, 4, none⟩ = some (.slice A0_4 l0_4.length c0_4) := hS_
      refine norm_ (a' := ?_) ?_ ?_
      rotate_left
      ·simp only [putAll, Act.put, List.setIfInBounds_toArray, List.set_cons_zero, List.set_cons_succ]
       rfl
      refine oneA 8 (some 14) 15 10239 HT_ (fun K hK => ?_)
      refine Kd.R_lit_step (Kd.int .i64) _ 3 ?hg (N := 14) ?hd (xs := ([] : List Int)) (inner := []) (ok := fun _ => True) (okp := fun _ => True) ?hr ?hp (fun _ hk => hk) trivial (Below.refl _ _) (Nat.le_refl _) (by simp) ?_; (case hd => rfl); (case hg => rfl); (case hr => first | (go_simp; done) | (go_simp; rfl)); (case hp => exact (Reps.none _ _))
      intro v431 w12 ho13 hb hg_ hnew_
      clear hg_ hnew_
      (first | rw [← Ny430.out] at ho13 | (simp only [Int.reduceToNat] at ho13; rw [← Ny430.out] at ho13))
      have HO432 := ak (Kd.R_lower (Kd.R_new' ho13 (Kd.R_lt (rdl HO429))) (below_size (belowg3 HB GE422 GE423 GE436)))
      replace HO429 := ak (Kd.R_elder' (rdl HO429) (Kd.R_base ho13) hb)
      replace BK422 := ak (blk_below (blkd BK422) hb)
      replace BK423 := ak (blk_below (blkd BK423) hb)
      replace BK436 := ak (blk_below (blkd BK436) hb)
      replace HB := ak (below_step (belowg3 HB GE422 GE423 GE436) hb)
      clear hb ho13
      refine hK.out _ _ ⟨bq BK422 0, bq BK422 1, bq BK422 2, bq BK422 3, bq BK422 4⟩ (fun hHeld => ?_)
      clear hK K
      refine norm_ (a' := ?_) ?_ ?_
      rotate_left
      ·show Act.put _ (some 14) _ = _
       simp only [Act.put, List.setIfInBounds_toArray, List.set_cons_zero, List.set_cons_succ, i64_w, i32_w]
       rfl
      exact norm_ (by first | (simp only [putAll, Act.put, List.setIfInBounds_toArray, List.set_cons_zero, List.set_cons_succ]; done) | (simp only [putAll, Act.put, List.setIfInBounds_toArray, List.set_cons_zero, List.set_cons_succ]; rfl)) (hJ4_7_8_13 (v425, v428, v431, gb436) _ ⟨hHeld, (by (with_reducible repeat (first | apply Kd.R_alloc | apply Kd.R_drewN | apply Kd.R_drew)); exact Kd.R_mono HO429.out (fun _ hk => hk.2)), (by (with_reducible repeat (first | apply Kd.R_alloc | apply Kd.R_drewN | apply Kd.R_drew)); exact Kd.R_mono HO432.out (fun _ hk => hk.2)), (blkd BK422), (blkd BK423), (blkd BK436), GW436.out, GE436.out, NB422_436.out, NB436_422.out, NB423_436.out, NB436_423.out, (belowg3 HB GE422 GE423 GE436)⟩)
    ·skip
     rintro ⟨v425, v428, v431⟩ w12 ⟨hS_, h0_, h1_, h2_, h3_, h4_⟩
     have n0_ : Aside0 (Kd.R (Kd.int .i64) 3 w12 w.heap.size (fun k_ => some k_ ≠ (v431 : Value).ownBlock) v428 y427) := ⟨h0_⟩
     have n1_ : Aside0 (Kd.R (Kd.int .i64) 3 w12 w.heap.size (fun k_ => some k_ ≠ (v428 : Value).ownBlock) v431 y430) := ⟨h1_⟩
     have n2_ : Aside0 (w12.heap[gb422]? = some (.cells #[.int .i64 a0_0, .int .i64 a0_1, .slice A0_2 l0_2.length c0_2, .slice A0_3 l0_3.length c0_3, .slice A0_4 l0_4.length c0_4] 47 (0, 0))) := ⟨h2_⟩
     have n3_ : Aside0 (w12.heap[gb423]? = some (.cells #[.int .i64 0, .int .i64 0, .slice none 0 0, .slice none 0 0, .slice none 0 0] 47 (0, 0))) := ⟨h3_⟩
     have n4_ : Aside0 (Below w.heap.size w w12) := ⟨h4_⟩
     clear BK422; clear BK423; clear HB; clear h0_ h1_ h2_ h3_ h4_
     have HO429 := n0_
     have HO432 := n1_
     have BK422 := n2_
     have BK423 := n3_
     have HB := n4_
     clear n0_ n1_ n2_ n3_ n4_
     have hHeld : w12.cell? ⟨gb422, 0, none⟩ = some (.int .i64 a0_0) ∧ w12.cell? ⟨gb422, 1, none⟩ = some (.int .i64 a0_1) ∧ w12.cell? ⟨gb422, 2, none⟩ = some (.slice A0_2 l0_2.length c0_2) ∧ w12.cell? ⟨gb422, 3, none⟩ = some (.slice A0_3 l0_3.length c0_3) ∧ w12.cell? ⟨gb422, 4, none⟩ = some (.slice A0_4 l0_4.length c0_4) := hS_
     refine norm_ (a' := ?_) ?_ ?_
     rotate_left
     ·simp only [putAll, Act.put, List.setIfInBounds_toArray, List.set_cons_zero, List.set_cons_succ]
      rfl
     refine two_ (i := 11) (j := 13) (Ni := some 17) (Nj := some 3) (bl 15 4095) (bl 15 10239) rfl rfl rfl rfl (two_of HT_.out (by kernel_rfl)) (by decide) (by decide) (fun K hK => ?_) (fun K hK => ?_)
     ·skip
      refine Kd.R_append_rows_step (Kd.int .i64) (w0 := w) w.heap.size (by rfl) (.tmp 14) (.tmp 16) 23 3 (.int .i64 0) 8 rfl Try.underlying23 info3 rfl (by decide) (by omega) v431 y430 l0_4 _ _ _ (fun k_ => some k_ ≠ (v428 : Value).ownBlock) (fun _ => False) rfl rfl ?aO ?aR (fun _ _ h => h) (fun _ h => h.elim) ?aF ?aB ?aS ?aL ?_
      (case aR => exact cd (Kd.C_below HR0_4.out HB.out))
      (case aB => exact (belowg2 HB GE422 GE423))
      (case aF => exact (fun k_ hk => Kd.fresh' (Kd.R_lt (rdl HO429)) k_ hk))
      (case aO => exact (rdl HO432))
      (case aS => exact (below_size (belowg2 HB GE422 GE423)))
      (case aL => have := LMc3.out; omega)
      intro v434 w13 ho hb hg hat
      rw [← Ny433.out] at ho
      replace BK422 := ak (blk_grown (blkd BK422) hg (Kd.R_ne HO432.out BK422.out (by decide)))
      replace BK423 := ak (blk_grown (blkd BK423) hg (Kd.R_ne HO432.out BK423.out (by decide)))
      replace HO429 := ak (Kd.R_after (ok := (fun _ => True)) (by (with_reducible repeat (first | apply Kd.R_alloc | apply Kd.R_drewN | apply Kd.R_drew)); exact Kd.R_mono HO429.out (fun _ hk => ⟨trivial, hk⟩)) hg hat)
      replace HB := ak (hb)
      have HO435 := ak (ho); clear HO432; clear ho hb hg hat
      obtain ⟨Ao14, co14, eo14⟩ := Kd.R_slice HO435.out
      (first | subst eo14 | (injection eo14 with f1_ f2_ f3_; have f4_ := f1_.symm; have f5_ := f3_.symm; clear f1_ f2_ f3_; subst f4_; subst f5_))
      obtain ⟨Ao15, co15, eo15⟩ := Kd.R_slice HO429.out
      (first | subst eo15 | (injection eo15 with f1_ f2_ f3_; have f4_ := f1_.symm; have f5_ := f3_.symm; clear f1_ f2_ f3_; subst f4_; subst f5_))
      refine hK.out _ _ ⟨bq BK422 0, bq BK422 1, bq BK422 2, bq BK422 3, bq BK422 4⟩ (fun hHeld => ?_)
      clear hK K
      refine norm_ (a' := ?_) ?_ ?_
      rotate_left
      ·show Act.put _ (some 17) _ = _
       simp only [Act.put, List.setIfInBounds_toArray, List.set_cons_zero, List.set_cons_succ, i64_w, i32_w]
       rfl
      refine pureA 12 (some 18) 15 8191 HT_ ?_
      exact norm_ (by first | (simp only [putAll, Act.put, List.setIfInBounds_toArray, List.set_cons_zero, List.set_cons_succ]; done) | (simp only [putAll, Act.put, List.setIfInBounds_toArray, List.set_cons_zero, List.set_cons_succ]; rfl)) (hJ4_7_8_11 (v425, .slice Ao15 y427.length co15, v431, .slice Ao14 y433.length co14) _ ⟨hHeld, (by (with_reducible repeat (first | apply Kd.R_alloc | apply Kd.R_drewN | apply Kd.R_drew)); exact Kd.R_mono HO429.out (fun _ hk => hk.2)), (rdl HO435), (blkd BK422), (blkd BK423), (belowg2 HB GE422 GE423)⟩)
     ·skip
      refine box_step ?hg (N := 3) ?hd (cs := #[.int .i64 0, .int .i64 0, .slice none 0 0, .slice none 0 0, .slice none 0 0]) (t := 47) ?hr ?_; (case hd => rfl); (case hg => rfl); (case hr => first | (go_simp; done) | (go_simp; rfl))
      intro gb436 hg w13 hbox hb
      replace HO429 := ak (Kd.R_below (rdl HO429) hb)
      replace HO432 := ak (Kd.R_below (rdl HO432) hb)
      have BK436 := ak (hbox)
      have GW436 := ak (hgl hg (belowg2 HB GE422 GE423))
      have GE436 := ak (hgl hg (belowg2 HB GE422 GE423))
      replace HB := ak (below_step (belowg2 HB GE422 GE423) hb)
      have NB422_436 := ak ((by rw [hg]; exact Nat.ne_of_lt (blk_lt (blkd BK422)) : gb422 ≠ gb436))
      have NB436_422 := ak ((by rw [hg]; exact Nat.ne_of_gt (blk_lt (blkd BK422)) : gb436 ≠ gb422))
      replace BK422 := ak (blk_below (blkd BK422) hb)
      have NB423_436 := ak ((by rw [hg]; exact Nat.ne_of_lt (blk_lt (blkd BK423)) : gb423 ≠ gb436))
      have NB436_423 := ak ((by rw [hg]; exact Nat.ne_of_gt (blk_lt (blkd BK423)) : gb436 ≠ gb423))
      replace BK423 := ak (blk_below (blkd BK423) hb)
      clear hb hbox hg
      refine hK.out _ _ ⟨bq BK422 0, bq BK422 1, bq BK422 2, bq BK422 3, bq BK422 4⟩ (fun hHeld => ?_)
      clear hK K
      refine norm_ (a' := ?_) ?_ ?_
      rotate_left
      ·show Act.put _ (some 3) _ = _
       simp only [Act.put, List.setIfInBounds_toArray, List.set_cons_zero, List.set_cons_succ, i64_w, i32_w]
       rfl
      exact norm_ (by first | (simp only [putAll, Act.put, List.setIfInBounds_toArray, List.set_cons_zero, List.set_cons_succ]; done) | (simp only [putAll, Act.put, List.setIfInBounds_toArray, List.set_cons_zero, List.set_cons_succ]; rfl)) (hJ4_7_8_13 (v425, v428, v431, gb436) _ ⟨hHeld, (rdl HO429), (rdl HO432), (blkd BK422), (blkd BK423), (blkd BK436), GW436.out, GE436.out, NB422_436.out, NB436_422.out, NB423_436.out, NB436_423.out, (belowg3 HB GE422 GE423 GE436)⟩)
   ·skip
    rintro ⟨v425, v428, v431, gb436⟩ w13 ⟨hS_, h0_, h1_, h2_, h3_, h4_, h5_, h6_, h7_, h8_, h9_, h10_, h11_⟩
    have n0_ : Aside0 (Kd.R (Kd.int .i64) 3 w13 w.heap.size (fun k_ => some k_ ≠ (v431 : Value).ownBlock) v428 y427) := ⟨h0_⟩
    have n1_ : Aside0 (Kd.R (Kd.int .i64) 3 w13 w.heap.size (fun k_ => some k_ ≠ (v428 : Value).ownBlock) v431 y430) := ⟨h1_⟩
    have n2_ : Aside0 (w13.heap[gb422]? = some (.cells #[.int .i64 a0_0, .int .i64 a0_1, .slice A0_2 l0_2.length c0_2, .slice A0_3 l0_3.length c0_3, .slice A0_4 l0_4.length c0_4] 47 (0, 0))) := ⟨h2_⟩
    have n3_ : Aside0 (w13.heap[gb423]? = some (.cells #[.int .i64 0, .int .i64 0, .slice none 0 0, .slice none 0 0, .slice none 0 0] 47 (0, 0))) := ⟨h3_⟩
    have n4_ : Aside0 (w13.heap[gb436]? = some (.cells #[.int .i64 0, .int .i64 0, .slice none 0 0, .slice none 0 0, .slice none 0 0] 47 (0, 0))) := ⟨h4_⟩
    have n5_ : Aside0 (w.heap.size ≤ gb436) := ⟨h5_⟩
    have n6_ : Aside0 (w.heap.size ≤ gb436) := ⟨h6_⟩
    have n7_ : Aside0 (gb422 ≠ gb436) := ⟨h7_⟩
    have n8_ : Aside0 (gb436 ≠ gb422) := ⟨h8_⟩
    have n9_ : Aside0 (gb423 ≠ gb436) := ⟨h9_⟩
    have n10_ : Aside0 (gb436 ≠ gb423) := ⟨h10_⟩
    have n11_ : Aside0 (Below w.heap.size w w13) := ⟨h11_⟩
    clear BK422; clear BK423; clear HB; clear h0_ h1_ h2_ h3_ h4_ h5_ h6_ h7_ h8_ h9_ h10_ h11_
    have HO429 := n0_
    have HO432 := n1_
    have BK422 := n2_
    have BK423 := n3_
    have BK436 := n4_
    have GW436 := n5_
    have GE436 := n6_
    have NB422_436 := n7_
    have NB436_422 := n8_
    have NB423_436 := n9_
    have NB436_423 := n10_
    have HB := n11_
    clear n0_ n1_ n2_ n3_ n4_ n5_ n6_ n7_ n8_ n9_ n10_ n11_
    have hHeld : w13.cell? ⟨gb422, 0, none⟩ = some (.int .i64 a0_0) ∧ w13.cell? ⟨gb422, 1, none⟩ = some (.int .i64 a0_1) ∧ w13.cell? ⟨gb422, 2, none⟩ = some (.slice A0_2 l0_2.length c0_2) ∧ w13.cell? ⟨gb422, 3, none⟩ = some (.slice A0_3 l0_3.length c0_3) ∧ w13.cell? ⟨gb422, 4, none⟩ = some (.slice A0_4 l0_4.length c0_4) := hS_
    refine norm_ (a' := ?_) ?_ ?_
    rotate_left
    ·simp only [putAll, Act.put, List.setIfInBounds_toArray, List.set_cons_zero, List.set_cons_succ]
     rfl
    refine oneA 11 (some 17) 15 12287 HT_ (fun K hK => ?_)
    refine Kd.R_append_rows_step (Kd.int .i64) (w0 := w) w.heap.size (by rfl) (.tmp 14) (.tmp 16) 23 3 (.int .i64 0) 8 rfl Try.underlying23 info3 rfl (by decide) (by omega) v431 y430 l0_4 _ _ _ (fun k_ => some k_ ≠ (v428 : Value).ownBlock) (fun _ => False) rfl rfl ?aO ?aR (fun _ _ h => h) (fun _ h => h.elim) ?aF ?aB ?aS ?aL ?_
    (case aR => exact cd (Kd.C_below HR0_4.out HB.out))
    (case aB => exact (belowg3 HB GE422 GE423 GE436))
    (case aF => exact (fun k_ hk => Kd.fresh' (Kd.R_lt (rdl HO429)) k_ hk))
    (case aO => exact (rdl HO432))
    (case aS => exact (below_size (belowg3 HB GE422 GE423 GE436)))
    (case aL => have := LMc3.out; omega)
    intro v434 w14 ho hb hg hat
    rw [← Ny433.out] at ho
    replace BK422 := ak (blk_grown (blkd BK422) hg (Kd.R_ne HO432.out BK422.out (by decide)))
    replace BK423 := ak (blk_grown (blkd BK423) hg (Kd.R_ne HO432.out BK423.out (by decide)))
    replace HO429 := ak (Kd.R_after (ok := (fun _ => True)) (by (with_reducible repeat (first | apply Kd.R_alloc | apply Kd.R_drewN | apply Kd.R_drew)); exact Kd.R_mono HO429.out (fun _ hk => ⟨trivial, hk⟩)) hg hat)
    replace BK436 := ak (blk_grown (blkd BK436) hg (Kd.R_ne HO432.out BK436.out (by decide)))
    replace HB := ak (hb)
    have HO435 := ak (ho); clear HO432; clear ho hb hg hat
    obtain ⟨Ao15, co15, eo15⟩ := Kd.R_slice HO435.out
    (first | subst eo15 | (injection eo15 with f1_ f2_ f3_; have f4_ := f1_.symm; have f5_ := f3_.symm; clear f1_ f2_ f3_; subst f4_; subst f5_))
    obtain ⟨Ao16, co16, eo16⟩ := Kd.R_slice HO429.out
    (first | subst eo16 | (injection eo16 with f1_ f2_ f3_; have f4_ := f1_.symm; have f5_ := f3_.symm; clear f1_ f2_ f3_; subst f4_; subst f5_))
    refine hK.out _ _ ⟨bq BK422 0, bq BK422 1, bq BK422 2, bq BK422 3, bq BK422 4⟩ (fun hHeld => ?_)
    clear hK K
    refine norm_ (a' := ?_) ?_ ?_
    rotate_left
    ·show Act.put _ (some 17) _ = _
     simp only [Act.put, List.setIfInBounds_toArray, List.set_cons_zero, List.set_cons_succ, i64_w, i32_w]
     rfl
    refine pureA 12 (some 18) 15 16383 HT_ ?_
    exact norm_ (by first | (simp only [putAll, Act.put, List.setIfInBounds_toArray, List.set_cons_zero, List.set_cons_succ]; done) | (simp only [putAll, Act.put, List.setIfInBounds_toArray, List.set_cons_zero, List.set_cons_succ]; rfl)) (hJ4_7_8_11_13 (v425, .slice Ao16 y427.length co16, v431, .slice Ao15 y433.length co15, gb436) _ ⟨hHeld, (by (with_reducible repeat (first | apply Kd.R_alloc | apply Kd.R_drewN | apply Kd.R_drew)); exact Kd.R_mono HO429.out (fun _ hk => hk.2)), (rdl HO435), (blkd BK422), (blkd BK423), (blkd BK436), GW436.out, GE436.out, NB422_436.out, NB436_422.out, NB423_436.out, NB436_423.out, (belowg3 HB GE422 GE423 GE436)⟩)
  ·skip
   rintro ⟨v425, v428, v431, v434⟩ w15 ⟨hS_, h0_, h1_, h2_, h3_, h4_⟩
   have n0_ : Aside0 (Kd.R (Kd.int .i64) 3 w15 w.heap.size (fun k_ => some k_ ≠ (v434 : Value).ownBlock) v428 y427) := ⟨h0_⟩
   have n1_ : Aside0 (Kd.R (Kd.int .i64) 3 w15 w.heap.size (fun k_ => some k_ ≠ (v428 : Value).ownBlock) v434 y433) := ⟨h1_⟩
   have n2_ : Aside0 (w15.heap[gb422]? = some (.cells #[.int .i64 a0_0, .int .i64 a0_1, .slice A0_2 l0_2.length c0_2, .slice A0_3 l0_3.length c0_3, .slice A0_4 l0_4.length c0_4] 47 (0, 0))) := ⟨h2_⟩
   have n3_ : Aside0 (w15.heap[gb423]? = some (.cells #[.int .i64 0, .int .i64 0, .slice none 0 0, .slice none 0 0, .slice none 0 0] 47 (0, 0))) := ⟨h3_⟩
   have n4_ : Aside0 (Below w.heap.size w w15) := ⟨h4_⟩
   clear BK422; clear BK423; clear HB; clear h0_ h1_ h2_ h3_ h4_
   have HO429 := n0_
   have HO435 := n1_
   have BK422 := n2_
   have BK423 := n3_
   have HB := n4_
   clear n0_ n1_ n2_ n3_ n4_
   have hHeld : w15.cell? ⟨gb422, 0, none⟩ = some (.int .i64 a0_0) ∧ w15.cell? ⟨gb422, 1, none⟩ = some (.int .i64 a0_1) ∧ w15.cell? ⟨gb422, 2, none⟩ = some (.slice A0_2 l0_2.length c0_2) ∧ w15.cell? ⟨gb422, 3, none⟩ = some (.slice A0_3 l0_3.length c0_3) ∧ w15.cell? ⟨gb422, 4, none⟩ = some (.slice A0_4 l0_4.length c0_4) := hS_
   obtain ⟨Ao16, co16, eo16⟩ := Kd.R_slice HO435.out
   (first | subst eo16 | (injection eo16 with f1_ f2_ f3_; have f4_ := f1_.symm; have f5_ := f3_.symm; clear f1_ f2_ f3_; subst f4_; subst f5_))
   obtain ⟨Ao17, co17, eo17⟩ := Kd.R_slice HO429.out
   (first | subst eo17 | (injection eo17 with f1_ f2_ f3_; have f4_ := f1_.symm; have f5_ := f3_.symm; clear f1_ f2_ f3_; subst f4_; subst f5_))
   refine norm_ (a' := ?_) ?_ ?_
   rotate_left
   ·simp only [putAll, Act.put, List.setIfInBounds_toArray, List.set_cons_zero, List.set_cons_succ]
    rfl
   refine oneA 13 (some 3) 15 16383 HT_ (fun K hK => ?_)
   refine box_step ?hg (N := 3) ?hd (cs := #[.int .i64 0, .int .i64 0, .slice none 0 0, .slice none 0 0, .slice none 0 0]) (t := 47) ?hr ?_; (case hd => rfl); (case hg => rfl); (case hr => first | (go_simp; done) | (go_simp; rfl))
   intro gb436 hg w18 hbox hb
   replace HO429 := ak (Kd.R_below (rdl HO429) hb)
   replace HO435 := ak (Kd.R_below (rdl HO435) hb)
   have BK436 := ak (hbox)
   have GW436 := ak (hgl hg (belowg2 HB GE422 GE423))
   have GE436 := ak (hgl hg (belowg2 HB GE422 GE423))
   replace HB := ak (below_step (belowg2 HB GE422 GE423) hb)
   have NB422_436 := ak ((by rw [hg]; exact Nat.ne_of_lt (blk_lt (blkd BK422)) : gb422 ≠ gb436))
   have NB436_422 := ak ((by rw [hg]; exact Nat.ne_of_gt (blk_lt (blkd BK422)) : gb436 ≠ gb422))
   replace BK422 := ak (blk_below (blkd BK422) hb)
   have NB423_436 := ak ((by rw [hg]; exact Nat.ne_of_lt (blk_lt (blkd BK423)) : gb423 ≠ gb436))
   have NB436_423 := ak ((by rw [hg]; exact Nat.ne_of_gt (blk_lt (blkd BK423)) : gb436 ≠ gb423))
   replace BK423 := ak (blk_below (blkd BK423) hb)
   clear hb hbox hg
   refine hK.out _ _ ⟨bq BK422 0, bq BK422 1, bq BK422 2, bq BK422 3, bq BK422 4⟩ (fun hHeld => ?_)
   clear hK K
   refine norm_ (a' := ?_) ?_ ?_
   rotate_left
   ·show Act.put _ (some 3) _ = _
    simp only [Act.put, List.setIfInBounds_toArray, List.set_cons_zero, List.set_cons_succ, i64_w, i32_w]
    rfl
   exact norm_ (by first | (simp only [putAll, Act.put, List.setIfInBounds_toArray, List.set_cons_zero, List.set_cons_succ]; done) | (simp only [putAll, Act.put, List.setIfInBounds_toArray, List.set_cons_zero, List.set_cons_succ]; rfl)) (hJ4_7_8_11_13 (v425, .slice Ao17 y427.length co17, v431, .slice Ao16 y433.length co16, gb436) _ ⟨hHeld, (rdl HO429), (rdl HO435), (blkd BK422), (blkd BK423), (blkd BK436), GW436.out, GE436.out, NB422_436.out, NB436_422.out, NB423_436.out, NB436_423.out, (belowg3 HB GE422 GE423 GE436)⟩)
 rintro ⟨v425, v428, v431, v434, gb436⟩ w16 ⟨hS_, h0_, h1_, h2_, h3_, h4_, h5_, h6_, h7_, h8_, h9_, h10_, h11_⟩
 have n0_ : Aside0 (Kd.R (Kd.int .i64) 3 w16 w.heap.size (fun k_ => some k_ ≠ (v434 : Value).ownBlock) v428 y427) := ⟨h0_⟩
 have n1_ : Aside0 (Kd.R (Kd.int .i64) 3 w16 w.heap.size (fun k_ => some k_ ≠ (v428 : Value).ownBlock) v434 y433) := ⟨h1_⟩
 have n2_ : Aside0 (w16.heap[gb422]? = some (.cells #[.int .i64 a0_0, .int .i64 a0_1, .slice A0_2 l0_2.length c0_2, .slice A0_3 l0_3.length c0_3, .slice A0_4 l0_4.length c0_4] 47 (0, 0))) := ⟨h2_⟩
 have n3_ : Aside0 (w16.heap[gb423]? = some (.cells #[.int .i64 0, .int .i64 0, .slice none 0 0, .slice none 0 0, .slice none 0 0] 47 (0, 0))) := ⟨h3_⟩
 have n4_ : Aside0 (w16.heap[gb436]? = some (.cells #[.int .i64 0, .int .i64 0, .slice none 0 0, .slice none 0 0, .slice none 0 0] 47 (0, 0))) := ⟨h4_⟩
 have n5_ : Aside0 (w.heap.size ≤ gb436) := ⟨h5_⟩
 have n6_ : Aside0 (w.heap.size ≤ gb436) := ⟨h6_⟩
 have n7_ : Aside0 (gb422 ≠ gb436) := ⟨h7_⟩
 have n8_ : Aside0 (gb436 ≠ gb422) := ⟨h8_⟩
 have n9_ : Aside0 (gb423 ≠ gb436) := ⟨h9_⟩
 have n10_ : Aside0 (gb436 ≠ gb423) := ⟨h10_⟩
 have n11_ : Aside0 (Below w.heap.size w w16) := ⟨h11_⟩
 clear BK422; clear BK423; clear HB; clear h0_ h1_ h2_ h3_ h4_ h5_ h6_ h7_ h8_ h9_ h10_ h11_
 have HO429 := n0_
 have HO435 := n1_
 have BK422 := n2_
 have BK423 := n3_
 have BK436 := n4_
 have GW436 := n5_
 have GE436 := n6_
 have NB422_436 := n7_
 have NB436_422 := n8_
 have NB423_436 := n9_
 have NB436_423 := n10_
 have HB := n11_
 clear n0_ n1_ n2_ n3_ n4_ n5_ n6_ n7_ n8_ n9_ n10_ n11_
 have hHeld : w16.cell? ⟨gb422, 0, none⟩ = some (.int .i64 a0_0) ∧ w16.cell? ⟨gb422, 1, none⟩ = some (.int .i64 a0_1) ∧ w16.cell? ⟨gb422, 2, none⟩ = some (.slice A0_2 l0_2.length c0_2) ∧ w16.cell? ⟨gb422, 3, none⟩ = some (.slice A0_3 l0_3.length c0_3) ∧ w16.cell? ⟨gb422, 4, none⟩ = some (.slice A0_4 l0_4.length c0_4) := hS_
 obtain ⟨Ao17, co17, eo17⟩ := Kd.R_slice HO435.out
 (first | subst eo17 | (injection eo17 with f1_ f2_ f3_; have f4_ := f1_.symm; have f5_ := f3_.symm; clear f1_ f2_ f3_; subst f4_; subst f5_))
 obtain ⟨Ao18, co18, eo18⟩ := Kd.R_slice HO429.out
 (first | subst eo18 | (injection eo18 with f1_ f2_ f3_; have f4_ := f1_.symm; have f5_ := f3_.symm; clear f1_ f2_ f3_; subst f4_; subst f5_))
 refine norm_ (a' := ?_) ?_ ?_
 rotate_left
 ·simp only [putAll, Act.put, List.setIfInBounds_toArray, List.set_cons_zero, List.set_cons_succ]
  rfl
 refine oneA 14 none 15 32767 HT_ (fun K hK => ?_)
 have hs19 : w16.cell? ⟨gb436, 0, none⟩ = some (.int .i64 0) := bq BK436 0
 have hfs19 := blk_frozen BK436.out 0
 have hns19_0 := NB422_436.out; have hns19_1 := NB423_436.out; have hms19_0 := NB436_422.out; have hms19_1 := NB436_423.out
 have hs20 : w16.cell? ⟨gb436, 1, none⟩ = some (.int .i64 0) := bq BK436 1
 have hfs20 := blk_frozen BK436.out 1
 have hns20_0 := NB422_436.out; have hns20_1 := NB423_436.out; have hms20_0 := NB436_422.out; have hms20_1 := NB436_423.out
 have hs21 : w16.cell? ⟨gb436, 2, none⟩ = some (.slice none 0 0) := bq BK436 2
 have hfs21 := blk_frozen BK436.out 2
 have hns21_0 := NB422_436.out; have hns21_1 := NB423_436.out; have hms21_0 := NB436_422.out; have hms21_1 := NB436_423.out
 have hs22 : w16.cell? ⟨gb436, 3, none⟩ = some (.slice none 0 0) := bq BK436 3
 have hfs22 := blk_frozen BK436.out 3
 have hns22_0 := NB422_436.out; have hns22_1 := NB423_436.out; have hms22_0 := NB436_422.out; have hms22_1 := NB436_423.out
 have hs23 : w16.cell? ⟨gb436, 4, none⟩ = some (.slice none 0 0) := bq BK436 4
 have hfs23 := blk_frozen BK436.out 4
 have hns23_0 := NB422_436.out; have hns23_1 := NB423_436.out; have hms23_0 := NB436_422.out; have hms23_1 := NB436_423.out
 refine skip_ (w1 := ?_) (by rfl) rfl ?_ ?_
 rotate_left
 ·go_simp
  rfl
 refine hK.out _ _ ⟨((cell_far (p := ⟨gb436, _, none⟩) NB422_436.out _).trans (((cell_far (p := ⟨gb436, _, none⟩) NB422_436.out _).trans (((cell_far (p := ⟨gb436, _, none⟩) NB422_436.out _).trans (((cell_far (p := ⟨gb436, _, none⟩) NB422_436.out _).trans (((cell_far (p := ⟨gb436, _, none⟩) NB422_436.out _).trans (hHeld.1)))))))))), ((cell_far (p := ⟨gb436, _, none⟩) NB422_436.out _).trans (((cell_far (p := ⟨gb436, _, none⟩) NB422_436.out _).trans (((cell_far (p := ⟨gb436, _, none⟩) NB422_436.out _).trans (((cell_far (p := ⟨gb436, _, none⟩) NB422_436.out _).trans (((cell_far (p := ⟨gb436, _, none⟩) NB422_436.out _).trans (hHeld.2.1)))))))))), ((cell_far (p := ⟨gb436, _, none⟩) NB422_436.out _).trans (((cell_far (p := ⟨gb436, _, none⟩) NB422_436.out _).trans (((cell_far (p := ⟨gb436, _, none⟩) NB422_436.out _).trans (((cell_far (p := ⟨gb436, _, none⟩) NB422_436.out _).trans (((cell_far (p := ⟨gb436, _, none⟩) NB422_436.out _).trans (hHeld.2.2.1)))))))))), ((cell_far (p := ⟨gb436, _, none⟩) NB422_436.out _).trans (((cell_far (p := ⟨gb436, _, none⟩) NB422_436.out _).trans (((cell_far (p := ⟨gb436, _, none⟩) NB422_436.out _).trans (((cell_far (p := ⟨gb436, _, none⟩) NB422_436.out _).trans (((cell_far (p := ⟨gb436, _, none⟩) NB422_436.out _).trans (hHeld.2.2.2.1)))))))))), ((cell_far (p := ⟨gb436, _, none⟩) NB422_436.out _).trans (((cell_far (p := ⟨gb436, _, none⟩) NB422_436.out _).trans (((cell_far (p := ⟨gb436, _, none⟩) NB422_436.out _).trans (((cell_far (p := ⟨gb436, _, none⟩) NB422_436.out _).trans (((cell_far (p := ⟨gb436, _, none⟩) NB422_436.out _).trans (hHeld.2.2.2.2))))))))))⟩ (fun hHeld => ?_)
 clear hK K
 refine done_ (done_of HT_.out (by kernel_rfl)) ?_
 have hnb24 := NB422_423.out; have hnc24 := NB423_422.out; have hnb25 := NB422_436.out; have hnc25 := NB436_422.out; obtain ⟨hcz26_0, hcz26_1, hcz26_2, hcz26_3, hcz26_4, hfz26_0, hfz26_1, hfz26_2, hfz26_3, hfz26_4⟩ := box5 BK422
 try go_wp2
 go_loopg [22] k (fun kq v22 w' => ∃ (x22_1 : Int) (x437002_1 : List (List Int)) (u437002 : Value), v22 = .int .i64 x22_1 ∧ Aside0 (spec_l13Own.l0 kq y427 y433 l0_2 (l0_2.length : Int) x22_1 a0_0 a0_1 x437002_1 = some (r1, r2, r3, r4, r5)) ∧ Aside0 (kq ≤ k) ∧ Aside0 (Kd.R (Kd.int .i64) 3 w' w.heap.size (fun k_ => some k_ ≠ ((.slice Ao17 y433.length co17) : Value).ownBlock) (.slice Ao18 y427.length co18) y427) ∧ Aside0 (Kd.R (Kd.int .i64) 3 w' w.heap.size (fun k_ => some k_ ≠ ((.slice Ao18 y427.length co18) : Value).ownBlock) (.slice Ao17 y433.length co17) y433) ∧ Aside0 (Kd.S (Kd.slice 3 (Kd.int .i64)) 23 w' w.heap.size (fun k_ => some k_ ≠ ((.slice Ao18 y427.length co18) : Value).ownBlock ∧ some k_ ≠ ((.slice Ao17 y433.length co17) : Value).ownBlock) u437002 x437002_1) ∧ Aside0 (w'.heap[gb422]? = some (.cells #[.int .i64 a0_0, .int .i64 a0_1, (.slice A0_2 l0_2.length c0_2), (.slice A0_3 l0_3.length c0_3), (.slice A0_4 l0_4.length c0_4)] 47 (0, 0))) ∧ Aside0 (w'.heap[gb423]? = some (.cells #[.int .i64 0, .int .i64 0, (.slice none 0 0), (.slice none 0 0), (.slice none 0 0)] 47 (0, 0))) ∧ Aside0 (w'.heap[gb436]? = some (.cells #[.int .i64 a0_0, .int .i64 a0_1, u437002, (.slice Ao18 y427.length co18), (.slice Ao17 y433.length co17)] 47 (0, 0))) ∧ Aside0 (Below w.heap.size w w'))
 case atStart => exact ⟨(0), (([] : List (List Int))), (.slice none 0 0), er, H', ⟨Nat.le_refl _⟩, ⟨by (with_reducible repeat (first | apply Kd.R_alloc | apply Kd.R_drewN | apply Kd.R_drew)); exact Kd.R_mono (farsR (Kd.R_types HO429.out BK436.out (by decide))) (fun _ hk => hk.1)⟩, ⟨by (with_reducible repeat (first | apply Kd.R_alloc | apply Kd.R_drewN | apply Kd.R_drew)); exact Kd.R_mono (farsR (Kd.R_types HO435.out BK436.out (by decide))) (fun _ hk => hk.1)⟩, ⟨by first | exact Kd.S_nil _ _ _ _ _ | exact Kd.N_nil _ _ _ _ _ | exact Kd.V_nil _ _ _ _ _ | exact Kd.Q_nil _ _ _ _ _ | exact Kd.R_nil _ _ _ _ _⟩, ⟨by (with_reducible repeat (first | refine blk_drewN ?_ _ | refine blk_drew ?_ | refine blk_alloc ?_ _)); refine blk_far ?_ NB422_436.out _; (with_reducible repeat (first | refine blk_drewN ?_ _ | refine blk_drew ?_ | refine blk_alloc ?_ _)); refine blk_far ?_ NB422_436.out _; (with_reducible repeat (first | refine blk_drewN ?_ _ | refine blk_drew ?_ | refine blk_alloc ?_ _)); refine blk_far ?_ NB422_436.out _; (with_reducible repeat (first | refine blk_drewN ?_ _ | refine blk_drew ?_ | refine blk_alloc ?_ _)); refine blk_far ?_ NB422_436.out _; (with_reducible repeat (first | refine blk_drewN ?_ _ | refine blk_drew ?_ | refine blk_alloc ?_ _)); refine blk_far ?_ NB422_436.out _; (with_reducible repeat (first | refine blk_drewN ?_ _ | refine blk_drew ?_ | refine blk_alloc ?_ _)); exact BK422.out⟩, ⟨by (with_reducible repeat (first | refine blk_drewN ?_ _ | refine blk_drew ?_ | refine blk_alloc ?_ _)); refine blk_far ?_ NB423_436.out _; (with_reducible repeat (first | refine blk_drewN ?_ _ | refine blk_drew ?_ | refine blk_alloc ?_ _)); refine blk_far ?_ NB423_436.out _; (with_reducible repeat (first | refine blk_drewN ?_ _ | refine blk_drew ?_ | refine blk_alloc ?_ _)); refine blk_far ?_ NB423_436.out _; (with_reducible repeat (first | refine blk_drewN ?_ _ | refine blk_drew ?_ | refine blk_alloc ?_ _)); refine blk_far ?_ NB423_436.out _; (with_reducible repeat (first | refine blk_drewN ?_ _ | refine blk_drew ?_ | refine blk_alloc ?_ _)); refine blk_far ?_ NB423_436.out _; (with_reducible repeat (first | refine blk_drewN ?_ _ | refine blk_drew ?_ | refine blk_alloc ?_ _)); exact BK423.out⟩, ⟨by (with_reducible repeat (first | refine blk_drewN ?_ _ | refine blk_drew ?_ | refine blk_alloc ?_ _)); refine blk_put (cs := #[.int .i64 a0_0, .int .i64 a0_1, .slice none 0 0, .slice Ao18 y427.length co18, .slice none 0 0]) ?_ 4 _ rfl; (with_reducible repeat (first | refine blk_drewN ?_ _ | refine blk_drew ?_ | refine blk_alloc ?_ _)); refine blk_put (cs := #[.int .i64 a0_0, .int .i64 a0_1, .slice none 0 0, .slice none 0 0, .slice none 0 0]) ?_ 3 _ rfl; (with_reducible repeat (first | refine blk_drewN ?_ _ | refine blk_drew ?_ | refine blk_alloc ?_ _)); refine blk_put (cs := #[.int .i64 a0_0, .int .i64 a0_1, .slice none 0 0, .slice none 0 0, .slice none 0 0]) ?_ 2 _ rfl; (with_reducible repeat (first | refine blk_drewN ?_ _ | refine blk_drew ?_ | refine blk_alloc ?_ _)); refine blk_put (cs := #[.int .i64 a0_0, .int .i64 0, .slice none 0 0, .slice none 0 0, .slice none 0 0]) ?_ 1 _ rfl; (with_reducible repeat (first | refine blk_drewN ?_ _ | refine blk_drew ?_ | refine blk_alloc ?_ _)); refine blk_put (cs := #[.int .i64 0, .int .i64 0, .slice none 0 0, .slice none 0 0, .slice none 0 0]) ?_ 0 _ rfl; (with_reducible repeat (first | refine blk_drewN ?_ _ | refine blk_drew ?_ | refine blk_alloc ?_ _)); exact BK436.out⟩, ⟨belowg3 HB GE422 GE423 GE436⟩⟩
 case round =>
  clear H'
  (try clear hcz26_0); (try clear hcz26_1); (try clear hcz26_2); (try clear hcz26_3); (try clear hcz26_4); (try clear hfz26_0); (try clear hfz26_1); (try clear hfz26_2); (try clear hfz26_3); (try clear hfz26_4)
  obtain ⟨x22_1, x437002_1, u437002, rfl, HA, HK1, HO_13, HO_17, HO_437002, BK422, BK423, BK436, HB⟩ := hrel
  cases gk with
  | zero => exact absurd HA.out (by simp [spec_l13Own.l0])
  | succ k1 =>
   have H := HA.out; clear HA
   simp only [spec_l13Own.l0] at H
   by_cases c27 : x22_1 < (l0_2.length : Int)
   ·rw [if_pos c27] at H
    have c27b0 : decide (x22_1 < (l0_2.length : Int)) = true := decide_eq_true c27
    clear c27; replace H := ifS H; obtain ⟨c28, H⟩ := H; have c28b0 := decide_eq_true c28; clear c28; replace H := ifS H; obtain ⟨c29, H⟩ := H; have c29b0 := decide_eq_true c29; clear c29
    obtain ⟨y438, hy_⟩ : ∃ y_ : List Int, y_ = (([] : List Int)) := ⟨_, rfl⟩
    replace H : (if y438.length + (rd_L3 l0_2 x22_1).length < 17592186044416 then (if x437002_1.length < 5864062014805 then (spec_l13Own.l0 k1 y427 y433 l0_2 (l0_2.length : Int) (wrap64 (x22_1 + 1)) a0_0 a0_1 (x437002_1 ++ [(y438 ++ (rd_L3 l0_2 x22_1))])) else (none)) else (none)) = some (r1, r2, r3, r4, r5) := yH
    have Ny438 := ak hy_; clear hy_; replace H := ifS H; obtain ⟨c30, H⟩ := H; have LMc30 := Aside0.mk c30; clear c30
    obtain ⟨y441, hy_⟩ : ∃ y_ : List Int, y_ = (y438 ++ (rd_L3 l0_2 x22_1)) := ⟨_, rfl⟩
    replace H : (if x437002_1.length < 5864062014805 then (spec_l13Own.l0 k1 y427 y433 l0_2 (l0_2.length : Int) (wrap64 (x22_1 + 1)) a0_0 a0_1 (x437002_1 ++ [y441])) else (none)) = some (r1, r2, r3, r4, r5) := yH
    have Ny441 := ak hy_; clear hy_; replace H := ifS H; obtain ⟨c31, H⟩ := H; have LMc31 := Aside0.mk c31; clear c31
    obtain ⟨y444, hy_⟩ : ∃ y_ : List (List Int), y_ = (x437002_1 ++ [y441]) := ⟨_, rfl⟩
    replace H : (spec_l13Own.l0 k1 y427 y433 l0_2 (l0_2.length : Int) (wrap64 (x22_1 + 1)) a0_0 a0_1 y444) = some (r1, r2, r3, r4, r5) := yH
    have Ny444 := ak hy_; clear hy_
    have H' := Aside0.mk H
    clear H
    have p437 : 0 ≤ (x22_1 : Int) := da
    have q437 : x22_1 < (l0_2.length : Int) := da
    obtain ⟨ad437, A437_0, c437_0, e437, hx437_0, hl437_0, hi437_0⟩ := at_L3 HR0_2.out x22_1 p437 q437
    cases e437
    replace hx437_0 := (HB.out.cell (World.block_lt_of_cell? w _ hx437_0)).trans hx437_0
    have HR437_0 := Aside0.mk hi437_0; have HC437_0 := Aside0.mk hl437_0; clear hi437_0 hl437_0; replace p437 := eq_true p437; replace q437 := eq_true q437
    try go_wp2
    replace HO_13 := ak (Kd.R_drew HO_13.out)
    replace HO_17 := ak (Kd.R_drew HO_17.out)
    replace HO_437002 := ak (Kd.S_drew HO_437002.out)
    replace BK422 := ak (blk_drew BK422.out)
    replace BK423 := ak (blk_drew BK423.out)
    replace BK436 := ak (blk_drew BK436.out)
    replace HB := ak (below_drew1 HB.out)
    refine start_ (n := 9) (S := fun w' => w'.cell? ⟨gb436, 0, none⟩ = some (.int .i64 a0_0) ∧ w'.cell? ⟨gb436, 1, none⟩ = some (.int .i64 a0_1) ∧ w'.cell? ⟨gb436, 2, none⟩ = some (u437002) ∧ w'.cell? ⟨gb436, 3, none⟩ = some (.slice Ao18 y427.length co18) ∧ w'.cell? ⟨gb436, 4, none⟩ = some (.slice Ao17 y433.length co17)) (ds := [8]) (bl 9 0) (by kernel_rfl) rfl rfl ⟨bq BK436 0, bq BK436 1, bq BK436 2, bq BK436 3, bq BK436 4⟩ (fun hHeld => ?_); refine with_tabW spec_l13Own.tab5 spec_l13Own.bits5 (fun HT_ HW_ => ?_)
    generalize wr.drew = w32 at HO_13 HO_17 HO_437002 BK422 BK423 BK436 HB hHeld ⊢
    refine pureA 0 (some 26) 9 1 HT_ ?_
    refine pureA 3 (some 29) 9 9 HT_ ?_
    refine takeA 1 (some 27) 9 11 HT_ HW_ hHeld ?_ (hy := by rintro w' ⟨s0, s1, s2, s3, s4⟩; go_simp; with_reducible rfl)
    refine oneA 2 (some 28) 9 15 HT_ (fun K hK => ?_)
    refine Kd.R_lit_step (Kd.int .i64) _ 3 ?hg (N := 28) ?hd (xs := ([] : List Int)) (inner := []) (ok := fun _ => True) (okp := fun _ => True) ?hr ?hp (fun _ hk => hk) trivial (Below.refl _ _) (Nat.le_refl _) (by simp) ?_; (case hd => rfl); (case hg => rfl); (case hr => first | (go_simp; done) | (go_simp; rfl)); (case hp => exact (Reps.none _ _))
    intro v439 w33 ho34 hb hg_ hnew_
    clear hg_ hnew_
    (first | rw [← Ny438.out] at ho34 | (simp only [Int.reduceToNat] at ho34; rw [← Ny438.out] at ho34))
    replace HO_437002 := ak (Kd.S_elder' (sd HO_437002) (Kd.R_base ho34) hb)
    have HO440 := ak (Kd.R_lower (Kd.R_new' (Kd.R_new' ho34 (Kd.R_lt (rdl HO_13))) (Kd.R_lt (rdl HO_17))) (below_size (belowg3 HB GE422 GE423 GE436)))
    replace HO_13 := ak (Kd.R_elder' (rdl HO_13) (Kd.R_base ho34) hb)
    replace HO_17 := ak (Kd.R_elder' (rdl HO_17) (Kd.R_base ho34) hb)
    replace BK422 := ak (blk_below (blkd BK422) hb)
    replace BK423 := ak (blk_below (blkd BK423) hb)
    replace BK436 := ak (blk_below (blkd BK436) hb)
    replace HB := ak (below_step (belowg3 HB GE422 GE423 GE436) hb)
    clear hb ho34
    refine hK.out _ _ ⟨bq BK436 0, bq BK436 1, bq BK436 2, bq BK436 3, bq BK436 4⟩ (fun hHeld => ?_)
    clear hK K
    refine norm_ (a' := ?_) ?_ ?_
    rotate_left
    ·show Act.put _ (some 28) _ = _
     simp only [Act.put, List.setIfInBounds_toArray, List.set_cons_zero, List.set_cons_succ, i64_w, i32_w]
     rfl
    refine oneA 4 (some 30) 9 31 HT_ (fun K hK => ?_)
    refine Kd.R_append_rows_step (Kd.int .i64) (w0 := w) w.heap.size (by rfl) (.tmp 28) (.tmp 29) 23 3 (.int .i64 0) 8 rfl Try.underlying23 info3 rfl (by decide) (by omega) v439 y438 (rd_L3 l0_2 x22_1) _ _ _ (fun k_ => some k_ ≠ (.slice Ao18 y427.length co18 : Value).ownBlock ∧ some k_ ≠ (.slice Ao17 y433.length co17 : Value).ownBlock) (fun _ => False) rfl rfl ?aO ?aR (fun _ _ h => h) (fun _ h => h.elim) ?aF ?aB ?aS ?aL ?_
    (case aR => exact cd (Kd.C_below HR437_0.out HB.out))
    (case aB => exact (belowg3 HB GE422 GE423 GE436))
    (case aF => exact (fun k_ hk => ⟨Kd.fresh' (Kd.R_lt (rdl HO_13)) k_ hk, Kd.fresh' (Kd.R_lt (rdl HO_17)) k_ hk⟩))
    (case aO => exact (by (with_reducible repeat (first | apply Kd.R_alloc | apply Kd.R_drewN | apply Kd.R_drew)); exact Kd.R_mono HO440.out (fun _ hk => ⟨hk.1.2, hk.2⟩)))
    (case aS => exact (below_size (belowg3 HB GE422 GE423 GE436)))
    (case aL => have := LMc30.out; omega)
    intro v442 w35 ho hb hg hat
    rw [← Ny441.out] at ho
    replace HO_13 := ak (Kd.R_after (ok := (fun k_ => some k_ ≠ (.slice Ao17 y433.length co17 : Value).ownBlock)) (rdl HO_13) hg hat)
    replace HO_17 := ak (Kd.R_after (ok := (fun k_ => some k_ ≠ (.slice Ao18 y427.length co18 : Value).ownBlock)) (rdl HO_17) hg hat)
    replace HO_437002 := ak (Kd.S_after (ok := (fun k_ => some k_ ≠ (.slice Ao18 y427.length co18 : Value).ownBlock ∧ some k_ ≠ (.slice Ao17 y433.length co17 : Value).ownBlock)) (sd HO_437002) hg hat)
    replace BK422 := ak (blk_grown (blkd BK422) hg (Kd.R_ne HO440.out BK422.out (by decide)))
    replace BK423 := ak (blk_grown (blkd BK423) hg (Kd.R_ne HO440.out BK423.out (by decide)))
    replace BK436 := ak (blk_grown (blkd BK436) hg (Kd.R_ne HO440.out BK436.out (by decide)))
    replace HB := ak (hb)
    have HO443 := ak (ho); clear HO440; clear ho hb hg hat
    obtain ⟨Ao37, co37, eo37⟩ := Kd.R_slice HO443.out
    (first | subst eo37 | (injection eo37 with f1_ f2_ f3_; have f4_ := f1_.symm; have f5_ := f3_.symm; clear f1_ f2_ f3_; subst f4_; subst f5_))
    refine hK.out _ _ ⟨bq BK436 0, bq BK436 1, bq BK436 2, bq BK436 3, bq BK436 4⟩ (fun hHeld => ?_)
    clear hK K
    refine norm_ (a' := ?_) ?_ ?_
    rotate_left
    ·show Act.put _ (some 30) _ = _
     simp only [Act.put, List.setIfInBounds_toArray, List.set_cons_zero, List.set_cons_succ, i64_w, i32_w]
     rfl
    refine oneA 5 (some 31) 9 63 HT_ (fun K hK => ?_)
    refine value_ (w1 := ?_) (v := ?_) (by rfl) rfl ?_ ?_
    rotate_left 2
    ·go_simp
     constructor
     ·rfl
     ·rfl
    refine hK.out _ _ ⟨(blk_cell (blk_alloc BK436.out _) 0).trans rfl, (blk_cell (blk_alloc BK436.out _) 1).trans rfl, (blk_cell (blk_alloc BK436.out _) 2).trans rfl, (blk_cell (blk_alloc BK436.out _) 3).trans rfl, (blk_cell (blk_alloc BK436.out _) 4).trans rfl⟩ (fun hHeld => ?_)
    clear hK K
    refine norm_ (a' := ?_) ?_ ?_
    rotate_left
    ·show Act.put _ (some 31) _ = _
     simp only [Act.put, List.setIfInBounds_toArray, List.set_cons_zero, List.set_cons_succ, i64_w, i32_w]
     rfl
    refine oneA 6 (some 32) 9 127 HT_ (fun K hK => ?_)
    refine Kd.S_append_step (Kd.slice 3 (Kd.int .i64)) (w0 := w) w.heap.size (by rfl) (.tmp 27) (.tmp 31) 45 23 (.slice none 0 0) 24 rfl Try.underlying45 info23 rfl (by decide) (by omega) u437002 x437002_1 y441 [.slice Ao37 y441.length co37] (fun k_ => some k_ ≠ (.slice Ao18 y427.length co18 : Value).ownBlock ∧ some k_ ≠ (.slice Ao17 y433.length co17 : Value).ownBlock) (fun k_ => some k_ = (.slice Ao37 y441.length co37 : Value).ownBlock) rfl rfl ?aP (fun k_ hk_ => ((Kd.R_mono (ok' := fun k_ => ((fun k_ => some k_ ≠ (.slice Ao18 y427.length co18 : Value).ownBlock ∧ some k_ ≠ (.slice Ao17 y433.length co17 : Value).ownBlock)) k_ ∧ some k_ ≠ (u437002 : Value).ownBlock) (Kd.R_apart' (HO443.out) (Kd.S_typed HO_437002.out) (by decide)) (fun k_ hk => ⟨⟨hk.1.1, hk.1.2⟩, hk.2⟩))).1 k_ hk_.symm) ?aF ?aO ?aB ?aS ?aL ?_
    (case aP => exact Kd.M_row (Kd.R_mono (Kd.R_tight rfl (Kd.R_mono (ok' := fun k_ => ((fun k_ => some k_ ≠ (.slice Ao18 y427.length co18 : Value).ownBlock ∧ some k_ ≠ (.slice Ao17 y433.length co17 : Value).ownBlock)) k_ ∧ some k_ ≠ (u437002 : Value).ownBlock) (Kd.R_apart' (HO443.out) (Kd.S_typed HO_437002.out) (by decide)) (fun k_ hk => ⟨⟨hk.1.1, hk.1.2⟩, hk.2⟩))) (fun _ h_ => h_)))
    (case aB => exact (belowg3 HB GE422 GE423 GE436))
    (case aF => exact (fun k_ hk => ⟨Kd.fresh' (Kd.R_lt (rdl HO_13)) k_ hk, Kd.fresh' (Kd.R_lt (rdl HO_17)) k_ hk⟩))
    (case aO => exact (by (with_reducible repeat (first | apply Kd.S_alloc | apply Kd.S_drewN | apply Kd.S_drew)); exact Kd.S_mono HO_437002.out (fun k_ hk => ⟨⟨hk.1.1, hk.1.2⟩, fun e_ => hk.2 e_⟩)))
    (case aS => exact (below_size (belowg3 HB GE422 GE423 GE436)))
    (case aL => have := LMc31.out; omega)
    intro v445 w36 ho hb hg hat
    rw [← Ny444.out] at ho
    replace HO_13 := ak (Kd.R_over' (rdl HO_13) (Kd.S_typed (sd HO_437002)) (by decide) hg)
    replace HO_17 := ak (Kd.R_over' (rdl HO_17) (Kd.S_typed (sd HO_437002)) (by decide) hg)
    replace BK422 := ak (blk_grown (blkd BK422) hg (Kd.S_ne HO_437002.out BK422.out (by decide)))
    replace BK423 := ak (blk_grown (blkd BK423) hg (Kd.S_ne HO_437002.out BK423.out (by decide)))
    replace BK436 := ak (blk_grown (blkd BK436) hg (Kd.S_ne HO_437002.out BK436.out (by decide)))
    replace HB := ak (hb)
    have HO446 := ak (ho); clear HO_437002 HO443; clear ho hb hg hat
    obtain ⟨Ao38, co38, eo38⟩ := Kd.S_slice HO446.out
    (first | subst eo38 | (injection eo38 with f1_ f2_ f3_; have f4_ := f1_.symm; have f5_ := f3_.symm; clear f1_ f2_ f3_; subst f4_; subst f5_))
    refine hK.out _ _ ⟨bq BK436 0, bq BK436 1, bq BK436 2, bq BK436 3, bq BK436 4⟩ (fun hHeld => ?_)
    clear hK K
    refine norm_ (a' := ?_) ?_ ?_
    rotate_left
    ·show Act.put _ (some 32) _ = _
     simp only [Act.put, List.setIfInBounds_toArray, List.set_cons_zero, List.set_cons_succ, i64_w, i32_w]
     rfl
    refine pureA 7 (some 33) 9 255 HT_ ?_
    refine last_ (i := 8) (N := none) (bl 9 511) rfl rfl (one_of HT_.out (by kernel_rfl)) (by decide) (fun K hK => ?_)
    have hs39 : w36.cell? ⟨gb436, 2, none⟩ = some (u437002) := bq BK436 2
    have hfs39 := blk_frozen BK436.out 2
    have hns39_0 := NB422_436.out; have hns39_1 := NB423_436.out; have hms39_0 := NB436_422.out; have hms39_1 := NB436_423.out
    refine skip_ (w1 := ?_) (by rfl) rfl ?_ ?_
    rotate_left
    ·go_simp
     rfl
    refine hK.out _ _ ?_
    clear hK K
    refine done_ (done_of HT_.out (by kernel_rfl)) ?_
    try go_wp2
    go_roundg k1
    case measure => have := HK1.out; omega
    case rel => exact ⟨(wrap64 (x22_1 + 1)), (y444), (.slice Ao38 y444.length co38), er, H', ⟨by have := HK1.out; omega⟩, ⟨by (with_reducible repeat (first | apply Kd.R_alloc | apply Kd.R_drewN | apply Kd.R_drew)); exact Kd.R_mono (Kd.R_far (p := ⟨gb436, 2, none⟩) (Kd.R_types HO_13.out BK436.out (by decide)) (fun _ hk => hk.2) (.slice Ao38 y444.length co38)) (fun _ hk => hk.1.1)⟩, ⟨by (with_reducible repeat (first | apply Kd.R_alloc | apply Kd.R_drewN | apply Kd.R_drew)); exact Kd.R_mono (Kd.R_far (p := ⟨gb436, 2, none⟩) (Kd.R_types HO_17.out BK436.out (by decide)) (fun _ hk => hk.2) (.slice Ao38 y444.length co38)) (fun _ hk => hk.1.1)⟩, ⟨by (with_reducible repeat (first | apply Kd.S_alloc | apply Kd.S_drewN | apply Kd.S_drew)); exact Kd.S_mono (Kd.S_far (p := ⟨gb436, 2, none⟩) (Kd.S_types HO446.out BK436.out (by decide)) (fun _ hk => hk.2) (.slice Ao38 y444.length co38)) (fun _ hk => ⟨hk.1.1, hk.1.2⟩)⟩, ⟨by (with_reducible repeat (first | refine blk_drewN ?_ _ | refine blk_drew ?_ | refine blk_alloc ?_ _)); refine blk_far ?_ NB422_436.out _; (with_reducible repeat (first | refine blk_drewN ?_ _ | refine blk_drew ?_ | refine blk_alloc ?_ _)); exact BK422.out⟩, ⟨by (with_reducible repeat (first | refine blk_drewN ?_ _ | refine blk_drew ?_ | refine blk_alloc ?_ _)); refine blk_far ?_ NB423_436.out _; (with_reducible repeat (first | refine blk_drewN ?_ _ | refine blk_drew ?_ | refine blk_alloc ?_ _)); exact BK423.out⟩, ⟨by (with_reducible repeat (first | refine blk_drewN ?_ _ | refine blk_drew ?_ | refine blk_alloc ?_ _)); refine blk_put (cs := #[.int .i64 a0_0, .int .i64 a0_1, u437002, .slice Ao18 y427.length co18, .slice Ao17 y433.length co17]) ?_ 2 _ rfl; (with_reducible repeat (first | refine blk_drewN ?_ _ | refine blk_drew ?_ | refine blk_alloc ?_ _)); exact BK436.out⟩, ⟨belowg3 HB GE422 GE423 GE436⟩⟩
   ·rw [if_neg c27] at H
    have c27b0 : decide (x22_1 < (l0_2.length : Int)) = false := decide_eq_false c27
    clear c27
    simp only [Option.some.injEq, Prod.mk.injEq] at H
    obtain ⟨rfl, rfl, rfl, rfl, rfl⟩ := H; have hnb40 := NB436_422.out; have hnc40 := NB422_436.out; have hnb41 := NB436_423.out; have hnc41 := NB423_436.out; obtain ⟨hcz42_0, hcz42_1, hcz42_2, hcz42_3, hcz42_4, hfz42_0, hfz42_1, hfz42_2, hfz42_3, hfz42_4⟩ := box5 BK436; have hnb43 := NB423_422.out; have hnc43 := NB422_423.out; obtain ⟨hcz44_0, hcz44_1, hcz44_2, hcz44_3, hcz44_4, hfz44_0, hfz44_1, hfz44_2, hfz44_3, hfz44_4⟩ := box5 BK423
    obtain ⟨Ao45, co45, eo45⟩ := Kd.S_slice HO_437002.out
    subst eo45; go_wp2
    refine bodyPost_ret (results_cell_row rfl _ _ gb423 47 #[.int .i64 a0_0, .int .i64 a0_1, .slice Ao45 x437002_1.length co45, .slice Ao18 y427.length co18, .slice Ao17 y433.length co17] (0, 0) _ rfl (by (with_reducible repeat (first | refine blk_drewN ?_ _ | refine blk_drew ?_ | refine blk_alloc ?_ _)); refine blk_put (cs := #[.int .i64 a0_0, .int .i64 a0_1, .slice Ao45 x437002_1.length co45, .slice Ao18 y427.length co18, .slice none 0 0]) ?_ 4 _ rfl; (with_reducible repeat (first | refine blk_drewN ?_ _ | refine blk_drew ?_ | refine blk_alloc ?_ _)); refine blk_put (cs := #[.int .i64 a0_0, .int .i64 a0_1, .slice Ao45 x437002_1.length co45, .slice none 0 0, .slice none 0 0]) ?_ 3 _ rfl; (with_reducible repeat (first | refine blk_drewN ?_ _ | refine blk_drew ?_ | refine blk_alloc ?_ _)); refine blk_put (cs := #[.int .i64 a0_0, .int .i64 a0_1, .slice none 0 0, .slice none 0 0, .slice none 0 0]) ?_ 2 _ rfl; (with_reducible repeat (first | refine blk_drewN ?_ _ | refine blk_drew ?_ | refine blk_alloc ?_ _)); refine blk_put (cs := #[.int .i64 a0_0, .int .i64 0, .slice none 0 0, .slice none 0 0, .slice none 0 0]) ?_ 1 _ rfl; (with_reducible repeat (first | refine blk_drewN ?_ _ | refine blk_drew ?_ | refine blk_alloc ?_ _)); refine blk_put (cs := #[.int .i64 0, .int .i64 0, .slice none 0 0, .slice none 0 0, .slice none 0 0]) ?_ 0 _ rfl; (with_reducible repeat (first | refine blk_drewN ?_ _ | refine blk_drew ?_ | refine blk_alloc ?_ _)); exact BK423.out) Try.underlying47 rfl (by kernel_rfl)) rfl ?_
    exact ⟨_, _, _, er2, by (with_reducible repeat (first | apply Kd.S_alloc | apply Kd.S_drewN | apply Kd.S_drew)); exact Kd.S_mono (farsS (Kd.S_types HO_437002.out BK423.out (by decide))) (fun _ hk => ⟨hk.1.1, hk.1.2⟩), by (with_reducible repeat (first | apply Kd.R_alloc | apply Kd.R_drewN | apply Kd.R_drew)); exact Kd.R_mono (farsR (Kd.R_types HO_13.out BK423.out (by decide))) (fun _ hk => hk.1), by (with_reducible repeat (first | apply Kd.R_alloc | apply Kd.R_drewN | apply Kd.R_drew)); exact Kd.R_mono (farsR (Kd.R_types HO_17.out BK423.out (by decide))) (fun _ hk => hk.1), belowg3 HB GE422 GE423 GE436⟩

end Go.Proofs.Ytkgogglnipdcfaa.QFnBoard
