-- printed by this session's own program (wip/tools/pp.py: the kit's print.py with changes); Lean checks it
import Derived.Test.YtkgogglnipdcfaaQFnScoresx0
import Derived.Test.YtkgogglnipdcfaaQFnScoresx1
import Derived.Test.YtkgogglnipdcfaaQFnScoresx4
import Derived.Test.YtkgogglnipdcfaaQFnScoresx5
namespace Go.Proofs.Ytkgogglnipdcfaa.QFnScores
open Go.RowKit Go.Proofs.YtkgogglnipdcfaaW.PrintWords Go.Proofs.YtkgogglnipdcfaaW.PrintLast Go.Proofs.YtkgogglnipdcfaaW.PrintMore
attribute [local go_sem] max2_int min2_int max_two min_two max_three min_three max_four min_four strLss strGtr strLeq strGeq   -- for this text's walks alone
set_option linter.unusedVariables false
set_option linter.unusedSimpArgs false

attribute [local go_sem high] eqA85
/-! ### spec_l14HasClaim: function 156 -/
def spec_l14HasClaim.l0 : Nat → List (S85) → Int → Int → Int → Int → Int → Option (Bool)
  | 0, _, _, _, _, _, _ => none
  | k + 1, x7, x8, x9, x253000, x253001, x253002 => if x9 < x8 then (if 0 ≤ x9 then (if x9 < (x7.length : Int) then (if (((rd_T85 x7 x9).f0) == x253000 && (((rd_T85 x7 x9).f1) == x253001 && (((rd_T85 x7 x9).f2) == x253002))) = true then (some true) else (spec_l14HasClaim.l0 k x7 x8 (wrap64 (x9 + 1)) x253000 x253001 x253002)) else (none)) else (none)) else (some false)
def spec_l14HasClaim.f (k : Nat) (l0 : List (S85)) (a1_0 : Int) (a1_1 : Int) (a1_2 : Int) : Option (Bool) := spec_l14HasClaim.l0 k l0 (l0.length : Int) 0 a1_0 a1_1 a1_2
theorem spec_l14HasClaim.mono_l : ∀ k, (∀ y0 y1 y2 y3 y4 y5, LeO (spec_l14HasClaim.l0 k y0 y1 y2 y3 y4 y5) (spec_l14HasClaim.l0 (k + 1) y0 y1 y2 y3 y4 y5))
 | 0 => fun _ _ _ _ _ _ r h => by simp [spec_l14HasClaim.l0] at h
 | k + 1 => by
  have ih0 := spec_l14HasClaim.mono_l k
  ·intro y0 y1 y2 y3 y4 y5
   unfold spec_l14HasClaim.l0
   repeat' (first | (with_reducible first | exact ih0 _ _ _ _ _ _ | exact LeO.refl _ | exact LeO.none _ | refine LeO.ite ?_ ?_ | refine LeO.bind ?_ (fun _ => ?_)) | exact ih0 _ _ _ _ _ _ | exact LeO.none _ | refine LeO.ite ?_ ?_ | refine LeO.bind ?_ (fun _ => ?_))
theorem spec_l14HasClaim.mono : ∀ a0 a1 a2 a3 k, LeO (spec_l14HasClaim.f k a0 a1 a2 a3) (spec_l14HasClaim.f (k + 1) a0 a1 a2 a3) := by
 intro a0 a1 a2 a3 k
 have ih0 := spec_l14HasClaim.mono_l k
 unfold spec_l14HasClaim.f
 repeat' (first | (with_reducible first | exact ih0 _ _ _ _ _ _ | exact LeO.refl _ | exact LeO.none _ | refine LeO.ite ?_ ?_ | refine LeO.bind ?_ (fun _ => ?_)) | exact ih0 _ _ _ _ _ _ | exact LeO.none _ | refine LeO.ite ?_ ?_ | refine LeO.bind ?_ (fun _ => ?_))
set_option maxHeartbeats 8000000 in
set_option maxRecDepth 100000 in
theorem spec_l14HasClaim.calls (k : Nat) (A0 : Option Addr) (c0 : Nat) (l0 : List (S85)) (a1_0 : Int) (a1_1 : Int) (a1_2 : Int) (r : Bool) (w : World) (hr0 : Kd.C k85 w A0 l0.length l0) (hc0 : l0.length ≤ c0) (h : spec_l14HasClaim.f k l0 a1_0 a1_1 a1_2 = some r) :
  Calls Try.prog 156 #[.slice A0 l0.length c0, .agg #[.int .i64 a1_0, .int .i64 a1_1, .int .i64 a1_2]] w fun e w' => e = .returned (.bool r) ∧ Below w.heap.size w w' := by
 have hu85 := Try.underlying85
 have HR0 := Aside0.mk hr0; have HC0 := Aside0.mk hc0; clear hr0 hc0
 have HB := Aside0.mk (Below.refl w.heap.size w)
 have H : (spec_l14HasClaim.l0 k l0 (l0.length : Int) 0 a1_0 a1_1 a1_2) = some r := h
 clear h
 have H' := Aside0.mk H
 clear H
 go_enter Try.func156, Try.ntmps156
 go_wp2_with (first | ((with_reducible refine gate_dst (N := 3) rfl ?_); refine boxev 3 #[.int .i64 a1_0, .int .i64 a1_1, .int .i64 a1_2] 85 ?_; intro gb252 hg w3 hbox hb; have BK252 := ak (hbox); have GW252 := ak (hgl hg (belowd HB)); have GE252 := ak (hgl hg (belowd HB)); replace HB := ak (below_step (belowd HB) hb); clear hb hbox hg))
 go_loopg [9] k (fun kq v9 w' => ∃ (x9_1 : Int), v9 = .int .i64 x9_1 ∧ Aside0 (spec_l14HasClaim.l0 kq l0 (l0.length : Int) x9_1 a1_0 a1_1 a1_2 = some r) ∧ Aside0 (kq ≤ k) ∧ Aside0 (w'.heap[gb252]? = some (.cells #[.int .i64 a1_0, .int .i64 a1_1, .int .i64 a1_2] 85 (0, 0))) ∧ Aside0 (Below w.heap.size w w'))
 case atStart => exact ⟨(0), er, H', ⟨Nat.le_refl _⟩, ⟨blkd BK252⟩, ⟨belowg1 HB GE252⟩⟩
 case round =>
  clear H'
  obtain ⟨x9_1, rfl, HA, HK1, BK252, HB⟩ := hrel
  cases gk with
  | zero => exact absurd HA.out (by simp [spec_l14HasClaim.l0])
  | succ k1 =>
   have H := HA.out; clear HA
   simp only [spec_l14HasClaim.l0] at H
   by_cases c4 : x9_1 < (l0.length : Int)
   ·rw [if_pos c4] at H
    have c4b0 : decide (x9_1 < (l0.length : Int)) = true := decide_eq_true c4
    clear c4; replace H := ifS H; obtain ⟨c5, H⟩ := H; have c5b0 := decide_eq_true c5; clear c5; replace H := ifS H; obtain ⟨c6, H⟩ := H; have c6b0 := decide_eq_true c6; clear c6
    by_cases c7 : (((rd_T85 l0 x9_1).f0) == a1_0 && (((rd_T85 l0 x9_1).f1) == a1_1 && (((rd_T85 l0 x9_1).f2) == a1_2))) = true
    ·rw [if_pos c7] at H
     have c7b0 : (((rd_T85 l0 x9_1).f0) == a1_0 && (((rd_T85 l0 x9_1).f1) == a1_1 && (((rd_T85 l0 x9_1).f2) == a1_2))) = true := c7
     (try (have c7b1 : decide (((rd_T85 l0 x9_1).f0) = a1_0 && (((rd_T85 l0 x9_1).f1) == a1_1 && (((rd_T85 l0 x9_1).f2) == a1_2))) = true := by simpa using c7))
     (try (have c7b2 : (((rd_T85 l0 x9_1).f0) == a1_0 && (((rd_T85 l0 x9_1).f1) == a1_1 && (((rd_T85 l0 x9_1).f2) == a1_2))) = true := by simpa using c7))
     clear c7
     obtain rfl := Option.some.inj H
     have p253 : 0 ≤ (x9_1 : Int) := da
     have q253 : x9_1 < (l0.length : Int) := da
     obtain ⟨ad253, e253, hx253_0, hx253_1, hx253_2⟩ := at_T85 HR0.out x9_1 p253 q253
     cases e253
     replace hx253_0 := (HB.out.cell (World.block_lt_of_cell? w _ hx253_0)).trans hx253_0
     replace hx253_1 := (HB.out.cell (World.block_lt_of_cell? w _ hx253_1)).trans hx253_1
     replace hx253_2 := (HB.out.cell (World.block_lt_of_cell? w _ hx253_2)).trans hx253_2
     replace p253 := eq_true p253; replace q253 := eq_true q253
     go_wp2_with (first | ((with_reducible refine gate_dst (N := 6) rfl ?_); refine boxev 6 #[.int .i64 0, .int .i64 0, .int .i64 0] 85 ?_; intro gb254 hg w8 hbox hb; have BK254 := ak (hbox); have GW254 := ak (hgl hg (belowg1 HB GE252)); have GE254 := ak (hgl hg (belowg1 HB GE252)); replace HB := ak (below_step (belowg1 HB GE252) hb); have NB252_254 := ak ((by rw [hg]; exact Nat.ne_of_lt (blk_lt (blkd BK252)) : gb252 ≠ gb254)); have NB254_252 := ak ((by rw [hg]; exact Nat.ne_of_gt (blk_lt (blkd BK252)) : gb254 ≠ gb252)); replace BK252 := ak (blk_below (blkd BK252) hb); clear hb hbox hg; have hnb9 := NB254_252.out; have hnc9 := NB252_254.out; obtain ⟨hcz10_0, hcz10_1, hcz10_2, hfz10_0, hfz10_1, hfz10_2⟩ := box3 BK254; obtain ⟨hcz11_0, hcz11_1, hcz11_2, hfz11_0, hfz11_1, hfz11_2⟩ := box3 BK252))
     go_ret
     exact ⟨er2, belowg2 HB GE252 GE254⟩
    ·rw [if_neg c7] at H
     have c7b0 : (((rd_T85 l0 x9_1).f0) == a1_0 && (((rd_T85 l0 x9_1).f1) == a1_1 && (((rd_T85 l0 x9_1).f2) == a1_2))) = false := by simpa using c7
     (try (have c7b1 : decide (((rd_T85 l0 x9_1).f0) = a1_0 && (((rd_T85 l0 x9_1).f1) == a1_1 && (((rd_T85 l0 x9_1).f2) == a1_2))) = false := by simpa using c7))
     (try (have c7b2 : (((rd_T85 l0 x9_1).f0) == a1_0 && (((rd_T85 l0 x9_1).f1) == a1_1 && (((rd_T85 l0 x9_1).f2) == a1_2))) = false := by simpa using c7))
     (try (have c7b3 : ¬ (((rd_T85 l0 x9_1).f0) = a1_0 && (((rd_T85 l0 x9_1).f1) == a1_1 && (((rd_T85 l0 x9_1).f2) == a1_2))) := by simpa using c7))
     clear c7
     have H' := Aside0.mk H
     clear H
     have p253 : 0 ≤ (x9_1 : Int) := da
     have q253 : x9_1 < (l0.length : Int) := da
     obtain ⟨ad253, e253, hx253_0, hx253_1, hx253_2⟩ := at_T85 HR0.out x9_1 p253 q253
     cases e253
     replace hx253_0 := (HB.out.cell (World.block_lt_of_cell? w _ hx253_0)).trans hx253_0
     replace hx253_1 := (HB.out.cell (World.block_lt_of_cell? w _ hx253_1)).trans hx253_1
     replace hx253_2 := (HB.out.cell (World.block_lt_of_cell? w _ hx253_2)).trans hx253_2
     replace p253 := eq_true p253; replace q253 := eq_true q253
     go_wp2_with (first | ((with_reducible refine gate_dst (N := 6) rfl ?_); refine boxev 6 #[.int .i64 0, .int .i64 0, .int .i64 0] 85 ?_; intro gb254 hg w12 hbox hb; have BK254 := ak (hbox); have GW254 := ak (hgl hg (belowg1 HB GE252)); have GE254 := ak (hgl hg (belowg1 HB GE252)); replace HB := ak (below_step (belowg1 HB GE252) hb); have NB252_254 := ak ((by rw [hg]; exact Nat.ne_of_lt (blk_lt (blkd BK252)) : gb252 ≠ gb254)); have NB254_252 := ak ((by rw [hg]; exact Nat.ne_of_gt (blk_lt (blkd BK252)) : gb254 ≠ gb252)); replace BK252 := ak (blk_below (blkd BK252) hb); clear hb hbox hg; have hnb13 := NB254_252.out; have hnc13 := NB252_254.out; obtain ⟨hcz14_0, hcz14_1, hcz14_2, hfz14_0, hfz14_1, hfz14_2⟩ := box3 BK254; obtain ⟨hcz15_0, hcz15_1, hcz15_2, hfz15_0, hfz15_1, hfz15_2⟩ := box3 BK252))
     go_roundg k1
     case measure => have := HK1.out; omega
     case rel => exact ⟨(wrap64 (x9_1 + 1)), er, H', ⟨by have := HK1.out; omega⟩, ⟨by (with_reducible repeat (first | refine blk_drewN ?_ _ | refine blk_drew ?_ | refine blk_alloc ?_ _)); refine blk_far ?_ NB252_254.out _; (with_reducible repeat (first | refine blk_drewN ?_ _ | refine blk_drew ?_ | refine blk_alloc ?_ _)); refine blk_far ?_ NB252_254.out _; (with_reducible repeat (first | refine blk_drewN ?_ _ | refine blk_drew ?_ | refine blk_alloc ?_ _)); refine blk_far ?_ NB252_254.out _; (with_reducible repeat (first | refine blk_drewN ?_ _ | refine blk_drew ?_ | refine blk_alloc ?_ _)); exact BK252.out⟩, ⟨belowg2 HB GE252 GE254⟩⟩
   ·rw [if_neg c4] at H
    have c4b0 : decide (x9_1 < (l0.length : Int)) = false := decide_eq_false c4
    clear c4
    obtain rfl := Option.some.inj H
    go_wp2
    go_ret
    exact ⟨er2, belowg1 HB GE252⟩

/-! ### spec_TallyOf: function 69 -/
mutual
def spec_TallyOf.j0 : Nat → Int → Int → List (S85) → List (S91) → Bool → Option ((List (S110)) × Bool)
  | 0, _, _, _, _, _ => none
  | k + 1, x0, x1, x2, x3, x35 => if x35 = true then (some (([] : List (S110)), false)) else (spec_TallyOf.l0 k x0 x1 x2 x3 x2 (x2.length : Int) 0)
def spec_TallyOf.l0 : Nat → Int → Int → List (S85) → List (S91) → List (S85) → Int → Int → Option ((List (S110)) × Bool)
  | 0, _, _, _, _, _, _, _ => none
  | k + 1, x0, x1, x2, x3, x36, x37, x38 => if x38 < x37 then (if 0 ≤ x38 then (if x38 < (x36.length : Int) then ((spec_GoodClaim.f ((rd_T85 x36 x38).f0) ((rd_T85 x36 x38).f1) ((rd_T85 x36 x38).f2)).bind fun t260 => (if t260 = true then (spec_TallyOf.l0 k x0 x1 x2 x3 x36 x37 (wrap64 (x38 + 1))) else (some (([] : List (S110)), false)))) else (none)) else (none)) else (spec_TallyOf.l1 k x0 x1 x2 x3 ([] : List (S110)) 0)
def spec_TallyOf.l1 : Nat → Int → Int → List (S85) → List (S91) → List (S110) → Int → Option ((List (S110)) × Bool)
  | 0, _, _, _, _, _, _ => none
  | k + 1, x0, x1, x2, x3, x12, x13 => if x13 < x0 then ((spec_l14Debits.f k x1 x3 x13).bind fun t261 => (spec_TallyOf.l2 k x0 x1 x2 x3 x12 x13 t261 x2 (x2.length : Int) 0 x13 0 (t261.length : Int))) else (some (x12, true))
def spec_TallyOf.l2 : Nat → Int → Int → List (S85) → List (S91) → List (S110) → Int → List (S85) → List (S85) → Int → Int → Int → Int → Int → Option ((List (S110)) × Bool)
  | 0, _, _, _, _, _, _, _, _, _, _, _, _, _ => none
  | k + 1, x0, x1, x2, x3, x12, x13, x14, x59, x60, x61, x265000, x265001, x265002 => if x61 < x60 then (if 0 ≤ x61 then (if x61 < (x59.length : Int) then (if ((rd_T85 x59 x61).f0) = x13 then (if x61 ≤ (x2.length : Int) then ((spec_l14HasClaim.f k (x2.take (x61 : Int).toNat) ((rd_T85 x59 x61).f0) ((rd_T85 x59 x61).f1) ((rd_T85 x59 x61).f2)).bind fun t274 => (if t274 = true then (spec_TallyOf.l2 k x0 x1 x2 x3 x12 x13 x14 x59 x60 (wrap64 (x61 + 1)) x265000 x265001 x265002) else ((spec_l14HasClaim.f k x14 ((rd_T85 x59 x61).f0) ((rd_T85 x59 x61).f1) ((rd_T85 x59 x61).f2)).bind fun t275 => (if t275 = true then (spec_TallyOf.l2 k x0 x1 x2 x3 x12 x13 x14 x59 x60 (wrap64 (x61 + 1)) x265000 x265001 x265002) else (spec_TallyOf.l2 k x0 x1 x2 x3 x12 x13 x14 x59 x60 (wrap64 (x61 + 1)) x265000 (wrap64 (x265001 + 1)) x265002))))) else (none)) else (spec_TallyOf.l2 k x0 x1 x2 x3 x12 x13 x14 x59 x60 (wrap64 (x61 + 1)) x265000 x265001 x265002)) else (none)) else (none)) else (if x12.length < 5864062014805 then (spec_TallyOf.l1 k x0 x1 x2 x3 (x12 ++ [(⟨x265000, x265001, x265002⟩ : S110)]) (wrap64 (x13 + 1))) else (none))
end
def spec_TallyOf.f (k : Nat) (a0 : Int) (a1 : Int) (l2 : List (S85)) (l3 : List (S91)) : Option ((List (S110)) × Bool) := (spec_l1In.f a0 1 12).bind fun t255 => (if t255 = true then ((spec_l1In.f a1 0 2).bind fun t256 => (if t256 = true then (if (l2.length : Int) > 60 then (spec_TallyOf.j0 k a0 a1 l2 l3 true) else ((spec_l12Good.f k l3).bind fun t257 => (spec_TallyOf.j0 k a0 a1 l2 l3 (!t257)))) else (spec_TallyOf.j0 k a0 a1 l2 l3 true))) else (spec_TallyOf.j0 k a0 a1 l2 l3 true))
theorem spec_TallyOf.mono_l : ∀ k, (∀ y0 y1 y2 y3 y4, LeO (spec_TallyOf.j0 k y0 y1 y2 y3 y4) (spec_TallyOf.j0 (k + 1) y0 y1 y2 y3 y4)) ∧ (∀ y0 y1 y2 y3 y4 y5 y6, LeO (spec_TallyOf.l0 k y0 y1 y2 y3 y4 y5 y6) (spec_TallyOf.l0 (k + 1) y0 y1 y2 y3 y4 y5 y6)) ∧ (∀ y0 y1 y2 y3 y4 y5, LeO (spec_TallyOf.l1 k y0 y1 y2 y3 y4 y5) (spec_TallyOf.l1 (k + 1) y0 y1 y2 y3 y4 y5)) ∧ (∀ y0 y1 y2 y3 y4 y5 y6 y7 y8 y9 y10 y11 y12, LeO (spec_TallyOf.l2 k y0 y1 y2 y3 y4 y5 y6 y7 y8 y9 y10 y11 y12) (spec_TallyOf.l2 (k + 1) y0 y1 y2 y3 y4 y5 y6 y7 y8 y9 y10 y11 y12))
 | 0 => ⟨fun _ _ _ _ _ r h => by simp [spec_TallyOf.j0] at h, fun _ _ _ _ _ _ _ r h => by simp [spec_TallyOf.l0] at h, fun _ _ _ _ _ _ r h => by simp [spec_TallyOf.l1] at h, fun _ _ _ _ _ _ _ _ _ _ _ _ _ r h => by simp [spec_TallyOf.l2] at h⟩
 | k + 1 => by
  obtain ⟨ih0, ih1, ih2, ih3⟩ := spec_TallyOf.mono_l k
  refine ⟨?_, ?_, ?_, ?_⟩
  ·intro y0 y1 y2 y3 y4
   unfold spec_TallyOf.j0
   repeat' (first | (with_reducible first | exact ih0 _ _ _ _ _ | exact ih1 _ _ _ _ _ _ _ | exact ih2 _ _ _ _ _ _ | exact ih3 _ _ _ _ _ _ _ _ _ _ _ _ _ | exact spec_l12Good.mono _ _ | exact spec_l14Debits.mono _ _ _ _ | exact spec_l14HasClaim.mono _ _ _ _ _ | exact LeO.refl _ | exact LeO.none _ | refine LeO.ite ?_ ?_ | refine LeO.bind ?_ (fun _ => ?_)) | exact ih0 _ _ _ _ _ | exact ih1 _ _ _ _ _ _ _ | exact ih2 _ _ _ _ _ _ | exact ih3 _ _ _ _ _ _ _ _ _ _ _ _ _ | exact spec_l12Good.mono _ _ | exact spec_l14Debits.mono _ _ _ _ | exact spec_l14HasClaim.mono _ _ _ _ _ | exact LeO.none _ | refine LeO.ite ?_ ?_ | refine LeO.bind ?_ (fun _ => ?_))
  ·intro y0 y1 y2 y3 y4 y5 y6
   unfold spec_TallyOf.l0
   repeat' (first | (with_reducible first | exact ih0 _ _ _ _ _ | exact ih1 _ _ _ _ _ _ _ | exact ih2 _ _ _ _ _ _ | exact ih3 _ _ _ _ _ _ _ _ _ _ _ _ _ | exact spec_l12Good.mono _ _ | exact spec_l14Debits.mono _ _ _ _ | exact spec_l14HasClaim.mono _ _ _ _ _ | exact LeO.refl _ | exact LeO.none _ | refine LeO.ite ?_ ?_ | refine LeO.bind ?_ (fun _ => ?_)) | exact ih0 _ _ _ _ _ | exact ih1 _ _ _ _ _ _ _ | exact ih2 _ _ _ _ _ _ | exact ih3 _ _ _ _ _ _ _ _ _ _ _ _ _ | exact spec_l12Good.mono _ _ | exact spec_l14Debits.mono _ _ _ _ | exact spec_l14HasClaim.mono _ _ _ _ _ | exact LeO.none _ | refine LeO.ite ?_ ?_ | refine LeO.bind ?_ (fun _ => ?_))
  ·intro y0 y1 y2 y3 y4 y5
   unfold spec_TallyOf.l1
   repeat' (first | (with_reducible first | exact ih0 _ _ _ _ _ | exact ih1 _ _ _ _ _ _ _ | exact ih2 _ _ _ _ _ _ | exact ih3 _ _ _ _ _ _ _ _ _ _ _ _ _ | exact spec_l12Good.mono _ _ | exact spec_l14Debits.mono _ _ _ _ | exact spec_l14HasClaim.mono _ _ _ _ _ | exact LeO.refl _ | exact LeO.none _ | refine LeO.ite ?_ ?_ | refine LeO.bind ?_ (fun _ => ?_)) | exact ih0 _ _ _ _ _ | exact ih1 _ _ _ _ _ _ _ | exact ih2 _ _ _ _ _ _ | exact ih3 _ _ _ _ _ _ _ _ _ _ _ _ _ | exact spec_l12Good.mono _ _ | exact spec_l14Debits.mono _ _ _ _ | exact spec_l14HasClaim.mono _ _ _ _ _ | exact LeO.none _ | refine LeO.ite ?_ ?_ | refine LeO.bind ?_ (fun _ => ?_))
  ·intro y0 y1 y2 y3 y4 y5 y6 y7 y8 y9 y10 y11 y12
   unfold spec_TallyOf.l2
   repeat' (first | (with_reducible first | exact ih0 _ _ _ _ _ | exact ih1 _ _ _ _ _ _ _ | exact ih2 _ _ _ _ _ _ | exact ih3 _ _ _ _ _ _ _ _ _ _ _ _ _ | exact spec_l12Good.mono _ _ | exact spec_l14Debits.mono _ _ _ _ | exact spec_l14HasClaim.mono _ _ _ _ _ | exact LeO.refl _ | exact LeO.none _ | refine LeO.ite ?_ ?_ | refine LeO.bind ?_ (fun _ => ?_)) | exact ih0 _ _ _ _ _ | exact ih1 _ _ _ _ _ _ _ | exact ih2 _ _ _ _ _ _ | exact ih3 _ _ _ _ _ _ _ _ _ _ _ _ _ | exact spec_l12Good.mono _ _ | exact spec_l14Debits.mono _ _ _ _ | exact spec_l14HasClaim.mono _ _ _ _ _ | exact LeO.none _ | refine LeO.ite ?_ ?_ | refine LeO.bind ?_ (fun _ => ?_))
theorem spec_TallyOf.mono : ∀ a0 a1 a2 a3 k, LeO (spec_TallyOf.f k a0 a1 a2 a3) (spec_TallyOf.f (k + 1) a0 a1 a2 a3) := by
 intro a0 a1 a2 a3 k
 obtain ⟨ih0, ih1, ih2, ih3⟩ := spec_TallyOf.mono_l k
 unfold spec_TallyOf.f
 repeat' (first | (with_reducible first | exact ih0 _ _ _ _ _ | exact ih1 _ _ _ _ _ _ _ | exact ih2 _ _ _ _ _ _ | exact ih3 _ _ _ _ _ _ _ _ _ _ _ _ _ | exact spec_l12Good.mono _ _ | exact spec_l14Debits.mono _ _ _ _ | exact spec_l14HasClaim.mono _ _ _ _ _ | exact LeO.refl _ | exact LeO.none _ | refine LeO.ite ?_ ?_ | refine LeO.bind ?_ (fun _ => ?_)) | exact ih0 _ _ _ _ _ | exact ih1 _ _ _ _ _ _ _ | exact ih2 _ _ _ _ _ _ | exact ih3 _ _ _ _ _ _ _ _ _ _ _ _ _ | exact spec_l12Good.mono _ _ | exact spec_l14Debits.mono _ _ _ _ | exact spec_l14HasClaim.mono _ _ _ _ _ | exact LeO.none _ | refine LeO.ite ?_ ?_ | refine LeO.bind ?_ (fun _ => ?_))
def spec_TallyOf.T18 : Bool × List (List Nat × List Nat) := (true, [([], []), ([0], [0]), ([], []), ([1, 2], [1, 2]), ([3], [3]), ([4], [4]), ([4], [4]), ([5, 6, 4], [4, 5, 6]), ([4], [4]), ([7, 8, 4, 4], [4, 7, 8]), ([9, 4], [4, 9]), ([4, 10], [4, 10]), ([11, 9], [11]), ([12], [12]), ([12], [12]), ([13, 14, 12, 12], [12, 13, 14]), ([15, 12], [12, 15]), ([12, 16], [12, 16])])
def spec_TallyOf.B18 : List Nat := [0, 1, 0, 7, 15, 31, 31, 127, 31, 511, 1023, 2047, 4095, 8191, 8191, 32767, 65535, 131071]
theorem spec_TallyOf.tab18 : rtab .any (opsOf Try.f69 18) = spec_TallyOf.T18 := by kernel_rfl
theorem spec_TallyOf.bits18 : waitsOk spec_TallyOf.T18.2 spec_TallyOf.B18 = true := by kernel_rfl
set_option maxHeartbeats 8000000 in
set_option maxRecDepth 100000 in
theorem spec_TallyOf.calls (k : Nat) (a0 : Int) (a1 : Int) (A2 : Option Addr) (c2 : Nat) (l2 : List (S85)) (A3 : Option Addr) (c3 : Nat) (l3 : List (S91)) (r1 : List (S110)) (r2 : Bool) (w : World) (hr2 : Kd.C k85 w A2 l2.length l2) (hc2 : l2.length ≤ c2) (hr3 : Kd.C k91 w A3 l3.length l3) (hc3 : l3.length ≤ c3) (h : spec_TallyOf.f k a0 a1 l2 l3 = some (r1, r2)) :
  Calls Try.prog 69 #[.int .i64 a0, .int .i64 a1, .slice A2 l2.length c2, .slice A3 l3.length c3] w fun e w' => ∃ v0_ : Value, e = .returned (.tuple #[v0_, .bool r2]) ∧ Kd.R k110 110 w' w.heap.size (fun _ => True) v0_ r1 ∧ Below w.heap.size w w' := by
 have hu85 := Try.underlying85
 have hu110 := Try.underlying110
 have HR2 := Aside0.mk hr2; have HC2 := Aside0.mk hc2; clear hr2 hc2; have HR3 := Aside0.mk hr3; have HC3 := Aside0.mk hc3; clear hr3 hc3
 have HB := Aside0.mk (Below.refl w.heap.size w)
 have H : ((spec_l1In.f a0 1 12).bind fun t255 => (if t255 = true then ((spec_l1In.f a1 0 2).bind fun t256 => (if t256 = true then (if (l2.length : Int) > 60 then (spec_TallyOf.j0 k a0 a1 l2 l3 true) else ((spec_l12Good.f k l3).bind fun t257 => (spec_TallyOf.j0 k a0 a1 l2 l3 (!t257)))) else (spec_TallyOf.j0 k a0 a1 l2 l3 true))) else (spec_TallyOf.j0 k a0 a1 l2 l3 true))) = some (r1, r2) := h
 clear h; have HC5 := Aside0.mk H; clear H
 go_enter Try.func69, Try.ntmps69
 go_upto_region 1 with (fail)
 go_cut [35] (fun v35 wc => ∃ (kq : Nat) (x35_4 : Bool), v35 = .bool x35_4 ∧ Aside0 (spec_TallyOf.j0 kq a0 a1 l2 l3 x35_4 = some (r1, r2)) ∧ Aside0 (kq ≤ k) ∧ Aside0 (Below w.heap.size w wc))
 case first =>
  have H := HC5.out; clear HC5; replace H := bS H; obtain ⟨t255, A6, H⟩ := H
  replace H : (if t255 = true then ((spec_l1In.f a1 0 2).bind fun t256 => (if t256 = true then (if (l2.length : Int) > 60 then (spec_TallyOf.j0 k a0 a1 l2 l3 true) else ((spec_l12Good.f k l3).bind fun t257 => (spec_TallyOf.j0 k a0 a1 l2 l3 (!t257)))) else (spec_TallyOf.j0 k a0 a1 l2 l3 true))) else (spec_TallyOf.j0 k a0 a1 l2 l3 true)) = some (r1, r2) := H
  by_cases c7 : t255 = true
  ·subst c7
   have H1 : ((spec_l1In.f a1 0 2).bind fun t256 => (if t256 = true then (if (l2.length : Int) > 60 then (spec_TallyOf.j0 k a0 a1 l2 l3 true) else ((spec_l12Good.f k l3).bind fun t257 => (spec_TallyOf.j0 k a0 a1 l2 l3 (!t257)))) else (spec_TallyOf.j0 k a0 a1 l2 l3 true))) = some (r1, r2) := by rw [if_pos rfl] at H; exact H
   clear H
   have H := H1
   clear H1; replace H := bS H; obtain ⟨t256, A8, H⟩ := H
   replace H : (if t256 = true then (if (l2.length : Int) > 60 then (spec_TallyOf.j0 k a0 a1 l2 l3 true) else ((spec_l12Good.f k l3).bind fun t257 => (spec_TallyOf.j0 k a0 a1 l2 l3 (!t257)))) else (spec_TallyOf.j0 k a0 a1 l2 l3 true)) = some (r1, r2) := H
   by_cases c9 : t256 = true
   ·subst c9
    have H1 : (if (l2.length : Int) > 60 then (spec_TallyOf.j0 k a0 a1 l2 l3 true) else ((spec_l12Good.f k l3).bind fun t257 => (spec_TallyOf.j0 k a0 a1 l2 l3 (!t257)))) = some (r1, r2) := by rw [if_pos rfl] at H; exact H
    clear H
    have H := H1
    clear H1
    by_cases c10 : (l2.length : Int) > 60
    ·rw [if_pos c10] at H
     have c10b0 : decide (60 < (l2.length : Int)) = true := decide_eq_true c10
     have c10b1 : decide (60 < l2.length) = true := decide_eq_true (by omega)
     clear c10
     (first | rw [c10b0] | (simp only [i64_w, i32_w]; rw [c10b0]) | skip)
     have H' := Aside0.mk H
     clear H
     go_wp2_with (first | ((with_reducible refine gate_callee (f := 153) rfl ?_); refine goesLa (some 19) rfl Try.func153 #[.int .i64 a0, .int .i64 1, .int .i64 12] rfl ?_; (with_reducible refine (spec_l1In.calls a0 1 12 true _ A6.out).mono ?_); rintro e w' ⟨rfl, ⟨nd, rfl⟩⟩; refine ⟨_, rfl, ?_⟩) | (go_at_call 153; (with_reducible refine (spec_l1In.calls a1 0 2 true _ A8.out).mono ?_); rintro e w' ⟨rfl, ⟨nd, rfl⟩⟩))
     go_meet
     case rel => exact ⟨_, (true), er, H', ⟨by first | omega | exact Nat.le_refl _⟩, ⟨belowd HB⟩⟩
    ·rw [if_neg c10] at H
     have c10b0 : decide (60 < (l2.length : Int)) = false := decide_eq_false c10
     have c10b1 : decide (60 < l2.length) = false := decide_eq_false (by omega)
     clear c10
     (first | rw [c10b0] | (simp only [i64_w, i32_w]; rw [c10b0]) | skip)
     replace H := bS H; obtain ⟨t257, A11, H⟩ := H
     replace H : (spec_TallyOf.j0 k a0 a1 l2 l3 (!t257)) = some (r1, r2) := H
     have H' := Aside0.mk H
     clear H
     go_wp2_with (first | ((with_reducible refine gate_callee (f := 153) rfl ?_); refine goesLa (some 19) rfl Try.func153 #[.int .i64 a0, .int .i64 1, .int .i64 12] rfl ?_; (with_reducible refine (spec_l1In.calls a0 1 12 true _ A6.out).mono ?_); rintro e w' ⟨rfl, ⟨nd, rfl⟩⟩; refine ⟨_, rfl, ?_⟩) | (go_at_call 153; (with_reducible refine (spec_l1In.calls a1 0 2 true _ A8.out).mono ?_); rintro e w' ⟨rfl, ⟨nd, rfl⟩⟩) | (go_at_call 135; (with_reducible refine (spec_l12Good.calls k _ _ l3 t257 _ ?side1 ?side2 A11.out).mono ?_); (case side1 => exact cd (Kd.C_below HR3.out (belowd HB))); (case side2 => exact HC3.out); rintro e w12 ⟨rfl, hb⟩; replace HB := ak (below_step (belowd HB) hb); (try clear hb)))
     go_meet
     case rel => exact ⟨_, (!t257), er, H', ⟨by first | omega | exact Nat.le_refl _⟩, ⟨belowd HB⟩⟩
   ·replace c9 := Bool.eq_false_iff.mpr c9
    subst c9
    have H1 : (spec_TallyOf.j0 k a0 a1 l2 l3 true) = some (r1, r2) := by rw [if_neg (show ¬ (false = true) by decide)] at H; exact H
    clear H
    have H := H1
    clear H1
    have H' := Aside0.mk H
    clear H
    go_wp2_with (first | ((with_reducible refine gate_callee (f := 153) rfl ?_); refine goesLa (some 19) rfl Try.func153 #[.int .i64 a0, .int .i64 1, .int .i64 12] rfl ?_; (with_reducible refine (spec_l1In.calls a0 1 12 true _ A6.out).mono ?_); rintro e w' ⟨rfl, ⟨nd, rfl⟩⟩; refine ⟨_, rfl, ?_⟩) | (go_at_call 153; (with_reducible refine (spec_l1In.calls a1 0 2 false _ A8.out).mono ?_); rintro e w' ⟨rfl, ⟨nd, rfl⟩⟩))
    go_meet
    case rel => exact ⟨_, (true), er, H', ⟨by first | omega | exact Nat.le_refl _⟩, ⟨belowd HB⟩⟩
  ·replace c7 := Bool.eq_false_iff.mpr c7
   subst c7
   have H1 : (spec_TallyOf.j0 k a0 a1 l2 l3 true) = some (r1, r2) := by rw [if_neg (show ¬ (false = true) by decide)] at H; exact H
   clear H
   have H := H1
   clear H1
   have H' := Aside0.mk H
   clear H
   go_wp2_with (first | ((with_reducible refine gate_callee (f := 153) rfl ?_); refine goesLa (some 19) rfl Try.func153 #[.int .i64 a0, .int .i64 1, .int .i64 12] rfl ?_; (with_reducible refine (spec_l1In.calls a0 1 12 false _ A6.out).mono ?_); rintro e w' ⟨rfl, ⟨nd, rfl⟩⟩; refine ⟨_, rfl, ?_⟩))
   go_meet
   case rel => exact ⟨_, (true), er, H', ⟨by first | omega | exact Nat.le_refl _⟩, ⟨belowd HB⟩⟩
 case rest =>
  clear HC5; (try clear c2); (try clear c3)
  obtain ⟨kq, x35_4, rfl, HA, HJ4, HB⟩ := hcut
  cases kq with
  | zero => exact absurd HA.out (by simp [spec_TallyOf.j0])
  | succ kj4 =>
   have H := HA.out; clear HA
   simp only [spec_TallyOf.j0] at H
   by_cases c13 : x35_4 = true
   ·subst c13
    have H1 : (some (([] : List (S110)), false)) = some (r1, r2) := by rw [if_pos rfl] at H; exact H
    clear H
    have H := H1
    clear H1
    simp only [Option.some.injEq, Prod.mk.injEq] at H
    obtain ⟨rfl, rfl⟩ := H; go_wp2
    go_ret2
    exact ⟨_, er2, by first | exact Kd.R_nil _ _ _ _ _ | exact Kd.N_nil _ _ _ _ _ | exact Kd.V_nil _ _ _ _ _ | exact Kd.Q_nil _ _ _ _ _ | exact Kd.S_nil _ _ _ _ _, belowd HB⟩
   ·replace c13 := Bool.eq_false_iff.mpr c13
    subst c13
    have H1 : (spec_TallyOf.l0 kj4 a0 a1 l2 l3 l2 (l2.length : Int) 0) = some (r1, r2) := by rw [if_neg (show ¬ (false = true) by decide)] at H; exact H
    clear H
    have H := H1
    clear H1
    have H' := Aside0.mk H
    clear H; go_wp2
    go_loopg [38] kj4 (fun kq v38 w' => ∃ (x38_2 : Int), v38 = .int .i64 x38_2 ∧ Aside0 (spec_TallyOf.l0 kq a0 a1 l2 l3 l2 (l2.length : Int) x38_2 = some (r1, r2)) ∧ Aside0 (kq ≤ kj4) ∧ Aside0 (Below w.heap.size w w'))
    case atStart => exact ⟨(0), er, H', ⟨Nat.le_refl _⟩, ⟨belowd HB⟩⟩
    case round =>
     clear H'
     (try clear c13)
     obtain ⟨x38_2, rfl, HA, HK2, HB⟩ := hrel
     cases gk with
     | zero => exact absurd HA.out (by simp [spec_TallyOf.l0])
     | succ k2 =>
      have H := HA.out; clear HA
      simp only [spec_TallyOf.l0] at H
      by_cases c14 : x38_2 < (l2.length : Int)
      ·rw [if_pos c14] at H
       have c14b0 : decide (x38_2 < (l2.length : Int)) = true := decide_eq_true c14
       clear c14; replace H := ifS H; obtain ⟨c15, H⟩ := H; have c15b0 := decide_eq_true c15; clear c15; replace H := ifS H; obtain ⟨c16, H⟩ := H; have c16b0 := decide_eq_true c16; clear c16; replace H := bS H; obtain ⟨t260, A17, H⟩ := H
       replace H : (if t260 = true then (spec_TallyOf.l0 k2 a0 a1 l2 l3 l2 (l2.length : Int) (wrap64 (x38_2 + 1))) else (some (([] : List (S110)), false))) = some (r1, r2) := H
       by_cases c18 : t260 = true
       ·subst c18
        have H1 : (spec_TallyOf.l0 k2 a0 a1 l2 l3 l2 (l2.length : Int) (wrap64 (x38_2 + 1))) = some (r1, r2) := by rw [if_pos rfl] at H; exact H
        clear H
        have H := H1
        clear H1
        have H' := Aside0.mk H
        clear H
        have p258 : 0 ≤ (x38_2 : Int) := da
        have q258 : x38_2 < (l2.length : Int) := da
        obtain ⟨ad258, e258, hx258_0, hx258_1, hx258_2⟩ := at_T85 HR2.out x38_2 p258 q258
        cases e258
        replace hx258_0 := (HB.out.cell (World.block_lt_of_cell? w _ hx258_0)).trans hx258_0
        replace hx258_1 := (HB.out.cell (World.block_lt_of_cell? w _ hx258_1)).trans hx258_1
        replace hx258_2 := (HB.out.cell (World.block_lt_of_cell? w _ hx258_2)).trans hx258_2
        replace p258 := eq_true p258; replace q258 := eq_true q258
        go_wp2_with (first | ((with_reducible refine gate_dst (N := 11) rfl ?_); (try (refine gate_guard (by rfl) ?_; dsimp only)); refine boxev 11 #[.int .i64 0, .int .i64 0, .int .i64 0] 85 ?_; intro gb259 hg w19 hbox hb; have BK259 := ak (hbox); have GW259 := ak (hgl hg (belowd HB)); have GE259 := ak (hgl hg (belowd HB)); replace HB := ak (below_step (belowd HB) hb); clear hb hbox hg; obtain ⟨hcz20_0, hcz20_1, hcz20_2, hfz20_0, hfz20_1, hfz20_2⟩ := box3 BK259) | ((with_reducible refine gate_callee (f := 152) rfl ?_); refine goesLa (some 43) rfl Try.func152 #[.agg #[.int .i64 ((rd_T85 l2 x38_2).f0), .int .i64 ((rd_T85 l2 x38_2).f1), .int .i64 ((rd_T85 l2 x38_2).f2)]] rfl ?_; (with_reducible refine (spec_GoodClaim.calls ((rd_T85 l2 x38_2).f0) ((rd_T85 l2 x38_2).f1) ((rd_T85 l2 x38_2).f2) true _ A17.out).mono ?_); rintro e w21 ⟨rfl, hb⟩; refine ⟨_, rfl, ?_⟩; replace BK259 := ak (blk_below (g := gb259) (o := .cells #[.int .i64 ((rd_T85 l2 x38_2).f0), .int .i64 ((rd_T85 l2 x38_2).f1), .int .i64 ((rd_T85 l2 x38_2).f2)] 85 (0, 0)) (by (with_reducible repeat (first | refine blk_drewN ?_ _ | refine blk_drew ?_ | refine blk_alloc ?_ _)); refine blk_put (cs := #[.int .i64 ((rd_T85 l2 x38_2).f0), .int .i64 ((rd_T85 l2 x38_2).f1), .int .i64 0]) ?_ 2 _ rfl; (with_reducible repeat (first | refine blk_drewN ?_ _ | refine blk_drew ?_ | refine blk_alloc ?_ _)); refine blk_put (cs := #[.int .i64 ((rd_T85 l2 x38_2).f0), .int .i64 0, .int .i64 0]) ?_ 1 _ rfl; (with_reducible repeat (first | refine blk_drewN ?_ _ | refine blk_drew ?_ | refine blk_alloc ?_ _)); refine blk_put (cs := #[.int .i64 0, .int .i64 0, .int .i64 0]) ?_ 0 _ rfl; (with_reducible repeat (first | refine blk_drewN ?_ _ | refine blk_drew ?_ | refine blk_alloc ?_ _)); exact BK259.out) hb); replace HB := ak (below_step (belowg1 HB GE259) hb); (try clear hb)))
        go_roundg k2
        case measure => have := HJ4.out; have := HK2.out; omega
        case rel => exact ⟨(wrap64 (x38_2 + 1)), er, H', ⟨by have := HJ4.out; have := HK2.out; omega⟩, ⟨belowg1 HB GE259⟩⟩
       ·replace c18 := Bool.eq_false_iff.mpr c18
        subst c18
        have H1 : (some (([] : List (S110)), false)) = some (r1, r2) := by rw [if_neg (show ¬ (false = true) by decide)] at H; exact H
        clear H
        have H := H1
        clear H1
        simp only [Option.some.injEq, Prod.mk.injEq] at H
        obtain ⟨rfl, rfl⟩ := H
        have p258 : 0 ≤ (x38_2 : Int) := da
        have q258 : x38_2 < (l2.length : Int) := da
        obtain ⟨ad258, e258, hx258_0, hx258_1, hx258_2⟩ := at_T85 HR2.out x38_2 p258 q258
        cases e258
        replace hx258_0 := (HB.out.cell (World.block_lt_of_cell? w _ hx258_0)).trans hx258_0
        replace hx258_1 := (HB.out.cell (World.block_lt_of_cell? w _ hx258_1)).trans hx258_1
        replace hx258_2 := (HB.out.cell (World.block_lt_of_cell? w _ hx258_2)).trans hx258_2
        replace p258 := eq_true p258; replace q258 := eq_true q258
        go_wp2_with (first | ((with_reducible refine gate_dst (N := 11) rfl ?_); (try (refine gate_guard (by rfl) ?_; dsimp only)); refine boxev 11 #[.int .i64 0, .int .i64 0, .int .i64 0] 85 ?_; intro gb259 hg w22 hbox hb; have BK259 := ak (hbox); have GW259 := ak (hgl hg (belowd HB)); have GE259 := ak (hgl hg (belowd HB)); replace HB := ak (below_step (belowd HB) hb); clear hb hbox hg; obtain ⟨hcz23_0, hcz23_1, hcz23_2, hfz23_0, hfz23_1, hfz23_2⟩ := box3 BK259) | ((with_reducible refine gate_callee (f := 152) rfl ?_); refine goesLa (some 43) rfl Try.func152 #[.agg #[.int .i64 ((rd_T85 l2 x38_2).f0), .int .i64 ((rd_T85 l2 x38_2).f1), .int .i64 ((rd_T85 l2 x38_2).f2)]] rfl ?_; (with_reducible refine (spec_GoodClaim.calls ((rd_T85 l2 x38_2).f0) ((rd_T85 l2 x38_2).f1) ((rd_T85 l2 x38_2).f2) false _ A17.out).mono ?_); rintro e w24 ⟨rfl, hb⟩; refine ⟨_, rfl, ?_⟩; replace BK259 := ak (blk_below (g := gb259) (o := .cells #[.int .i64 ((rd_T85 l2 x38_2).f0), .int .i64 ((rd_T85 l2 x38_2).f1), .int .i64 ((rd_T85 l2 x38_2).f2)] 85 (0, 0)) (by (with_reducible repeat (first | refine blk_drewN ?_ _ | refine blk_drew ?_ | refine blk_alloc ?_ _)); refine blk_put (cs := #[.int .i64 ((rd_T85 l2 x38_2).f0), .int .i64 ((rd_T85 l2 x38_2).f1), .int .i64 0]) ?_ 2 _ rfl; (with_reducible repeat (first | refine blk_drewN ?_ _ | refine blk_drew ?_ | refine blk_alloc ?_ _)); refine blk_put (cs := #[.int .i64 ((rd_T85 l2 x38_2).f0), .int .i64 0, .int .i64 0]) ?_ 1 _ rfl; (with_reducible repeat (first | refine blk_drewN ?_ _ | refine blk_drew ?_ | refine blk_alloc ?_ _)); refine blk_put (cs := #[.int .i64 0, .int .i64 0, .int .i64 0]) ?_ 0 _ rfl; (with_reducible repeat (first | refine blk_drewN ?_ _ | refine blk_drew ?_ | refine blk_alloc ?_ _)); exact BK259.out) hb); replace HB := ak (below_step (belowg1 HB GE259) hb); (try clear hb)))
        go_ret2
        exact ⟨_, er2, by first | exact Kd.R_nil _ _ _ _ _ | exact Kd.N_nil _ _ _ _ _ | exact Kd.V_nil _ _ _ _ _ | exact Kd.Q_nil _ _ _ _ _ | exact Kd.S_nil _ _ _ _ _, belowg1 HB GE259⟩
      ·rw [if_neg c14] at H
       have c14b0 : decide (x38_2 < (l2.length : Int)) = false := decide_eq_false c14
       clear c14
       have H' := Aside0.mk H
       clear H; go_wp2
       go_loopg [12, 13] k2 (fun kq v12 v13 w' => ∃ (x12_3 : List (S110)) (x13_3 : Int), v13 = .int .i64 x13_3 ∧ Aside0 (spec_TallyOf.l1 kq a0 a1 l2 l3 x12_3 x13_3 = some (r1, r2)) ∧ Aside0 (kq ≤ k2) ∧ Aside0 (Kd.R k110 110 w' w.heap.size (fun _ => True) v12 x12_3) ∧ Aside0 (Below w.heap.size w w'))
       case atStart => exact ⟨(([] : List (S110))), (0), er, H', ⟨Nat.le_refl _⟩, ⟨by first | exact Kd.R_nil _ _ _ _ _ | exact Kd.N_nil _ _ _ _ _ | exact Kd.V_nil _ _ _ _ _ | exact Kd.Q_nil _ _ _ _ _ | exact Kd.S_nil _ _ _ _ _⟩, ⟨belowd HB⟩⟩
       case round =>
        clear H'
        (try clear c14b0)
        obtain ⟨x12_3, x13_3, rfl, HA, HK3, HO_12, HB⟩ := hrel
        cases gk with
        | zero => exact absurd HA.out (by simp [spec_TallyOf.l1])
        | succ k3 =>
         have H := HA.out; clear HA
         simp only [spec_TallyOf.l1] at H
         by_cases c25 : x13_3 < a0
         ·rw [if_pos c25] at H
          have c25b0 : decide (x13_3 < a0) = true := decide_eq_true c25
          clear c25; replace H := bS H; obtain ⟨t261, A26, H⟩ := H
          replace H : (spec_TallyOf.l2 k3 a0 a1 l2 l3 x12_3 x13_3 t261 l2 (l2.length : Int) 0 x13_3 0 (t261.length : Int)) = some (r1, r2) := H
          have H' := Aside0.mk H
          clear H
          go_wp2_with (first | ((with_reducible refine gate_callee (f := 154) rfl ?_); refine goesLa (some 54) rfl Try.func154 #[.int .i64 a1, .slice A3 l3.length c3, .int .i64 x13_3] rfl ?_; (with_reducible refine (spec_l14Debits.calls k3 a1 _ _ l3 x13_3 t261 _ ?side1 ?side2 A26.out).mono ?_); (case side1 => exact cd (Kd.C_below HR3.out HB.out)); (case side2 => exact HC3.out); rintro e w27 ⟨v262, rfl, ho0, hb⟩; refine ⟨_, rfl, ?_⟩; replace HO_12 := ak (Kd.R_below (rdl HO_12) hb); have HO263 := ak (Kd.R_lower ho0 (below_size (belowd HB))); replace HB := ak (below_step (belowd HB) hb); (try clear hb); (try clear ho0); obtain ⟨Ao28, co28, eo28⟩ := Kd.R_slice HO263.out; subst eo28) | ((with_reducible refine gate_dst (N := 15) rfl ?_); (try (refine gate_guard (by rfl) ?_; dsimp only)); refine boxev 15 #[.int .i64 0, .int .i64 0, .int .i64 0] 110 ?_; intro gb264 hg w29 hbox hb; replace HO_12 := ak (Kd.R_below (Kd.R_elderB (rdl HO_12) gb264 (Nat.le_of_eq hg.symm)) hb); replace HO263 := ak (Kd.R_below (rdl HO263) hb); have BK264 := ak (hbox); have GW264 := ak (hgl hg (belowd HB)); have GE264 := ak (hgl hg (belowd HB)); replace HB := ak (below_step (belowd HB) hb); clear hb hbox hg; obtain ⟨hcz30_0, hcz30_1, hcz30_2, hfz30_0, hfz30_1, hfz30_2⟩ := box3 BK264))
          go_loopg [61] k3 (fun kq v61 w' => ∃ (x61_4 : Int) (x265001_4 : Int), v61 = .int .i64 x61_4 ∧ Aside0 (spec_TallyOf.l2 kq a0 a1 l2 l3 x12_3 x13_3 t261 l2 (l2.length : Int) x61_4 x13_3 x265001_4 (t261.length : Int) = some (r1, r2)) ∧ Aside0 (kq ≤ k3) ∧ Aside0 (Kd.R k110 110 w' w.heap.size (fun k_ => k_ ≠ gb264) u12 x12_3) ∧ Aside0 (Kd.R k85 85 w' w.heap.size (fun _ => True) (.slice Ao28 t261.length co28) t261) ∧ Aside0 (w'.heap[gb264]? = some (.cells #[.int .i64 x13_3, .int .i64 x265001_4, .int .i64 (t261.length : Int)] 110 (0, 0))) ∧ Aside0 (Below w.heap.size w w'))
          case atStart => exact ⟨(0), (0), er, H', ⟨Nat.le_refl _⟩, ⟨by (with_reducible repeat (first | apply Kd.R_alloc | apply Kd.R_drewN | apply Kd.R_drew)); exact Kd.R_mono (farsR (Kd.R_mono HO_12.out (fun k_ hk => (⟨hk, hk.2⟩ : _ ∧ k_ ≠ gb264)))) (fun _ hk => hk.1.2)⟩, ⟨by (with_reducible repeat (first | apply Kd.R_alloc | apply Kd.R_drewN | apply Kd.R_drew)); exact Kd.R_mono (farsR (Kd.R_types HO263.out BK264.out (by decide))) (fun _ hk => trivial)⟩, ⟨by (with_reducible repeat (first | refine blk_drewN ?_ _ | refine blk_drew ?_ | refine blk_alloc ?_ _)); refine blk_put (cs := #[.int .i64 x13_3, .int .i64 0, .int .i64 0]) ?_ 2 _ rfl; (with_reducible repeat (first | refine blk_drewN ?_ _ | refine blk_drew ?_ | refine blk_alloc ?_ _)); refine blk_put (cs := #[.int .i64 x13_3, .int .i64 0, .int .i64 0]) ?_ 1 _ rfl; (with_reducible repeat (first | refine blk_drewN ?_ _ | refine blk_drew ?_ | refine blk_alloc ?_ _)); refine blk_put (cs := #[.int .i64 0, .int .i64 0, .int .i64 0]) ?_ 0 _ rfl; (with_reducible repeat (first | refine blk_drewN ?_ _ | refine blk_drew ?_ | refine blk_alloc ?_ _)); exact BK264.out⟩, ⟨belowg1 HB GE264⟩⟩
          case round =>
           clear H'
           (try clear c3); (try clear c25b0); (try clear hcz30_0); (try clear hcz30_1); (try clear hcz30_2); (try clear hfz30_0); (try clear hfz30_1); (try clear hfz30_2)
           obtain ⟨x61_4, x265001_4, rfl, HA, HK4, HO_12, HO_14, BK264, HB⟩ := hrel
           cases gk with
           | zero => exact absurd HA.out (by simp [spec_TallyOf.l2])
           | succ k4 =>
            have H := HA.out; clear HA
            simp only [spec_TallyOf.l2] at H
            by_cases c31 : x61_4 < (l2.length : Int)
            ·rw [if_pos c31] at H
             have c31b0 : decide (x61_4 < (l2.length : Int)) = true := decide_eq_true c31
             clear c31; replace H := ifS H; obtain ⟨c32, H⟩ := H; have c32b0 := decide_eq_true c32; clear c32; replace H := ifS H; obtain ⟨c33, H⟩ := H; have c33b0 := decide_eq_true c33; clear c33
             by_cases c34 : ((rd_T85 l2 x61_4).f0) = x13_3
             ·rw [if_pos c34] at H
              have c34b0 : (((rd_T85 l2 x61_4).f0) == x13_3) = true := beq_iff_eq.mpr c34
              have c34b1 : (((rd_T85 l2 x61_4).f0) != x13_3) = false := bne_eq_false_iff_eq.mpr c34
              clear c34
              have c35b0 := eq_true (da : 0 ≤ x61_4)
              replace H := ifS H; obtain ⟨c36, H⟩ := H; have c36b0 := eq_true c36
              have c36b1 : decide (x61_4 ≤ (l2.length : Int)) = true := decide_eq_true c36
              clear c36
              obtain ⟨y270, hy_⟩ : ∃ y_ : List (S85), y_ = (l2.take (x61_4 : Int).toNat) := ⟨_, rfl⟩
              replace H : ((spec_l14HasClaim.f k4 y270 ((rd_T85 l2 x61_4).f0) ((rd_T85 l2 x61_4).f1) ((rd_T85 l2 x61_4).f2)).bind fun t274 => (if t274 = true then (spec_TallyOf.l2 k4 a0 a1 l2 l3 x12_3 x13_3 t261 l2 (l2.length : Int) (wrap64 (x61_4 + 1)) x13_3 x265001_4 (t261.length : Int)) else ((spec_l14HasClaim.f k4 t261 ((rd_T85 l2 x61_4).f0) ((rd_T85 l2 x61_4).f1) ((rd_T85 l2 x61_4).f2)).bind fun t275 => (if t275 = true then (spec_TallyOf.l2 k4 a0 a1 l2 l3 x12_3 x13_3 t261 l2 (l2.length : Int) (wrap64 (x61_4 + 1)) x13_3 x265001_4 (t261.length : Int)) else (spec_TallyOf.l2 k4 a0 a1 l2 l3 x12_3 x13_3 t261 l2 (l2.length : Int) (wrap64 (x61_4 + 1)) x13_3 (wrap64 (x265001_4 + 1)) (t261.length : Int)))))) = some (r1, r2) := yH
              have Ny270 := ak hy_; clear hy_; replace H := bS H; obtain ⟨t274, A37, H⟩ := H
              replace H : (if t274 = true then (spec_TallyOf.l2 k4 a0 a1 l2 l3 x12_3 x13_3 t261 l2 (l2.length : Int) (wrap64 (x61_4 + 1)) x13_3 x265001_4 (t261.length : Int)) else ((spec_l14HasClaim.f k4 t261 ((rd_T85 l2 x61_4).f0) ((rd_T85 l2 x61_4).f1) ((rd_T85 l2 x61_4).f2)).bind fun t275 => (if t275 = true then (spec_TallyOf.l2 k4 a0 a1 l2 l3 x12_3 x13_3 t261 l2 (l2.length : Int) (wrap64 (x61_4 + 1)) x13_3 x265001_4 (t261.length : Int)) else (spec_TallyOf.l2 k4 a0 a1 l2 l3 x12_3 x13_3 t261 l2 (l2.length : Int) (wrap64 (x61_4 + 1)) x13_3 (wrap64 (x265001_4 + 1)) (t261.length : Int))))) = some (r1, r2) := H
              by_cases c38 : t274 = true
              ·subst c38
               have H1 : (spec_TallyOf.l2 k4 a0 a1 l2 l3 x12_3 x13_3 t261 l2 (l2.length : Int) (wrap64 (x61_4 + 1)) x13_3 x265001_4 (t261.length : Int)) = some (r1, r2) := by rw [if_pos rfl] at H; exact H
               clear H
               have H := H1
               clear H1
               have H' := Aside0.mk H
               clear H
               have p268 : 0 ≤ (x61_4 : Int) := da
               have q268 : x61_4 < (l2.length : Int) := da
               obtain ⟨ad268, e268, hx268_0, hx268_1, hx268_2⟩ := at_T85 HR2.out x61_4 p268 q268
               cases e268
               replace hx268_0 := (HB.out.cell (World.block_lt_of_cell? w _ hx268_0)).trans hx268_0
               replace hx268_1 := (HB.out.cell (World.block_lt_of_cell? w _ hx268_1)).trans hx268_1
               replace hx268_2 := (HB.out.cell (World.block_lt_of_cell? w _ hx268_2)).trans hx268_2
               replace p268 := eq_true p268; replace q268 := eq_true q268
               try go_wp2_with (first | ((with_reducible refine gate_dst (N := 17) rfl ?_); (try (refine gate_guard (by rfl) ?_; dsimp only)); refine boxev 17 #[.int .i64 0, .int .i64 0, .int .i64 0] 85 ?_; intro gb269 hg w39 hbox hb; replace HO_12 := ak (Kd.R_below (rdl HO_12) hb); replace HO_14 := ak (Kd.R_below (Kd.R_elderB (rdl HO_14) gb269 (Nat.le_of_eq hg.symm)) hb); have BK269 := ak (hbox); have GW269 := ak (hgl hg (belowg1 HB GE264)); have GE269 := ak (hgl hg (belowg1 HB GE264)); replace HB := ak (below_step (belowg1 HB GE264) hb); have NB264_269 := ak ((by rw [hg]; exact Nat.ne_of_lt (blk_lt (blkd BK264)) : gb264 ≠ gb269)); have NB269_264 := ak ((by rw [hg]; exact Nat.ne_of_gt (blk_lt (blkd BK264)) : gb269 ≠ gb264)); replace BK264 := ak (blk_below (blkd BK264) hb); clear hb hbox hg; have hnb40 := NB269_264.out; have hnc40 := NB264_269.out; obtain ⟨hcz41_0, hcz41_1, hcz41_2, hfz41_0, hfz41_1, hfz41_2⟩ := box3 BK269))
               have n0_ : Aside0 (Kd.R k110 110 (((w39.setCell ⟨gb269, 0, none⟩ (.int .i64 ((rd_T85 l2 x61_4).f0))).setCell ⟨gb269, 1, none⟩ (.int .i64 ((rd_T85 l2 x61_4).f1))).setCell ⟨gb269, 2, none⟩ (.int .i64 ((rd_T85 l2 x61_4).f2))) w.heap.size (fun k_ => k_ ≠ gb264) u12 x12_3) := ⟨by (with_reducible repeat (first | apply Kd.R_alloc | apply Kd.R_drewN | apply Kd.R_drew)); exact Kd.R_mono (farsR (Kd.R_types HO_12.out BK269.out (by decide))) (fun _ hk => hk.1)⟩
               have n1_ : Aside0 (Kd.R k85 85 (((w39.setCell ⟨gb269, 0, none⟩ (.int .i64 ((rd_T85 l2 x61_4).f0))).setCell ⟨gb269, 1, none⟩ (.int .i64 ((rd_T85 l2 x61_4).f1))).setCell ⟨gb269, 2, none⟩ (.int .i64 ((rd_T85 l2 x61_4).f2))) w.heap.size (fun k_ => k_ ≠ gb269) (.slice Ao28 t261.length co28) t261) := ⟨by (with_reducible repeat (first | apply Kd.R_alloc | apply Kd.R_drewN | apply Kd.R_drew)); exact Kd.R_mono (farsR (Kd.R_mono HO_14.out (fun k_ hk => (⟨hk, hk.2⟩ : _ ∧ k_ ≠ gb269)))) (fun _ hk => hk.1.2)⟩
               have n2_ : Aside0 ((((w39.setCell ⟨gb269, 0, none⟩ (.int .i64 ((rd_T85 l2 x61_4).f0))).setCell ⟨gb269, 1, none⟩ (.int .i64 ((rd_T85 l2 x61_4).f1))).setCell ⟨gb269, 2, none⟩ (.int .i64 ((rd_T85 l2 x61_4).f2))).heap[gb264]? = some (.cells #[.int .i64 x13_3, .int .i64 x265001_4, .int .i64 (t261.length : Int)] 110 (0, 0))) := ⟨by (with_reducible repeat (first | refine blk_drewN ?_ _ | refine blk_drew ?_ | refine blk_alloc ?_ _)); refine blk_far ?_ NB264_269.out _; (with_reducible repeat (first | refine blk_drewN ?_ _ | refine blk_drew ?_ | refine blk_alloc ?_ _)); refine blk_far ?_ NB264_269.out _; (with_reducible repeat (first | refine blk_drewN ?_ _ | refine blk_drew ?_ | refine blk_alloc ?_ _)); refine blk_far ?_ NB264_269.out _; (with_reducible repeat (first | refine blk_drewN ?_ _ | refine blk_drew ?_ | refine blk_alloc ?_ _)); exact BK264.out⟩
               have n3_ : Aside0 ((((w39.setCell ⟨gb269, 0, none⟩ (.int .i64 ((rd_T85 l2 x61_4).f0))).setCell ⟨gb269, 1, none⟩ (.int .i64 ((rd_T85 l2 x61_4).f1))).setCell ⟨gb269, 2, none⟩ (.int .i64 ((rd_T85 l2 x61_4).f2))).heap[gb269]? = some (.cells #[.int .i64 ((rd_T85 l2 x61_4).f0), .int .i64 ((rd_T85 l2 x61_4).f1), .int .i64 ((rd_T85 l2 x61_4).f2)] 85 (0, 0))) := ⟨by (with_reducible repeat (first | refine blk_drewN ?_ _ | refine blk_drew ?_ | refine blk_alloc ?_ _)); refine blk_put (cs := #[.int .i64 ((rd_T85 l2 x61_4).f0), .int .i64 ((rd_T85 l2 x61_4).f1), .int .i64 0]) ?_ 2 _ rfl; (with_reducible repeat (first | refine blk_drewN ?_ _ | refine blk_drew ?_ | refine blk_alloc ?_ _)); refine blk_put (cs := #[.int .i64 ((rd_T85 l2 x61_4).f0), .int .i64 0, .int .i64 0]) ?_ 1 _ rfl; (with_reducible repeat (first | refine blk_drewN ?_ _ | refine blk_drew ?_ | refine blk_alloc ?_ _)); refine blk_put (cs := #[.int .i64 0, .int .i64 0, .int .i64 0]) ?_ 0 _ rfl; (with_reducible repeat (first | refine blk_drewN ?_ _ | refine blk_drew ?_ | refine blk_alloc ?_ _)); exact BK269.out⟩
               have n4_ : Aside0 (Below w.heap.size w (((w39.setCell ⟨gb269, 0, none⟩ (.int .i64 ((rd_T85 l2 x61_4).f0))).setCell ⟨gb269, 1, none⟩ (.int .i64 ((rd_T85 l2 x61_4).f1))).setCell ⟨gb269, 2, none⟩ (.int .i64 ((rd_T85 l2 x61_4).f2)))) := ⟨belowg2 HB GE264 GE269⟩
               (try clear HO_12); (try clear HO_14); (try clear BK264); (try clear BK269); (try clear HB)
               generalize (((w39.setCell ⟨gb269, 0, none⟩ (.int .i64 ((rd_T85 l2 x61_4).f0))).setCell ⟨gb269, 1, none⟩ (.int .i64 ((rd_T85 l2 x61_4).f1))).setCell ⟨gb269, 2, none⟩ (.int .i64 ((rd_T85 l2 x61_4).f2))) = w42 at n0_ n1_ n2_ n3_ n4_ ⊢
               have HO_12 := n0_
               have HO_14 := n1_
               have BK264 := n2_
               have BK269 := n3_
               have HB := n4_
               clear n0_ n1_ n2_ n3_ n4_
               replace HO_12 := ak (Kd.R_drew HO_12.out)
               replace HO_14 := ak (Kd.R_drew HO_14.out)
               replace BK264 := ak (blk_drew BK264.out)
               replace BK269 := ak (blk_drew BK269.out)
               replace HB := ak (below_drew1 HB.out)
               have q44 : (x61_4 : Int) ≤ ((l2.length : Int) : Int) := da
               obtain ⟨i044, hi044, _, hsz44, _⟩ := info_parts info85
               have hroom44 : l2.length ≤ c2 := HC2.out
               have hC44 : Kd.C k85 _ (some ad268) l2.length l2 := HR2.out
               have hcut44 := cut_to (P := Try.prog) 70 85 .i64 Try.underlying70 hi044 (some ad268) l2.length c2 x61_4 (da) q44 hroom44
               have hr44 := Kd.C_take (m := (x61_4 : Int).toNat) hC44 (by omega)
               have hy44 : y270.length = (x61_4 : Int).toNat := (by rw [Ny270.out, List.length_take]; omega)
               rw [← Ny270.out] at hr44
               rw [← hy44] at hcut44
               have HR273 := Aside0.mk hr44
               have HC273 := Aside0.mk (show y270.length ≤ c2 from by omega)
               clear hr44 hC44 hroom44 hi044 hsz44; have KY44 := Aside0.mk hy44; clear hy44; replace q44 := eq_true q44
               refine start_ (n := 18) (S := fun w' => w'.cell? ⟨gb269, 0, none⟩ = some (.int .i64 ((rd_T85 l2 x61_4).f0)) ∧ w'.cell? ⟨gb269, 1, none⟩ = some (.int .i64 ((rd_T85 l2 x61_4).f1)) ∧ w'.cell? ⟨gb269, 2, none⟩ = some (.int .i64 ((rd_T85 l2 x61_4).f2))) (ds := []) (bl 18 0) (by kernel_rfl) rfl rfl ⟨bq BK269 0, bq BK269 1, bq BK269 2⟩ (fun hHeld => ?_); refine with_tabW spec_TallyOf.tab18 spec_TallyOf.bits18 (fun HT_ HW_ => ?_)
               generalize w42.drew = w43 at HO_12 HO_14 BK264 BK269 HB HR273 hHeld ⊢
               refine pureA 0 (some 66) 18 1 HT_ ?_
               refine pureA 2 (some 68) 18 5 HT_ ?_
               refine takeA 1 (some 67) 18 7 HT_ HW_ hHeld ?_ (hy := by rintro w' ⟨s0, s1, s2⟩; go_simp; with_reducible rfl)
               refine pureA 3 (some 69) 18 15 HT_ ?_
               refine pureA 4 (some 70) 18 31 HT_ ?_
               refine pureA 5 (some 71) 18 63 HT_ ?_
               refine pureA 6 (some 72) 18 127 HT_ ?_
               refine pureA 7 (some 73) 18 255 HT_ ?_
               refine takeA 8 (some 74) 18 511 HT_ HW_ hHeld ?_ (hy := by rintro w' ⟨s0, s1, s2⟩; go_simp; with_reducible rfl)
               refine oneA 9 (some 75) 18 1023 HT_ (fun K hK => ?_)
               refine goes_ Try.func156 (by kernel_rfl) rfl #[.slice (some ad268) y270.length c2, .agg #[.int .i64 ((rd_T85 l2 x61_4).f0), .int .i64 ((rd_T85 l2 x61_4).f1), .int .i64 ((rd_T85 l2 x61_4).f2)]] (by rfl) rfl rfl (by (try simp only [List.map_toArray, List.map_cons, List.map_nil]); first | done | rfl | (simp only [List.length_drop, List.length_take]; rfl)) ?_
               with_reducible refine (spec_l14HasClaim.calls k4 _ _ y270 ((rd_T85 l2 x61_4).f0) ((rd_T85 l2 x61_4).f1) ((rd_T85 l2 x61_4).f2) true _ ?side1 ?side2 A37.out).mono ?_
               (case side1 => exact cd (Kd.C_below HR273.out HB.out))
               (case side2 => exact HC273.out)
               rintro e w45 ⟨rfl, hb⟩
               refine ⟨_, rfl, ?_⟩
               replace HO_12 := ak (Kd.R_below (rdl HO_12) hb)
               replace HO_14 := ak (Kd.R_below (rdl HO_14) hb)
               replace BK264 := ak (blk_below (blkd BK264) hb)
               replace BK269 := ak (blk_below (blkd BK269) hb)
               replace HB := ak (below_step (belowg2 HB GE264 GE269) hb)
               (try clear hb); (try clear hb2); (try clear hk); (try clear hi)
               refine hK.out _ _ ⟨bq BK269 0, bq BK269 1, bq BK269 2⟩ (fun hHeld => ?_)
               clear hK K
               refine norm_ (a' := ?_) ?_ ?_
               rotate_left
               ·show Act.put _ (some 75) _ = _
                simp only [Act.put, List.setIfInBounds_toArray, List.set_cons_zero, List.set_cons_succ, i64_w, i32_w]
                rfl
               refine pureA 10 (some 76) 18 2047 HT_ ?_
               refine pureA 11 (some 77) 18 4095 HT_ ?_
               refine pureA 12 (some 78) 18 8191 HT_ ?_
               refine pureB 13 (some 79) 18 16383 HT_ ?_
               refine pureB 14 (some 80) 18 32767 HT_ ?_
               refine pureB 15 (some 81) 18 65535 HT_ ?_
               refine pureB 16 (some 82) 18 131071 HT_ ?_
               refine pureA 17 (some 83) 18 262143 HT_ ?_
               refine done_ (done_of HT_.out (by kernel_rfl)) ?_
               try go_wp2
               go_roundg k4
               case measure => have := HJ4.out; have := HK2.out; have := HK3.out; have := HK4.out; omega
               case rel => exact ⟨(wrap64 (x61_4 + 1)), (x265001_4), er, H', ⟨by have := HJ4.out; have := HK2.out; have := HK3.out; have := HK4.out; omega⟩, ⟨rdl HO_12⟩, ⟨by (with_reducible repeat (first | apply Kd.R_alloc | apply Kd.R_drewN | apply Kd.R_drew)); exact Kd.R_mono HO_14.out (fun _ hk => trivial)⟩, ⟨blkd BK264⟩, ⟨belowg2 HB GE264 GE269⟩⟩
              ·replace c38 := Bool.eq_false_iff.mpr c38
               subst c38
               have H1 : ((spec_l14HasClaim.f k4 t261 ((rd_T85 l2 x61_4).f0) ((rd_T85 l2 x61_4).f1) ((rd_T85 l2 x61_4).f2)).bind fun t275 => (if t275 = true then (spec_TallyOf.l2 k4 a0 a1 l2 l3 x12_3 x13_3 t261 l2 (l2.length : Int) (wrap64 (x61_4 + 1)) x13_3 x265001_4 (t261.length : Int)) else (spec_TallyOf.l2 k4 a0 a1 l2 l3 x12_3 x13_3 t261 l2 (l2.length : Int) (wrap64 (x61_4 + 1)) x13_3 (wrap64 (x265001_4 + 1)) (t261.length : Int)))) = some (r1, r2) := by rw [if_neg (show ¬ (false = true) by decide)] at H; exact H
               clear H
               have H := H1
               clear H1; replace H := bS H; obtain ⟨t275, A46, H⟩ := H
               replace H : (if t275 = true then (spec_TallyOf.l2 k4 a0 a1 l2 l3 x12_3 x13_3 t261 l2 (l2.length : Int) (wrap64 (x61_4 + 1)) x13_3 x265001_4 (t261.length : Int)) else (spec_TallyOf.l2 k4 a0 a1 l2 l3 x12_3 x13_3 t261 l2 (l2.length : Int) (wrap64 (x61_4 + 1)) x13_3 (wrap64 (x265001_4 + 1)) (t261.length : Int))) = some (r1, r2) := H
               by_cases c47 : t275 = true
               ·subst c47
                have H1 : (spec_TallyOf.l2 k4 a0 a1 l2 l3 x12_3 x13_3 t261 l2 (l2.length : Int) (wrap64 (x61_4 + 1)) x13_3 x265001_4 (t261.length : Int)) = some (r1, r2) := by rw [if_pos rfl] at H; exact H
                clear H
                have H := H1
                clear H1
                have H' := Aside0.mk H
                clear H
                have p268 : 0 ≤ (x61_4 : Int) := da
                have q268 : x61_4 < (l2.length : Int) := da
                obtain ⟨ad268, e268, hx268_0, hx268_1, hx268_2⟩ := at_T85 HR2.out x61_4 p268 q268
                cases e268
                replace hx268_0 := (HB.out.cell (World.block_lt_of_cell? w _ hx268_0)).trans hx268_0
                replace hx268_1 := (HB.out.cell (World.block_lt_of_cell? w _ hx268_1)).trans hx268_1
                replace hx268_2 := (HB.out.cell (World.block_lt_of_cell? w _ hx268_2)).trans hx268_2
                replace p268 := eq_true p268; replace q268 := eq_true q268
                try go_wp2_with (first | ((with_reducible refine gate_dst (N := 17) rfl ?_); (try (refine gate_guard (by rfl) ?_; dsimp only)); refine boxev 17 #[.int .i64 0, .int .i64 0, .int .i64 0] 85 ?_; intro gb269 hg w48 hbox hb; replace HO_12 := ak (Kd.R_below (rdl HO_12) hb); replace HO_14 := ak (Kd.R_below (Kd.R_elderB (rdl HO_14) gb269 (Nat.le_of_eq hg.symm)) hb); have BK269 := ak (hbox); have GW269 := ak (hgl hg (belowg1 HB GE264)); have GE269 := ak (hgl hg (belowg1 HB GE264)); replace HB := ak (below_step (belowg1 HB GE264) hb); have NB264_269 := ak ((by rw [hg]; exact Nat.ne_of_lt (blk_lt (blkd BK264)) : gb264 ≠ gb269)); have NB269_264 := ak ((by rw [hg]; exact Nat.ne_of_gt (blk_lt (blkd BK264)) : gb269 ≠ gb264)); replace BK264 := ak (blk_below (blkd BK264) hb); clear hb hbox hg; have hnb49 := NB269_264.out; have hnc49 := NB264_269.out; obtain ⟨hcz50_0, hcz50_1, hcz50_2, hfz50_0, hfz50_1, hfz50_2⟩ := box3 BK269))
                have n0_ : Aside0 (Kd.R k110 110 (((w48.setCell ⟨gb269, 0, none⟩ (.int .i64 ((rd_T85 l2 x61_4).f0))).setCell ⟨gb269, 1, none⟩ (.int .i64 ((rd_T85 l2 x61_4).f1))).setCell ⟨gb269, 2, none⟩ (.int .i64 ((rd_T85 l2 x61_4).f2))) w.heap.size (fun k_ => k_ ≠ gb264) u12 x12_3) := ⟨by (with_reducible repeat (first | apply Kd.R_alloc | apply Kd.R_drewN | apply Kd.R_drew)); exact Kd.R_mono (farsR (Kd.R_types HO_12.out BK269.out (by decide))) (fun _ hk => hk.1)⟩
                have n1_ : Aside0 (Kd.R k85 85 (((w48.setCell ⟨gb269, 0, none⟩ (.int .i64 ((rd_T85 l2 x61_4).f0))).setCell ⟨gb269, 1, none⟩ (.int .i64 ((rd_T85 l2 x61_4).f1))).setCell ⟨gb269, 2, none⟩ (.int .i64 ((rd_T85 l2 x61_4).f2))) w.heap.size (fun k_ => k_ ≠ gb269) (.slice Ao28 t261.length co28) t261) := ⟨by (with_reducible repeat (first | apply Kd.R_alloc | apply Kd.R_drewN | apply Kd.R_drew)); exact Kd.R_mono (farsR (Kd.R_mono HO_14.out (fun k_ hk => (⟨hk, hk.2⟩ : _ ∧ k_ ≠ gb269)))) (fun _ hk => hk.1.2)⟩
                have n2_ : Aside0 ((((w48.setCell ⟨gb269, 0, none⟩ (.int .i64 ((rd_T85 l2 x61_4).f0))).setCell ⟨gb269, 1, none⟩ (.int .i64 ((rd_T85 l2 x61_4).f1))).setCell ⟨gb269, 2, none⟩ (.int .i64 ((rd_T85 l2 x61_4).f2))).heap[gb264]? = some (.cells #[.int .i64 x13_3, .int .i64 x265001_4, .int .i64 (t261.length : Int)] 110 (0, 0))) := ⟨by (with_reducible repeat (first | refine blk_drewN ?_ _ | refine blk_drew ?_ | refine blk_alloc ?_ _)); refine blk_far ?_ NB264_269.out _; (with_reducible repeat (first | refine blk_drewN ?_ _ | refine blk_drew ?_ | refine blk_alloc ?_ _)); refine blk_far ?_ NB264_269.out _; (with_reducible repeat (first | refine blk_drewN ?_ _ | refine blk_drew ?_ | refine blk_alloc ?_ _)); refine blk_far ?_ NB264_269.out _; (with_reducible repeat (first | refine blk_drewN ?_ _ | refine blk_drew ?_ | refine blk_alloc ?_ _)); exact BK264.out⟩
                have n3_ : Aside0 ((((w48.setCell ⟨gb269, 0, none⟩ (.int .i64 ((rd_T85 l2 x61_4).f0))).setCell ⟨gb269, 1, none⟩ (.int .i64 ((rd_T85 l2 x61_4).f1))).setCell ⟨gb269, 2, none⟩ (.int .i64 ((rd_T85 l2 x61_4).f2))).heap[gb269]? = some (.cells #[.int .i64 ((rd_T85 l2 x61_4).f0), .int .i64 ((rd_T85 l2 x61_4).f1), .int .i64 ((rd_T85 l2 x61_4).f2)] 85 (0, 0))) := ⟨by (with_reducible repeat (first | refine blk_drewN ?_ _ | refine blk_drew ?_ | refine blk_alloc ?_ _)); refine blk_put (cs := #[.int .i64 ((rd_T85 l2 x61_4).f0), .int .i64 ((rd_T85 l2 x61_4).f1), .int .i64 0]) ?_ 2 _ rfl; (with_reducible repeat (first | refine blk_drewN ?_ _ | refine blk_drew ?_ | refine blk_alloc ?_ _)); refine blk_put (cs := #[.int .i64 ((rd_T85 l2 x61_4).f0), .int .i64 0, .int .i64 0]) ?_ 1 _ rfl; (with_reducible repeat (first | refine blk_drewN ?_ _ | refine blk_drew ?_ | refine blk_alloc ?_ _)); refine blk_put (cs := #[.int .i64 0, .int .i64 0, .int .i64 0]) ?_ 0 _ rfl; (with_reducible repeat (first | refine blk_drewN ?_ _ | refine blk_drew ?_ | refine blk_alloc ?_ _)); exact BK269.out⟩
                have n4_ : Aside0 (Below w.heap.size w (((w48.setCell ⟨gb269, 0, none⟩ (.int .i64 ((rd_T85 l2 x61_4).f0))).setCell ⟨gb269, 1, none⟩ (.int .i64 ((rd_T85 l2 x61_4).f1))).setCell ⟨gb269, 2, none⟩ (.int .i64 ((rd_T85 l2 x61_4).f2)))) := ⟨belowg2 HB GE264 GE269⟩
                (try clear HO_12); (try clear HO_14); (try clear BK264); (try clear BK269); (try clear HB)
                generalize (((w48.setCell ⟨gb269, 0, none⟩ (.int .i64 ((rd_T85 l2 x61_4).f0))).setCell ⟨gb269, 1, none⟩ (.int .i64 ((rd_T85 l2 x61_4).f1))).setCell ⟨gb269, 2, none⟩ (.int .i64 ((rd_T85 l2 x61_4).f2))) = w51 at n0_ n1_ n2_ n3_ n4_ ⊢
                have HO_12 := n0_
                have HO_14 := n1_
                have BK264 := n2_
                have BK269 := n3_
                have HB := n4_
                clear n0_ n1_ n2_ n3_ n4_
                replace HO_12 := ak (Kd.R_drew HO_12.out)
                replace HO_14 := ak (Kd.R_drew HO_14.out)
                replace BK264 := ak (blk_drew BK264.out)
                replace BK269 := ak (blk_drew BK269.out)
                replace HB := ak (below_drew1 HB.out)
                have q53 : (x61_4 : Int) ≤ ((l2.length : Int) : Int) := da
                obtain ⟨i053, hi053, _, hsz53, _⟩ := info_parts info85
                have hroom53 : l2.length ≤ c2 := HC2.out
                have hC53 : Kd.C k85 _ (some ad268) l2.length l2 := HR2.out
                have hcut53 := cut_to (P := Try.prog) 70 85 .i64 Try.underlying70 hi053 (some ad268) l2.length c2 x61_4 (da) q53 hroom53
                have hr53 := Kd.C_take (m := (x61_4 : Int).toNat) hC53 (by omega)
                have hy53 : y270.length = (x61_4 : Int).toNat := (by rw [Ny270.out, List.length_take]; omega)
                rw [← Ny270.out] at hr53
                rw [← hy53] at hcut53
                have HR273 := Aside0.mk hr53
                have HC273 := Aside0.mk (show y270.length ≤ c2 from by omega)
                clear hr53 hC53 hroom53 hi053 hsz53; have KY53 := Aside0.mk hy53; clear hy53; replace q53 := eq_true q53
                refine start_ (n := 18) (S := fun w' => w'.cell? ⟨gb269, 0, none⟩ = some (.int .i64 ((rd_T85 l2 x61_4).f0)) ∧ w'.cell? ⟨gb269, 1, none⟩ = some (.int .i64 ((rd_T85 l2 x61_4).f1)) ∧ w'.cell? ⟨gb269, 2, none⟩ = some (.int .i64 ((rd_T85 l2 x61_4).f2))) (ds := []) (bl 18 0) (by kernel_rfl) rfl rfl ⟨bq BK269 0, bq BK269 1, bq BK269 2⟩ (fun hHeld => ?_); refine with_tabW spec_TallyOf.tab18 spec_TallyOf.bits18 (fun HT_ HW_ => ?_)
                generalize w51.drew = w52 at HO_12 HO_14 BK264 BK269 HB HR273 hHeld ⊢
                refine pureA 0 (some 66) 18 1 HT_ ?_
                refine pureA 2 (some 68) 18 5 HT_ ?_
                refine takeA 1 (some 67) 18 7 HT_ HW_ hHeld ?_ (hy := by rintro w' ⟨s0, s1, s2⟩; go_simp; with_reducible rfl)
                refine pureA 3 (some 69) 18 15 HT_ ?_
                refine pureA 4 (some 70) 18 31 HT_ ?_
                refine pureA 5 (some 71) 18 63 HT_ ?_
                refine pureA 6 (some 72) 18 127 HT_ ?_
                refine pureA 7 (some 73) 18 255 HT_ ?_
                refine takeA 8 (some 74) 18 511 HT_ HW_ hHeld ?_ (hy := by rintro w' ⟨s0, s1, s2⟩; go_simp; with_reducible rfl)
                refine oneA 9 (some 75) 18 1023 HT_ (fun K hK => ?_)
                refine goes_ Try.func156 (by kernel_rfl) rfl #[.slice (some ad268) y270.length c2, .agg #[.int .i64 ((rd_T85 l2 x61_4).f0), .int .i64 ((rd_T85 l2 x61_4).f1), .int .i64 ((rd_T85 l2 x61_4).f2)]] (by rfl) rfl rfl (by (try simp only [List.map_toArray, List.map_cons, List.map_nil]); first | done | rfl | (simp only [List.length_drop, List.length_take]; rfl)) ?_
                with_reducible refine (spec_l14HasClaim.calls k4 _ _ y270 ((rd_T85 l2 x61_4).f0) ((rd_T85 l2 x61_4).f1) ((rd_T85 l2 x61_4).f2) false _ ?side1 ?side2 A37.out).mono ?_
                (case side1 => exact cd (Kd.C_below HR273.out HB.out))
                (case side2 => exact HC273.out)
                rintro e w54 ⟨rfl, hb⟩
                refine ⟨_, rfl, ?_⟩
                replace HO_12 := ak (Kd.R_below (rdl HO_12) hb)
                replace HO_14 := ak (Kd.R_below (rdl HO_14) hb)
                replace BK264 := ak (blk_below (blkd BK264) hb)
                replace BK269 := ak (blk_below (blkd BK269) hb)
                replace HB := ak (below_step (belowg2 HB GE264 GE269) hb)
                (try clear hb); (try clear hb2); (try clear hk); (try clear hi)
                refine hK.out _ _ ⟨bq BK269 0, bq BK269 1, bq BK269 2⟩ (fun hHeld => ?_)
                clear hK K
                refine norm_ (a' := ?_) ?_ ?_
                rotate_left
                ·show Act.put _ (some 75) _ = _
                 simp only [Act.put, List.setIfInBounds_toArray, List.set_cons_zero, List.set_cons_succ, i64_w, i32_w]
                 rfl
                refine pureA 10 (some 76) 18 2047 HT_ ?_
                refine pureA 11 (some 77) 18 4095 HT_ ?_
                refine pureA 12 (some 78) 18 8191 HT_ ?_
                refine pureA 13 (some 79) 18 16383 HT_ ?_
                refine takeA 14 (some 80) 18 32767 HT_ HW_ hHeld ?_ (hy := by rintro w' ⟨s0, s1, s2⟩; go_simp; with_reducible rfl)
                refine oneA 15 (some 81) 18 65535 HT_ (fun K hK => ?_)
                refine goes_ Try.func156 (by kernel_rfl) rfl #[.slice Ao28 t261.length co28, .agg #[.int .i64 ((rd_T85 l2 x61_4).f0), .int .i64 ((rd_T85 l2 x61_4).f1), .int .i64 ((rd_T85 l2 x61_4).f2)]] (by rfl) rfl rfl (by (try simp only [List.map_toArray, List.map_cons, List.map_nil]); first | done | rfl | (simp only [List.length_drop, List.length_take]; rfl)) ?_
                with_reducible refine (spec_l14HasClaim.calls k4 _ _ t261 ((rd_T85 l2 x61_4).f0) ((rd_T85 l2 x61_4).f1) ((rd_T85 l2 x61_4).f2) true _ ?side1 ?side2 A46.out).mono ?_
                (case side1 => exact cd (Kd.R_reads' HO_14.out).2.2)
                (case side2 => exact (Kd.R_reads' HO_14.out).2.1)
                rintro e w55 ⟨rfl, hb⟩
                refine ⟨_, rfl, ?_⟩
                replace HO_12 := ak (Kd.R_below (rdl HO_12) hb)
                replace HO_14 := ak (Kd.R_below (rdl HO_14) hb)
                replace BK264 := ak (blk_below (blkd BK264) hb)
                replace BK269 := ak (blk_below (blkd BK269) hb)
                replace HB := ak (below_step (belowg2 HB GE264 GE269) hb)
                (try clear hb); (try clear hb2); (try clear hk); (try clear hi)
                refine hK.out _ _ ⟨bq BK269 0, bq BK269 1, bq BK269 2⟩ (fun hHeld => ?_)
                clear hK K
                refine norm_ (a' := ?_) ?_ ?_
                rotate_left
                ·show Act.put _ (some 81) _ = _
                 simp only [Act.put, List.setIfInBounds_toArray, List.set_cons_zero, List.set_cons_succ, i64_w, i32_w]
                 rfl
                refine pureA 16 (some 82) 18 131071 HT_ ?_
                refine pureA 17 (some 83) 18 262143 HT_ ?_
                refine done_ (done_of HT_.out (by kernel_rfl)) ?_
                try go_wp2
                go_roundg k4
                case measure => have := HJ4.out; have := HK2.out; have := HK3.out; have := HK4.out; omega
                case rel => exact ⟨(wrap64 (x61_4 + 1)), (x265001_4), er, H', ⟨by have := HJ4.out; have := HK2.out; have := HK3.out; have := HK4.out; omega⟩, ⟨rdl HO_12⟩, ⟨by (with_reducible repeat (first | apply Kd.R_alloc | apply Kd.R_drewN | apply Kd.R_drew)); exact Kd.R_mono HO_14.out (fun _ hk => trivial)⟩, ⟨blkd BK264⟩, ⟨belowg2 HB GE264 GE269⟩⟩
               ·replace c47 := Bool.eq_false_iff.mpr c47
                subst c47
                have H1 : (spec_TallyOf.l2 k4 a0 a1 l2 l3 x12_3 x13_3 t261 l2 (l2.length : Int) (wrap64 (x61_4 + 1)) x13_3 (wrap64 (x265001_4 + 1)) (t261.length : Int)) = some (r1, r2) := by rw [if_neg (show ¬ (false = true) by decide)] at H; exact H
                clear H
                have H := H1
                clear H1
                have H' := Aside0.mk H
                clear H
                have p268 : 0 ≤ (x61_4 : Int) := da
                have q268 : x61_4 < (l2.length : Int) := da
                obtain ⟨ad268, e268, hx268_0, hx268_1, hx268_2⟩ := at_T85 HR2.out x61_4 p268 q268
                cases e268
                replace hx268_0 := (HB.out.cell (World.block_lt_of_cell? w _ hx268_0)).trans hx268_0
                replace hx268_1 := (HB.out.cell (World.block_lt_of_cell? w _ hx268_1)).trans hx268_1
                replace hx268_2 := (HB.out.cell (World.block_lt_of_cell? w _ hx268_2)).trans hx268_2
                replace p268 := eq_true p268; replace q268 := eq_true q268
                try go_wp2_with (first | ((with_reducible refine gate_dst (N := 17) rfl ?_); (try (refine gate_guard (by rfl) ?_; dsimp only)); refine boxev 17 #[.int .i64 0, .int .i64 0, .int .i64 0] 85 ?_; intro gb269 hg w56 hbox hb; replace HO_12 := ak (Kd.R_below (rdl HO_12) hb); replace HO_14 := ak (Kd.R_below (Kd.R_elderB (rdl HO_14) gb269 (Nat.le_of_eq hg.symm)) hb); have BK269 := ak (hbox); have GW269 := ak (hgl hg (belowg1 HB GE264)); have GE269 := ak (hgl hg (belowg1 HB GE264)); replace HB := ak (below_step (belowg1 HB GE264) hb); have NB264_269 := ak ((by rw [hg]; exact Nat.ne_of_lt (blk_lt (blkd BK264)) : gb264 ≠ gb269)); have NB269_264 := ak ((by rw [hg]; exact Nat.ne_of_gt (blk_lt (blkd BK264)) : gb269 ≠ gb264)); replace BK264 := ak (blk_below (blkd BK264) hb); clear hb hbox hg; have hnb57 := NB269_264.out; have hnc57 := NB264_269.out; obtain ⟨hcz58_0, hcz58_1, hcz58_2, hfz58_0, hfz58_1, hfz58_2⟩ := box3 BK269))
                have n0_ : Aside0 (Kd.R k110 110 (((w56.setCell ⟨gb269, 0, none⟩ (.int .i64 ((rd_T85 l2 x61_4).f0))).setCell ⟨gb269, 1, none⟩ (.int .i64 ((rd_T85 l2 x61_4).f1))).setCell ⟨gb269, 2, none⟩ (.int .i64 ((rd_T85 l2 x61_4).f2))) w.heap.size (fun k_ => k_ ≠ gb264) u12 x12_3) := ⟨by (with_reducible repeat (first | apply Kd.R_alloc | apply Kd.R_drewN | apply Kd.R_drew)); exact Kd.R_mono (farsR (Kd.R_types HO_12.out BK269.out (by decide))) (fun _ hk => hk.1)⟩
                have n1_ : Aside0 (Kd.R k85 85 (((w56.setCell ⟨gb269, 0, none⟩ (.int .i64 ((rd_T85 l2 x61_4).f0))).setCell ⟨gb269, 1, none⟩ (.int .i64 ((rd_T85 l2 x61_4).f1))).setCell ⟨gb269, 2, none⟩ (.int .i64 ((rd_T85 l2 x61_4).f2))) w.heap.size (fun k_ => k_ ≠ gb269) (.slice Ao28 t261.length co28) t261) := ⟨by (with_reducible repeat (first | apply Kd.R_alloc | apply Kd.R_drewN | apply Kd.R_drew)); exact Kd.R_mono (farsR (Kd.R_mono HO_14.out (fun k_ hk => (⟨hk, hk.2⟩ : _ ∧ k_ ≠ gb269)))) (fun _ hk => hk.1.2)⟩
                have n2_ : Aside0 ((((w56.setCell ⟨gb269, 0, none⟩ (.int .i64 ((rd_T85 l2 x61_4).f0))).setCell ⟨gb269, 1, none⟩ (.int .i64 ((rd_T85 l2 x61_4).f1))).setCell ⟨gb269, 2, none⟩ (.int .i64 ((rd_T85 l2 x61_4).f2))).heap[gb264]? = some (.cells #[.int .i64 x13_3, .int .i64 x265001_4, .int .i64 (t261.length : Int)] 110 (0, 0))) := ⟨by (with_reducible repeat (first | refine blk_drewN ?_ _ | refine blk_drew ?_ | refine blk_alloc ?_ _)); refine blk_far ?_ NB264_269.out _; (with_reducible repeat (first | refine blk_drewN ?_ _ | refine blk_drew ?_ | refine blk_alloc ?_ _)); refine blk_far ?_ NB264_269.out _; (with_reducible repeat (first | refine blk_drewN ?_ _ | refine blk_drew ?_ | refine blk_alloc ?_ _)); refine blk_far ?_ NB264_269.out _; (with_reducible repeat (first | refine blk_drewN ?_ _ | refine blk_drew ?_ | refine blk_alloc ?_ _)); exact BK264.out⟩
                have n3_ : Aside0 ((((w56.setCell ⟨gb269, 0, none⟩ (.int .i64 ((rd_T85 l2 x61_4).f0))).setCell ⟨gb269, 1, none⟩ (.int .i64 ((rd_T85 l2 x61_4).f1))).setCell ⟨gb269, 2, none⟩ (.int .i64 ((rd_T85 l2 x61_4).f2))).heap[gb269]? = some (.cells #[.int .i64 ((rd_T85 l2 x61_4).f0), .int .i64 ((rd_T85 l2 x61_4).f1), .int .i64 ((rd_T85 l2 x61_4).f2)] 85 (0, 0))) := ⟨by (with_reducible repeat (first | refine blk_drewN ?_ _ | refine blk_drew ?_ | refine blk_alloc ?_ _)); refine blk_put (cs := #[.int .i64 ((rd_T85 l2 x61_4).f0), .int .i64 ((rd_T85 l2 x61_4).f1), .int .i64 0]) ?_ 2 _ rfl; (with_reducible repeat (first | refine blk_drewN ?_ _ | refine blk_drew ?_ | refine blk_alloc ?_ _)); refine blk_put (cs := #[.int .i64 ((rd_T85 l2 x61_4).f0), .int .i64 0, .int .i64 0]) ?_ 1 _ rfl; (with_reducible repeat (first | refine blk_drewN ?_ _ | refine blk_drew ?_ | refine blk_alloc ?_ _)); refine blk_put (cs := #[.int .i64 0, .int .i64 0, .int .i64 0]) ?_ 0 _ rfl; (with_reducible repeat (first | refine blk_drewN ?_ _ | refine blk_drew ?_ | refine blk_alloc ?_ _)); exact BK269.out⟩
                have n4_ : Aside0 (Below w.heap.size w (((w56.setCell ⟨gb269, 0, none⟩ (.int .i64 ((rd_T85 l2 x61_4).f0))).setCell ⟨gb269, 1, none⟩ (.int .i64 ((rd_T85 l2 x61_4).f1))).setCell ⟨gb269, 2, none⟩ (.int .i64 ((rd_T85 l2 x61_4).f2)))) := ⟨belowg2 HB GE264 GE269⟩
                (try clear HO_12); (try clear HO_14); (try clear BK264); (try clear BK269); (try clear HB)
                generalize (((w56.setCell ⟨gb269, 0, none⟩ (.int .i64 ((rd_T85 l2 x61_4).f0))).setCell ⟨gb269, 1, none⟩ (.int .i64 ((rd_T85 l2 x61_4).f1))).setCell ⟨gb269, 2, none⟩ (.int .i64 ((rd_T85 l2 x61_4).f2))) = w59 at n0_ n1_ n2_ n3_ n4_ ⊢
                have HO_12 := n0_
                have HO_14 := n1_
                have BK264 := n2_
                have BK269 := n3_
                have HB := n4_
                clear n0_ n1_ n2_ n3_ n4_
                replace HO_12 := ak (Kd.R_drew HO_12.out)
                replace HO_14 := ak (Kd.R_drew HO_14.out)
                replace BK264 := ak (blk_drew BK264.out)
                replace BK269 := ak (blk_drew BK269.out)
                replace HB := ak (below_drew1 HB.out)
                have q61 : (x61_4 : Int) ≤ ((l2.length : Int) : Int) := da
                obtain ⟨i061, hi061, _, hsz61, _⟩ := info_parts info85
                have hroom61 : l2.length ≤ c2 := HC2.out
                have hC61 : Kd.C k85 _ (some ad268) l2.length l2 := HR2.out
                have hcut61 := cut_to (P := Try.prog) 70 85 .i64 Try.underlying70 hi061 (some ad268) l2.length c2 x61_4 (da) q61 hroom61
                have hr61 := Kd.C_take (m := (x61_4 : Int).toNat) hC61 (by omega)
                have hy61 : y270.length = (x61_4 : Int).toNat := (by rw [Ny270.out, List.length_take]; omega)
                rw [← Ny270.out] at hr61
                rw [← hy61] at hcut61
                have HR273 := Aside0.mk hr61
                have HC273 := Aside0.mk (show y270.length ≤ c2 from by omega)
                clear hr61 hC61 hroom61 hi061 hsz61; have KY61 := Aside0.mk hy61; clear hy61; replace q61 := eq_true q61
                refine start_ (n := 18) (S := fun w' => w'.cell? ⟨gb269, 0, none⟩ = some (.int .i64 ((rd_T85 l2 x61_4).f0)) ∧ w'.cell? ⟨gb269, 1, none⟩ = some (.int .i64 ((rd_T85 l2 x61_4).f1)) ∧ w'.cell? ⟨gb269, 2, none⟩ = some (.int .i64 ((rd_T85 l2 x61_4).f2))) (ds := []) (bl 18 0) (by kernel_rfl) rfl rfl ⟨bq BK269 0, bq BK269 1, bq BK269 2⟩ (fun hHeld => ?_); refine with_tabW spec_TallyOf.tab18 spec_TallyOf.bits18 (fun HT_ HW_ => ?_)
                generalize w59.drew = w60 at HO_12 HO_14 BK264 BK269 HB HR273 hHeld ⊢
                refine pureA 0 (some 66) 18 1 HT_ ?_
                refine pureA 2 (some 68) 18 5 HT_ ?_
                refine takeA 1 (some 67) 18 7 HT_ HW_ hHeld ?_ (hy := by rintro w' ⟨s0, s1, s2⟩; go_simp; with_reducible rfl)
                refine pureA 3 (some 69) 18 15 HT_ ?_
                refine pureA 4 (some 70) 18 31 HT_ ?_
                refine pureA 5 (some 71) 18 63 HT_ ?_
                refine pureA 6 (some 72) 18 127 HT_ ?_
                refine pureA 7 (some 73) 18 255 HT_ ?_
                refine takeA 8 (some 74) 18 511 HT_ HW_ hHeld ?_ (hy := by rintro w' ⟨s0, s1, s2⟩; go_simp; with_reducible rfl)
                refine oneA 9 (some 75) 18 1023 HT_ (fun K hK => ?_)
                refine goes_ Try.func156 (by kernel_rfl) rfl #[.slice (some ad268) y270.length c2, .agg #[.int .i64 ((rd_T85 l2 x61_4).f0), .int .i64 ((rd_T85 l2 x61_4).f1), .int .i64 ((rd_T85 l2 x61_4).f2)]] (by rfl) rfl rfl (by (try simp only [List.map_toArray, List.map_cons, List.map_nil]); first | done | rfl | (simp only [List.length_drop, List.length_take]; rfl)) ?_
                with_reducible refine (spec_l14HasClaim.calls k4 _ _ y270 ((rd_T85 l2 x61_4).f0) ((rd_T85 l2 x61_4).f1) ((rd_T85 l2 x61_4).f2) false _ ?side1 ?side2 A37.out).mono ?_
                (case side1 => exact cd (Kd.C_below HR273.out HB.out))
                (case side2 => exact HC273.out)
                rintro e w62 ⟨rfl, hb⟩
                refine ⟨_, rfl, ?_⟩
                replace HO_12 := ak (Kd.R_below (rdl HO_12) hb)
                replace HO_14 := ak (Kd.R_below (rdl HO_14) hb)
                replace BK264 := ak (blk_below (blkd BK264) hb)
                replace BK269 := ak (blk_below (blkd BK269) hb)
                replace HB := ak (below_step (belowg2 HB GE264 GE269) hb)
                (try clear hb); (try clear hb2); (try clear hk); (try clear hi)
                refine hK.out _ _ ⟨bq BK269 0, bq BK269 1, bq BK269 2⟩ (fun hHeld => ?_)
                clear hK K
                refine norm_ (a' := ?_) ?_ ?_
                rotate_left
                ·show Act.put _ (some 75) _ = _
                 simp only [Act.put, List.setIfInBounds_toArray, List.set_cons_zero, List.set_cons_succ, i64_w, i32_w]
                 rfl
                refine pureA 10 (some 76) 18 2047 HT_ ?_
                refine pureA 11 (some 77) 18 4095 HT_ ?_
                refine pureA 12 (some 78) 18 8191 HT_ ?_
                refine pureA 13 (some 79) 18 16383 HT_ ?_
                refine takeA 14 (some 80) 18 32767 HT_ HW_ hHeld ?_ (hy := by rintro w' ⟨s0, s1, s2⟩; go_simp; with_reducible rfl)
                refine oneA 15 (some 81) 18 65535 HT_ (fun K hK => ?_)
                refine goes_ Try.func156 (by kernel_rfl) rfl #[.slice Ao28 t261.length co28, .agg #[.int .i64 ((rd_T85 l2 x61_4).f0), .int .i64 ((rd_T85 l2 x61_4).f1), .int .i64 ((rd_T85 l2 x61_4).f2)]] (by rfl) rfl rfl (by (try simp only [List.map_toArray, List.map_cons, List.map_nil]); first | done | rfl | (simp only [List.length_drop, List.length_take]; rfl)) ?_
                with_reducible refine (spec_l14HasClaim.calls k4 _ _ t261 ((rd_T85 l2 x61_4).f0) ((rd_T85 l2 x61_4).f1) ((rd_T85 l2 x61_4).f2) false _ ?side1 ?side2 A46.out).mono ?_
                (case side1 => exact cd (Kd.R_reads' HO_14.out).2.2)
                (case side2 => exact (Kd.R_reads' HO_14.out).2.1)
                rintro e w63 ⟨rfl, hb⟩
                refine ⟨_, rfl, ?_⟩
                replace HO_12 := ak (Kd.R_below (rdl HO_12) hb)
                replace HO_14 := ak (Kd.R_below (rdl HO_14) hb)
                replace BK264 := ak (blk_below (blkd BK264) hb)
                replace BK269 := ak (blk_below (blkd BK269) hb)
                replace HB := ak (below_step (belowg2 HB GE264 GE269) hb)
                (try clear hb); (try clear hb2); (try clear hk); (try clear hi)
                refine hK.out _ _ ⟨bq BK269 0, bq BK269 1, bq BK269 2⟩ (fun hHeld => ?_)
                clear hK K
                refine norm_ (a' := ?_) ?_ ?_
                rotate_left
                ·show Act.put _ (some 81) _ = _
                 simp only [Act.put, List.setIfInBounds_toArray, List.set_cons_zero, List.set_cons_succ, i64_w, i32_w]
                 rfl
                refine pureA 16 (some 82) 18 131071 HT_ ?_
                refine pureA 17 (some 83) 18 262143 HT_ ?_
                refine done_ (done_of HT_.out (by kernel_rfl)) ?_
                obtain ⟨hcz64_0, hcz64_1, hcz64_2, hfz64_0, hfz64_1, hfz64_2⟩ := box3 BK264
                try go_wp2
                go_roundg k4
                case measure => have := HJ4.out; have := HK2.out; have := HK3.out; have := HK4.out; omega
                case rel => exact ⟨(wrap64 (x61_4 + 1)), (wrap64 (x265001_4 + 1)), er, H', ⟨by have := HJ4.out; have := HK2.out; have := HK3.out; have := HK4.out; omega⟩, ⟨by (with_reducible repeat (first | apply Kd.R_alloc | apply Kd.R_drewN | apply Kd.R_drew)); exact Kd.R_mono (Kd.R_far (p := ⟨gb264, 1, none⟩) (Kd.R_mono HO_12.out (fun k_ hk => (⟨hk, hk⟩ : _ ∧ k_ ≠ gb264))) (fun _ hk => hk.2) (.int .i64 (wrap64 (x265001_4 + 1)))) (fun _ hk => hk.1)⟩, ⟨by (with_reducible repeat (first | apply Kd.R_alloc | apply Kd.R_drewN | apply Kd.R_drew)); exact Kd.R_mono (Kd.R_far (p := ⟨gb264, 1, none⟩) (Kd.R_types HO_14.out BK264.out (by decide)) (fun _ hk => hk.2) (.int .i64 (wrap64 (x265001_4 + 1)))) (fun _ hk => trivial)⟩, ⟨by (with_reducible repeat (first | refine blk_drewN ?_ _ | refine blk_drew ?_ | refine blk_alloc ?_ _)); refine blk_put (cs := #[.int .i64 x13_3, .int .i64 x265001_4, .int .i64 (t261.length : Int)]) ?_ 1 _ rfl; (with_reducible repeat (first | refine blk_drewN ?_ _ | refine blk_drew ?_ | refine blk_alloc ?_ _)); exact BK264.out⟩, ⟨belowg2 HB GE264 GE269⟩⟩
             ·rw [if_neg c34] at H
              have c34b0 : (((rd_T85 l2 x61_4).f0) == x13_3) = false := beq_eq_false_iff_ne.mpr c34
              have c34b1 : (((rd_T85 l2 x61_4).f0) != x13_3) = true := bne_iff_ne.mpr c34
              have H' := Aside0.mk H
              clear H
              have p268 : 0 ≤ (x61_4 : Int) := da
              have q268 : x61_4 < (l2.length : Int) := da
              obtain ⟨ad268, e268, hx268_0, hx268_1, hx268_2⟩ := at_T85 HR2.out x61_4 p268 q268
              cases e268
              replace hx268_0 := (HB.out.cell (World.block_lt_of_cell? w _ hx268_0)).trans hx268_0
              replace hx268_1 := (HB.out.cell (World.block_lt_of_cell? w _ hx268_1)).trans hx268_1
              replace hx268_2 := (HB.out.cell (World.block_lt_of_cell? w _ hx268_2)).trans hx268_2
              replace p268 := eq_true p268; replace q268 := eq_true q268
              try go_wp2_with (first | ((with_reducible refine gate_dst (N := 17) rfl ?_); (try (refine gate_guard (by rfl) ?_; dsimp only)); refine boxev 17 #[.int .i64 0, .int .i64 0, .int .i64 0] 85 ?_; intro gb269 hg w65 hbox hb; replace HO_12 := ak (Kd.R_below (rdl HO_12) hb); replace HO_14 := ak (Kd.R_below (Kd.R_elderB (rdl HO_14) gb269 (Nat.le_of_eq hg.symm)) hb); have BK269 := ak (hbox); have GW269 := ak (hgl hg (belowg1 HB GE264)); have GE269 := ak (hgl hg (belowg1 HB GE264)); replace HB := ak (below_step (belowg1 HB GE264) hb); have NB264_269 := ak ((by rw [hg]; exact Nat.ne_of_lt (blk_lt (blkd BK264)) : gb264 ≠ gb269)); have NB269_264 := ak ((by rw [hg]; exact Nat.ne_of_gt (blk_lt (blkd BK264)) : gb269 ≠ gb264)); replace BK264 := ak (blk_below (blkd BK264) hb); clear hb hbox hg; have hnb66 := NB269_264.out; have hnc66 := NB264_269.out; obtain ⟨hcz67_0, hcz67_1, hcz67_2, hfz67_0, hfz67_1, hfz67_2⟩ := box3 BK269))
              have n0_ : Aside0 (Kd.R k110 110 (((w65.setCell ⟨gb269, 0, none⟩ (.int .i64 ((rd_T85 l2 x61_4).f0))).setCell ⟨gb269, 1, none⟩ (.int .i64 ((rd_T85 l2 x61_4).f1))).setCell ⟨gb269, 2, none⟩ (.int .i64 ((rd_T85 l2 x61_4).f2))) w.heap.size (fun k_ => k_ ≠ gb264) u12 x12_3) := ⟨by (with_reducible repeat (first | apply Kd.R_alloc | apply Kd.R_drewN | apply Kd.R_drew)); exact Kd.R_mono (farsR (Kd.R_types HO_12.out BK269.out (by decide))) (fun _ hk => hk.1)⟩
              have n1_ : Aside0 (Kd.R k85 85 (((w65.setCell ⟨gb269, 0, none⟩ (.int .i64 ((rd_T85 l2 x61_4).f0))).setCell ⟨gb269, 1, none⟩ (.int .i64 ((rd_T85 l2 x61_4).f1))).setCell ⟨gb269, 2, none⟩ (.int .i64 ((rd_T85 l2 x61_4).f2))) w.heap.size (fun k_ => k_ ≠ gb269) (.slice Ao28 t261.length co28) t261) := ⟨by (with_reducible repeat (first | apply Kd.R_alloc | apply Kd.R_drewN | apply Kd.R_drew)); exact Kd.R_mono (farsR (Kd.R_mono HO_14.out (fun k_ hk => (⟨hk, hk.2⟩ : _ ∧ k_ ≠ gb269)))) (fun _ hk => hk.1.2)⟩
              have n2_ : Aside0 ((((w65.setCell ⟨gb269, 0, none⟩ (.int .i64 ((rd_T85 l2 x61_4).f0))).setCell ⟨gb269, 1, none⟩ (.int .i64 ((rd_T85 l2 x61_4).f1))).setCell ⟨gb269, 2, none⟩ (.int .i64 ((rd_T85 l2 x61_4).f2))).heap[gb264]? = some (.cells #[.int .i64 x13_3, .int .i64 x265001_4, .int .i64 (t261.length : Int)] 110 (0, 0))) := ⟨by (with_reducible repeat (first | refine blk_drewN ?_ _ | refine blk_drew ?_ | refine blk_alloc ?_ _)); refine blk_far ?_ NB264_269.out _; (with_reducible repeat (first | refine blk_drewN ?_ _ | refine blk_drew ?_ | refine blk_alloc ?_ _)); refine blk_far ?_ NB264_269.out _; (with_reducible repeat (first | refine blk_drewN ?_ _ | refine blk_drew ?_ | refine blk_alloc ?_ _)); refine blk_far ?_ NB264_269.out _; (with_reducible repeat (first | refine blk_drewN ?_ _ | refine blk_drew ?_ | refine blk_alloc ?_ _)); exact BK264.out⟩
              have n3_ : Aside0 ((((w65.setCell ⟨gb269, 0, none⟩ (.int .i64 ((rd_T85 l2 x61_4).f0))).setCell ⟨gb269, 1, none⟩ (.int .i64 ((rd_T85 l2 x61_4).f1))).setCell ⟨gb269, 2, none⟩ (.int .i64 ((rd_T85 l2 x61_4).f2))).heap[gb269]? = some (.cells #[.int .i64 ((rd_T85 l2 x61_4).f0), .int .i64 ((rd_T85 l2 x61_4).f1), .int .i64 ((rd_T85 l2 x61_4).f2)] 85 (0, 0))) := ⟨by (with_reducible repeat (first | refine blk_drewN ?_ _ | refine blk_drew ?_ | refine blk_alloc ?_ _)); refine blk_put (cs := #[.int .i64 ((rd_T85 l2 x61_4).f0), .int .i64 ((rd_T85 l2 x61_4).f1), .int .i64 0]) ?_ 2 _ rfl; (with_reducible repeat (first | refine blk_drewN ?_ _ | refine blk_drew ?_ | refine blk_alloc ?_ _)); refine blk_put (cs := #[.int .i64 ((rd_T85 l2 x61_4).f0), .int .i64 0, .int .i64 0]) ?_ 1 _ rfl; (with_reducible repeat (first | refine blk_drewN ?_ _ | refine blk_drew ?_ | refine blk_alloc ?_ _)); refine blk_put (cs := #[.int .i64 0, .int .i64 0, .int .i64 0]) ?_ 0 _ rfl; (with_reducible repeat (first | refine blk_drewN ?_ _ | refine blk_drew ?_ | refine blk_alloc ?_ _)); exact BK269.out⟩
              have n4_ : Aside0 (Below w.heap.size w (((w65.setCell ⟨gb269, 0, none⟩ (.int .i64 ((rd_T85 l2 x61_4).f0))).setCell ⟨gb269, 1, none⟩ (.int .i64 ((rd_T85 l2 x61_4).f1))).setCell ⟨gb269, 2, none⟩ (.int .i64 ((rd_T85 l2 x61_4).f2)))) := ⟨belowg2 HB GE264 GE269⟩
              (try clear HO_12); (try clear HO_14); (try clear BK264); (try clear BK269); (try clear HB)
              generalize (((w65.setCell ⟨gb269, 0, none⟩ (.int .i64 ((rd_T85 l2 x61_4).f0))).setCell ⟨gb269, 1, none⟩ (.int .i64 ((rd_T85 l2 x61_4).f1))).setCell ⟨gb269, 2, none⟩ (.int .i64 ((rd_T85 l2 x61_4).f2))) = w68 at n0_ n1_ n2_ n3_ n4_ ⊢
              have HO_12 := n0_
              have HO_14 := n1_
              have BK264 := n2_
              have BK269 := n3_
              have HB := n4_
              clear n0_ n1_ n2_ n3_ n4_
              replace HO_12 := ak (Kd.R_drew HO_12.out)
              replace HO_14 := ak (Kd.R_drew HO_14.out)
              replace BK264 := ak (blk_drew BK264.out)
              replace BK269 := ak (blk_drew BK269.out)
              replace HB := ak (below_drew1 HB.out)
              refine start_ (n := 18) (S := fun w' => w'.cell? ⟨gb269, 0, none⟩ = some (.int .i64 ((rd_T85 l2 x61_4).f0)) ∧ w'.cell? ⟨gb269, 1, none⟩ = some (.int .i64 ((rd_T85 l2 x61_4).f1)) ∧ w'.cell? ⟨gb269, 2, none⟩ = some (.int .i64 ((rd_T85 l2 x61_4).f2))) (ds := []) (bl 18 0) (by kernel_rfl) rfl rfl ⟨bq BK269 0, bq BK269 1, bq BK269 2⟩ (fun hHeld => ?_); refine with_tabW spec_TallyOf.tab18 spec_TallyOf.bits18 (fun HT_ HW_ => ?_)
              generalize w68.drew = w69 at HO_12 HO_14 BK264 BK269 HB hHeld ⊢
              refine pureA 0 (some 66) 18 1 HT_ ?_
              refine pureA 2 (some 68) 18 5 HT_ ?_
              refine takeA 1 (some 67) 18 7 HT_ HW_ hHeld ?_ (hy := by rintro w' ⟨s0, s1, s2⟩; go_simp; with_reducible rfl)
              refine pureA 3 (some 69) 18 15 HT_ ?_
              refine pureA 4 (some 70) 18 31 HT_ ?_
              refine pureB 5 (some 71) 18 63 HT_ ?_
              refine pureB 6 (some 72) 18 127 HT_ ?_
              refine pureB 7 (some 73) 18 255 HT_ ?_
              refine pureB 8 (some 74) 18 511 HT_ ?_
              refine pureB 9 (some 75) 18 1023 HT_ ?_
              refine pureB 10 (some 76) 18 2047 HT_ ?_
              refine pureA 11 (some 77) 18 4095 HT_ ?_
              refine pureA 12 (some 78) 18 8191 HT_ ?_
              refine pureB 13 (some 79) 18 16383 HT_ ?_
              refine pureB 14 (some 80) 18 32767 HT_ ?_
              refine pureB 15 (some 81) 18 65535 HT_ ?_
              refine pureB 16 (some 82) 18 131071 HT_ ?_
              refine pureA 17 (some 83) 18 262143 HT_ ?_
              refine done_ (done_of HT_.out (by kernel_rfl)) ?_
              try go_wp2
              go_roundg k4
              case measure => have := HJ4.out; have := HK2.out; have := HK3.out; have := HK4.out; omega
              case rel => exact ⟨(wrap64 (x61_4 + 1)), (x265001_4), er, H', ⟨by have := HJ4.out; have := HK2.out; have := HK3.out; have := HK4.out; omega⟩, ⟨rdl HO_12⟩, ⟨by (with_reducible repeat (first | apply Kd.R_alloc | apply Kd.R_drewN | apply Kd.R_drew)); exact Kd.R_mono HO_14.out (fun _ hk => trivial)⟩, ⟨blkd BK264⟩, ⟨belowg2 HB GE264 GE269⟩⟩
            ·rw [if_neg c31] at H
             have c31b0 : decide (x61_4 < (l2.length : Int)) = false := decide_eq_false c31
             clear c31; replace H := ifS H; obtain ⟨c70, H⟩ := H; have LMc70 := Aside0.mk c70; clear c70
             obtain ⟨y265, hy_⟩ : ∃ y_ : List (S110), y_ = (x12_3 ++ [(⟨x13_3, x265001_4, (t261.length : Int)⟩ : S110)]) := ⟨_, rfl⟩
             replace H : (spec_TallyOf.l1 k4 a0 a1 l2 l3 y265 (wrap64 (x13_3 + 1))) = some (r1, r2) := yH
             have Ny265 := ak hy_; clear hy_
             have H' := Aside0.mk H
             clear H; obtain ⟨hcz71_0, hcz71_1, hcz71_2, hfz71_0, hfz71_1, hfz71_2⟩ := box3 BK264
             go_wp2_with (first | ((with_reducible refine gate_builtin (b := .append) (xs := #[.tmp 89, .tmp 91]) rfl ?_); (try (refine gate_guard (by rfl) ?_; dsimp only)); at_builtin; refine Kd.R_append k110 (w0 := w) w.heap.size rfl (.tmp 89) (.tmp 91) 99 110 (.agg #[(.int .i64 0), (.int .i64 0), (.int .i64 0)]) 24 rfl Try.underlying99 info110 rfl (by decide) (by omega) u12 x12_3 (⟨x13_3, x265001_4, (t261.length : Int)⟩ : S110) [.int .i64 x13_3, .int .i64 x265001_4, .int .i64 (t261.length : Int)] (fun k_ => k_ ≠ gb264) (fun _ => False) rfl rfl ?aP (fun _ hk => hk.elim) ?aF ?aO ?aB ?aS ?aL ?_; (case aP => exact k110_mkM _ _ _ (⟨x13_3, x265001_4, (t261.length : Int)⟩ : S110)); (case aB => exact (belowg1 HB GE264)); (case aF => exact (fun k_ hk => Kd.freshB (blkd BK264) k_ hk)); (case aO => exact (rdl HO_12)); (case aS => exact (below_size (belowg1 HB GE264))); (case aL => have := LMc70.out; omega); intro v266 w72 ho hb hg hat; rw [← Ny265.out] at ho; replace HO_14 := ak (Kd.R_over' (rdl HO_14) (Kd.R_typed (rdl HO_12)) (by decide) hg); replace BK264 := ak (blk_grown (blkd BK264) hg (Kd.R_away HO_12.out (fun _ hk => hk))); replace HB := ak (hb); have HO267 := ak (ho); clear HO_12; clear ho hb hg hat))
             go_roundg k4
             case measure => have := HJ4.out; have := HK2.out; have := HK3.out; have := HK4.out; omega
             case rel => exact ⟨(y265), (wrap64 (x13_3 + 1)), er, H', ⟨by have := HJ4.out; have := HK2.out; have := HK3.out; have := HK4.out; omega⟩, ⟨by (with_reducible repeat (first | apply Kd.R_alloc | apply Kd.R_drewN | apply Kd.R_drew)); exact Kd.R_mono HO267.out (fun _ hk => trivial)⟩, ⟨belowg1 HB GE264⟩⟩
         ·rw [if_neg c25] at H
          have c25b0 : decide (x13_3 < a0) = false := decide_eq_false c25
          clear c25
          simp only [Option.some.injEq, Prod.mk.injEq] at H
          obtain ⟨rfl, rfl⟩ := H; go_wp2
          go_ret2
          exact ⟨_, er2, by (with_reducible repeat (first | apply Kd.R_alloc | apply Kd.R_drewN | apply Kd.R_drew)); exact HO_12.out, belowd HB⟩

-- NOT PRINTED: function 208 (impl_Claim_208)

-- NOT PRINTED: function 158 (impl_Claim_158)

/-! ### impl_Claim_209: function 209 -/
def impl_Claim_209.l0 : Nat → List (S85) → Int → Int → Int → Int → Int → Option (Int)
  | 0, _, _, _, _, _, _ => none
  | k + 1, x0, x7, x8, x277000, x277001, x277002 => if x8 < x7 then (if 0 ≤ x8 then (if x8 < (x0.length : Int) then (if (x277000 == ((rd_T85 x0 x8).f0) && (x277001 == ((rd_T85 x0 x8).f1) && (x277002 == ((rd_T85 x0 x8).f2)))) = true then (some x8) else (impl_Claim_209.l0 k x0 x7 (wrap64 (x8 + 1)) x277000 x277001 x277002)) else (none)) else (none)) else (some (-1))
def impl_Claim_209.f (k : Nat) (l0 : List (S85)) (a1_0 : Int) (a1_1 : Int) (a1_2 : Int) : Option (Int) := impl_Claim_209.l0 k l0 (l0.length : Int) 0 a1_0 a1_1 a1_2
theorem impl_Claim_209.mono_l : ∀ k, (∀ y0 y1 y2 y3 y4 y5, LeO (impl_Claim_209.l0 k y0 y1 y2 y3 y4 y5) (impl_Claim_209.l0 (k + 1) y0 y1 y2 y3 y4 y5))
 | 0 => fun _ _ _ _ _ _ r h => by simp [impl_Claim_209.l0] at h
 | k + 1 => by
  have ih0 := impl_Claim_209.mono_l k
  ·intro y0 y1 y2 y3 y4 y5
   unfold impl_Claim_209.l0
   repeat' (first | (with_reducible first | exact ih0 _ _ _ _ _ _ | exact LeO.refl _ | exact LeO.none _ | refine LeO.ite ?_ ?_ | refine LeO.bind ?_ (fun _ => ?_)) | exact ih0 _ _ _ _ _ _ | exact LeO.none _ | refine LeO.ite ?_ ?_ | refine LeO.bind ?_ (fun _ => ?_))
theorem impl_Claim_209.mono : ∀ a0 a1 a2 a3 k, LeO (impl_Claim_209.f k a0 a1 a2 a3) (impl_Claim_209.f (k + 1) a0 a1 a2 a3) := by
 intro a0 a1 a2 a3 k
 have ih0 := impl_Claim_209.mono_l k
 unfold impl_Claim_209.f
 repeat' (first | (with_reducible first | exact ih0 _ _ _ _ _ _ | exact LeO.refl _ | exact LeO.none _ | refine LeO.ite ?_ ?_ | refine LeO.bind ?_ (fun _ => ?_)) | exact ih0 _ _ _ _ _ _ | exact LeO.none _ | refine LeO.ite ?_ ?_ | refine LeO.bind ?_ (fun _ => ?_))
set_option maxHeartbeats 8000000 in
set_option maxRecDepth 100000 in
theorem impl_Claim_209.calls (k : Nat) (A0 : Option Addr) (c0 : Nat) (l0 : List (S85)) (a1_0 : Int) (a1_1 : Int) (a1_2 : Int) (r : Int) (w : World) (hr0 : Kd.C k85 w A0 l0.length l0) (hc0 : l0.length ≤ c0) (h : impl_Claim_209.f k l0 a1_0 a1_1 a1_2 = some r) :
  Calls Try.prog 209 #[.slice A0 l0.length c0, .agg #[.int .i64 a1_0, .int .i64 a1_1, .int .i64 a1_2]] w fun e w' => e = .returned (.int .i64 r) ∧ Below w.heap.size w w' := by
 have hu85 := Try.underlying85
 have HR0 := Aside0.mk hr0; have HC0 := Aside0.mk hc0; clear hr0 hc0
 have HB := Aside0.mk (Below.refl w.heap.size w)
 have H : (impl_Claim_209.l0 k l0 (l0.length : Int) 0 a1_0 a1_1 a1_2) = some r := h
 clear h
 have H' := Aside0.mk H
 clear H
 go_enter Try.func209, Try.ntmps209
 go_wp2_with (first | ((with_reducible refine gate_dst (N := 3) rfl ?_); refine boxev 3 #[.int .i64 a1_0, .int .i64 a1_1, .int .i64 a1_2] 85 ?_; intro gb276 hg w3 hbox hb; have BK276 := ak (hbox); have GW276 := ak (hgl hg (belowd HB)); have GE276 := ak (hgl hg (belowd HB)); replace HB := ak (below_step (belowd HB) hb); clear hb hbox hg))
 repeat (go_quiet (first | ((with_reducible refine gate_dst (N := 3) rfl ?_); refine boxev 3 #[.int .i64 a1_0, .int .i64 a1_1, .int .i64 a1_2] 85 ?_; intro gb276 hg w3 hbox hb; have BK276 := ak (hbox); have GW276 := ak (hgl hg (belowd HB)); have GE276 := ak (hgl hg (belowd HB)); replace HB := ak (below_step (belowd HB) hb); clear hb hbox hg)); try go_wp2_with (first | ((with_reducible refine gate_dst (N := 3) rfl ?_); refine boxev 3 #[.int .i64 a1_0, .int .i64 a1_1, .int .i64 a1_2] 85 ?_; intro gb276 hg w3 hbox hb; have BK276 := ak (hbox); have GW276 := ak (hgl hg (belowd HB)); have GE276 := ak (hgl hg (belowd HB)); replace HB := ak (below_step (belowd HB) hb); clear hb hbox hg)))
 go_loopg [8] k (fun kq v8 w' => ∃ (x8_1 : Int), v8 = .int .i64 x8_1 ∧ Aside0 (impl_Claim_209.l0 kq l0 (l0.length : Int) x8_1 a1_0 a1_1 a1_2 = some r) ∧ Aside0 (kq ≤ k) ∧ Aside0 (w'.heap[gb276]? = some (.cells #[.int .i64 a1_0, .int .i64 a1_1, .int .i64 a1_2] 85 (0, 0))) ∧ Aside0 (Below w.heap.size w w'))
 case atStart => exact ⟨(0), er, H', ⟨Nat.le_refl _⟩, ⟨blkd BK276⟩, ⟨belowg1 HB GE276⟩⟩
 case round =>
  clear H'
  obtain ⟨x8_1, rfl, HA, HK1, BK276, HB⟩ := hrel
  cases gk with
  | zero => exact absurd HA.out (by simp [impl_Claim_209.l0])
  | succ k1 =>
   have H := HA.out; clear HA
   simp only [impl_Claim_209.l0] at H
   by_cases c4 : x8_1 < (l0.length : Int)
   ·rw [if_pos c4] at H
    have c4b0 : decide (x8_1 < (l0.length : Int)) = true := decide_eq_true c4
    clear c4; replace H := ifS H; obtain ⟨c5, H⟩ := H; have c5b0 := decide_eq_true c5; clear c5; replace H := ifS H; obtain ⟨c6, H⟩ := H; have c6b0 := decide_eq_true c6; clear c6
    by_cases c7 : (a1_0 == ((rd_T85 l0 x8_1).f0) && (a1_1 == ((rd_T85 l0 x8_1).f1) && (a1_2 == ((rd_T85 l0 x8_1).f2)))) = true
    ·rw [if_pos c7] at H
     have c7b0 : (a1_0 == ((rd_T85 l0 x8_1).f0) && (a1_1 == ((rd_T85 l0 x8_1).f1) && (a1_2 == ((rd_T85 l0 x8_1).f2)))) = true := c7
     (try (have c7b1 : decide (a1_0 = ((rd_T85 l0 x8_1).f0) && (a1_1 == ((rd_T85 l0 x8_1).f1) && (a1_2 == ((rd_T85 l0 x8_1).f2)))) = true := by simpa using c7))
     (try (have c7b2 : (a1_0 == ((rd_T85 l0 x8_1).f0) && (a1_1 == ((rd_T85 l0 x8_1).f1) && (a1_2 == ((rd_T85 l0 x8_1).f2)))) = true := by simpa using c7))
     clear c7
     obtain rfl := Option.some.inj H
     obtain ⟨hcz8_0, hcz8_1, hcz8_2, hfz8_0, hfz8_1, hfz8_2⟩ := box3 BK276
     have p277 : 0 ≤ (x8_1 : Int) := da
     have q277 : x8_1 < (l0.length : Int) := da
     obtain ⟨ad277, e277, hx277_0, hx277_1, hx277_2⟩ := at_T85 HR0.out x8_1 p277 q277
     cases e277
     replace hx277_0 := (HB.out.cell (World.block_lt_of_cell? w _ hx277_0)).trans hx277_0
     replace hx277_1 := (HB.out.cell (World.block_lt_of_cell? w _ hx277_1)).trans hx277_1
     replace hx277_2 := (HB.out.cell (World.block_lt_of_cell? w _ hx277_2)).trans hx277_2
     replace p277 := eq_true p277; replace q277 := eq_true q277; go_wp2
     repeat (go_quiet (fail); try go_wp2)
     go_ret
     exact ⟨er2, belowg1 HB GE276⟩
    ·rw [if_neg c7] at H
     have c7b0 : (a1_0 == ((rd_T85 l0 x8_1).f0) && (a1_1 == ((rd_T85 l0 x8_1).f1) && (a1_2 == ((rd_T85 l0 x8_1).f2)))) = false := by simpa using c7
     (try (have c7b1 : decide (a1_0 = ((rd_T85 l0 x8_1).f0) && (a1_1 == ((rd_T85 l0 x8_1).f1) && (a1_2 == ((rd_T85 l0 x8_1).f2)))) = false := by simpa using c7))
     (try (have c7b2 : (a1_0 == ((rd_T85 l0 x8_1).f0) && (a1_1 == ((rd_T85 l0 x8_1).f1) && (a1_2 == ((rd_T85 l0 x8_1).f2)))) = false := by simpa using c7))
     (try (have c7b3 : ¬ (a1_0 = ((rd_T85 l0 x8_1).f0) && (a1_1 == ((rd_T85 l0 x8_1).f1) && (a1_2 == ((rd_T85 l0 x8_1).f2)))) := by simpa using c7))
     clear c7
     have H' := Aside0.mk H
     clear H; obtain ⟨hcz9_0, hcz9_1, hcz9_2, hfz9_0, hfz9_1, hfz9_2⟩ := box3 BK276
     have p277 : 0 ≤ (x8_1 : Int) := da
     have q277 : x8_1 < (l0.length : Int) := da
     obtain ⟨ad277, e277, hx277_0, hx277_1, hx277_2⟩ := at_T85 HR0.out x8_1 p277 q277
     cases e277
     replace hx277_0 := (HB.out.cell (World.block_lt_of_cell? w _ hx277_0)).trans hx277_0
     replace hx277_1 := (HB.out.cell (World.block_lt_of_cell? w _ hx277_1)).trans hx277_1
     replace hx277_2 := (HB.out.cell (World.block_lt_of_cell? w _ hx277_2)).trans hx277_2
     replace p277 := eq_true p277; replace q277 := eq_true q277; go_wp2
     repeat (go_quiet (fail); try go_wp2)
     go_roundg k1
     case measure => have := HK1.out; omega
     case rel => exact ⟨(wrap64 (x8_1 + 1)), er, H', ⟨by have := HK1.out; omega⟩, ⟨blkd BK276⟩, ⟨belowg1 HB GE276⟩⟩
   ·rw [if_neg c4] at H
    have c4b0 : decide (x8_1 < (l0.length : Int)) = false := decide_eq_false c4
    clear c4
    obtain rfl := Option.some.inj H
    go_wp2
    repeat (go_quiet (fail); try go_wp2)
    go_ret
    exact ⟨er2, belowg1 HB GE276⟩

/-! ### impl_Claim_160: function 160 -/
def impl_Claim_160.f (k : Nat) (l0 : List (S85)) (a1_0 : Int) (a1_1 : Int) (a1_2 : Int) : Option (Bool) := (impl_Claim_209.f k l0 a1_0 a1_1 a1_2).bind fun t279 => (some (decide (t279 ≥ 0)))
theorem impl_Claim_160.mono : ∀ a0 a1 a2 a3 k, LeO (impl_Claim_160.f k a0 a1 a2 a3) (impl_Claim_160.f (k + 1) a0 a1 a2 a3) := by
 intro a0 a1 a2 a3 k
 unfold impl_Claim_160.f
 repeat' (first | (with_reducible first | exact impl_Claim_209.mono _ _ _ _ _ | exact LeO.refl _ | exact LeO.none _ | refine LeO.ite ?_ ?_ | refine LeO.bind ?_ (fun _ => ?_)) | exact impl_Claim_209.mono _ _ _ _ _ | exact LeO.none _ | refine LeO.ite ?_ ?_ | refine LeO.bind ?_ (fun _ => ?_))
set_option maxHeartbeats 8000000 in
set_option maxRecDepth 100000 in
theorem impl_Claim_160.calls (k : Nat) (A0 : Option Addr) (c0 : Nat) (l0 : List (S85)) (a1_0 : Int) (a1_1 : Int) (a1_2 : Int) (r : Bool) (w : World) (hr0 : Kd.C k85 w A0 l0.length l0) (hc0 : l0.length ≤ c0) (h : impl_Claim_160.f k l0 a1_0 a1_1 a1_2 = some r) :
  Calls Try.prog 160 #[.slice A0 l0.length c0, .agg #[.int .i64 a1_0, .int .i64 a1_1, .int .i64 a1_2]] w fun e w' => e = .returned (.bool r) ∧ Below w.heap.size w w' := by
 have hu85 := Try.underlying85
 have HR0 := Aside0.mk hr0; have HC0 := Aside0.mk hc0; clear hr0 hc0
 have HB := Aside0.mk (Below.refl w.heap.size w)
 have H : ((impl_Claim_209.f k l0 a1_0 a1_1 a1_2).bind fun t279 => (some (decide (t279 ≥ 0)))) = some r := h
 clear h; replace H := bS H; obtain ⟨t279, A3, H⟩ := H
 replace H : (some (decide (t279 ≥ 0))) = some r := H
 obtain rfl := Option.some.inj H
 go_enter Try.func160, Try.ntmps160
 go_wp2_with (first | ((with_reducible refine gate_dst (N := 3) rfl ?_); refine boxev 3 #[.int .i64 a1_0, .int .i64 a1_1, .int .i64 a1_2] 85 ?_; intro gb278 hg w4 hbox hb; have BK278 := ak (hbox); have GW278 := ak (hgl hg (belowd HB)); have GE278 := ak (hgl hg (belowd HB)); replace HB := ak (below_step (belowd HB) hb); clear hb hbox hg; obtain ⟨hcz5_0, hcz5_1, hcz5_2, hfz5_0, hfz5_1, hfz5_2⟩ := box3 BK278) | ((with_reducible refine gate_callee (f := 209) rfl ?_); refine goesLa (some 7) rfl Try.func209 #[.slice A0 l0.length c0, .agg #[.int .i64 a1_0, .int .i64 a1_1, .int .i64 a1_2]] rfl ?_; (with_reducible refine (impl_Claim_209.calls k _ _ l0 a1_0 a1_1 a1_2 t279 _ ?side1 ?side2 A3.out).mono ?_); (case side1 => exact cd (Kd.C_below HR0.out HB.out)); (case side2 => exact HC0.out); rintro e w6 ⟨rfl, hb⟩; refine ⟨_, rfl, ?_⟩; replace BK278 := ak (blk_below (blkd BK278) hb); replace HB := ak (below_step (belowg1 HB GE278) hb); (try clear hb)))
 go_ret
 exact ⟨er2, belowg1 HB GE278⟩

/-! ### impl_TallyOf_1: function 159 -/
def impl_TallyOf_1.f (a0_0 : Int) (a0_1 : Int) (a0_2 : Int) : Option (Bool) := (impl_GoodClaim.f a0_0 a0_1 a0_2).bind fun t281 => (some (!t281))
set_option maxHeartbeats 8000000 in
set_option maxRecDepth 100000 in
theorem impl_TallyOf_1.calls (a0_0 : Int) (a0_1 : Int) (a0_2 : Int) (r : Bool) (w : World) (h : impl_TallyOf_1.f a0_0 a0_1 a0_2 = some r) :
  Calls Try.prog 159 #[.agg #[.int .i64 a0_0, .int .i64 a0_1, .int .i64 a0_2]] w fun e w' => e = .returned (.bool r) ∧ Below w.heap.size w w' := by
 have hu85 := Try.underlying85
 have HB := Aside0.mk (Below.refl w.heap.size w)
 have H : ((impl_GoodClaim.f a0_0 a0_1 a0_2).bind fun t281 => (some (!t281))) = some r := h
 clear h; replace H := bS H; obtain ⟨t281, A2, H⟩ := H
 replace H : (some (!t281)) = some r := H
 obtain rfl := Option.some.inj H
 go_enter Try.func159, Try.ntmps159
 go_wp2_with (first | ((with_reducible refine gate_dst (N := 1) rfl ?_); refine boxev 1 #[.int .i64 a0_0, .int .i64 a0_1, .int .i64 a0_2] 85 ?_; intro gb280 hg w3 hbox hb; have BK280 := ak (hbox); have GW280 := ak (hgl hg (belowd HB)); have GE280 := ak (hgl hg (belowd HB)); replace HB := ak (below_step (belowd HB) hb); clear hb hbox hg; obtain ⟨hcz4_0, hcz4_1, hcz4_2, hfz4_0, hfz4_1, hfz4_2⟩ := box3 BK280) | ((with_reducible refine gate_callee (f := 145) rfl ?_); refine goesLa (some 4) rfl Try.func145 #[.agg #[.int .i64 a0_0, .int .i64 a0_1, .int .i64 a0_2]] rfl ?_; (with_reducible refine (impl_GoodClaim.calls a0_0 a0_1 a0_2 t281 _ A2.out).mono ?_); rintro e w5 ⟨rfl, hb⟩; refine ⟨_, rfl, ?_⟩; replace BK280 := ak (blk_below (blkd BK280) hb); replace HB := ak (below_step (belowg1 HB GE280) hb); (try clear hb)))
 go_ret
 exact ⟨er2, belowg1 HB GE280⟩

end Go.Proofs.Ytkgogglnipdcfaa.QFnScores
