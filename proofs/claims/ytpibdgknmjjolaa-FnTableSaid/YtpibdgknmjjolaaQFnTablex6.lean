-- printed by this session's own program (wip/tools/pp.py: the kit's print.py with changes); Lean checks it
import Derived.Test.YtpibdgknmjjolaaQFnTablex0
import Derived.Test.YtpibdgknmjjolaaQFnTablex5
namespace Go.Proofs.Ytpibdgknmjjolaa.QFnTable
open Go.RowKit Go.Proofs.YtpibdgknmjjolaaW.PrintWords Go.Proofs.YtpibdgknmjjolaaW.PrintLast Go.Proofs.YtpibdgknmjjolaaW.PrintMore
attribute [local go_sem] max2_int min2_int max_two min_two max_three min_three max_four min_four strLss strGtr strLeq strGeq   -- for this text's walks alone
set_option linter.unusedVariables false
set_option linter.unusedSimpArgs false

/-! ### spec_l15Pair: function 145 -/
def spec_l15Pair.l0 : Nat → Int → Int → List (List Int) → Int → Int → Option (Int)
  | 0, _, _, _, _, _ => none
  | k + 1, x1, x2, x10, x11, x12 => if x12 < x11 then (if 0 ≤ x12 then (if x12 < (x10.length : Int) then (if 0 < ((rd_L1 x10 x12).length : Int) then (if (rd (rd_L1 x10 x12) 0) = x1 then (if 1 < ((rd_L1 x10 x12).length : Int) then (if (rd (rd_L1 x10 x12) 1) = x2 then (some x12) else (if (rd (rd_L1 x10 x12) 0) = x2 then (if (rd (rd_L1 x10 x12) 1) = x1 then (some x12) else (spec_l15Pair.l0 k x1 x2 x10 x11 (wrap64 (x12 + 1)))) else (spec_l15Pair.l0 k x1 x2 x10 x11 (wrap64 (x12 + 1))))) else (none)) else (if (rd (rd_L1 x10 x12) 0) = x2 then (if 1 < ((rd_L1 x10 x12).length : Int) then (if (rd (rd_L1 x10 x12) 1) = x1 then (some x12) else (spec_l15Pair.l0 k x1 x2 x10 x11 (wrap64 (x12 + 1)))) else (none)) else (spec_l15Pair.l0 k x1 x2 x10 x11 (wrap64 (x12 + 1))))) else (none)) else (none)) else (none)) else (some (-1))
def spec_l15Pair.f (k : Nat) (a0_0 : Int) (l0_1 : List (List Int)) (l0_2 : List Int) (a1 : Int) (a2 : Int) : Option (Int) := spec_l15Pair.l0 k a1 a2 l0_1 (l0_1.length : Int) 0
theorem spec_l15Pair.mono_l : ∀ k, (∀ y0 y1 y2 y3 y4, LeO (spec_l15Pair.l0 k y0 y1 y2 y3 y4) (spec_l15Pair.l0 (k + 1) y0 y1 y2 y3 y4))
 | 0 => fun _ _ _ _ _ r h => by simp [spec_l15Pair.l0] at h
 | k + 1 => by
  have ih0 := spec_l15Pair.mono_l k
  ·intro y0 y1 y2 y3 y4
   unfold spec_l15Pair.l0
   repeat' (first | (with_reducible first | exact ih0 _ _ _ _ _ | exact LeO.refl _ | exact LeO.none _ | refine LeO.ite ?_ ?_ | refine LeO.bind ?_ (fun _ => ?_)) | exact ih0 _ _ _ _ _ | exact LeO.none _ | refine LeO.ite ?_ ?_ | refine LeO.bind ?_ (fun _ => ?_))
theorem spec_l15Pair.mono : ∀ a0 a1 a2 a3 a4 k, LeO (spec_l15Pair.f k a0 a1 a2 a3 a4) (spec_l15Pair.f (k + 1) a0 a1 a2 a3 a4) := by
 intro a0 a1 a2 a3 a4 k
 have ih0 := spec_l15Pair.mono_l k
 unfold spec_l15Pair.f
 repeat' (first | (with_reducible first | exact ih0 _ _ _ _ _ | exact LeO.refl _ | exact LeO.none _ | refine LeO.ite ?_ ?_ | refine LeO.bind ?_ (fun _ => ?_)) | exact ih0 _ _ _ _ _ | exact LeO.none _ | refine LeO.ite ?_ ?_ | refine LeO.bind ?_ (fun _ => ?_))
set_option maxHeartbeats 8000000 in
set_option maxRecDepth 100000 in
theorem spec_l15Pair.calls (k : Nat) (a0_0 : Int) (A0_1 : Option Addr) (c0_1 : Nat) (l0_1 : List (List Int)) (A0_2 : Option Addr) (c0_2 : Nat) (l0_2 : List Int) (a1 : Int) (a2 : Int) (r : Int) (w : World) (hr0_1 : Kd.C (Kd.slice 3 (Kd.int .i64)) w A0_1 l0_1.length l0_1) (hc0_1 : l0_1.length ≤ c0_1) (hr0_2 : Kd.C (Kd.int .i64) w A0_2 l0_2.length l0_2) (hc0_2 : l0_2.length ≤ c0_2) (h : spec_l15Pair.f k a0_0 l0_1 l0_2 a1 a2 = some r) :
  Calls Try.prog 145 #[.agg #[.int .i64 a0_0, .slice A0_1 l0_1.length c0_1, .slice A0_2 l0_2.length c0_2], .int .i64 a1, .int .i64 a2] w fun e w' => e = .returned (.int .i64 r) ∧ Below w.heap.size w w' := by
 have hu38 := Try.underlying38
 have HR0_1 := Aside0.mk hr0_1; have HC0_1 := Aside0.mk hc0_1; clear hr0_1 hc0_1; have HR0_2 := Aside0.mk hr0_2; have HC0_2 := Aside0.mk hc0_2; clear hr0_2 hc0_2
 have HB := Aside0.mk (Below.refl w.heap.size w)
 have H : (spec_l15Pair.l0 k a1 a2 l0_1 (l0_1.length : Int) 0) = some r := h
 clear h
 have H' := Aside0.mk H
 clear H
 go_enter Try.func145, Try.ntmps145
 go_wp2_with (first | ((with_reducible refine gate_dst (N := 3) rfl ?_); refine boxev 3 #[.int .i64 a0_0, .slice A0_1 l0_1.length c0_1, .slice A0_2 l0_2.length c0_2] 38 ?_; intro gb272 hg w4 hbox hb; have BK272 := ak (hbox); have GW272 := ak (hgl hg (belowd HB)); have GE272 := ak (hgl hg (belowd HB)); replace HB := ak (below_step (belowd HB) hb); clear hb hbox hg; obtain ⟨hcz5_0, hcz5_1, hcz5_2, hfz5_0, hfz5_1, hfz5_2⟩ := box3 BK272))
 go_loopg [12] k (fun kq v12 w' => ∃ (x12_1 : Int), v12 = .int .i64 x12_1 ∧ Aside0 (spec_l15Pair.l0 kq a1 a2 l0_1 (l0_1.length : Int) x12_1 = some r) ∧ Aside0 (kq ≤ k) ∧ Aside0 (w'.heap[gb272]? = some (.cells #[.int .i64 a0_0, (.slice A0_1 l0_1.length c0_1), (.slice A0_2 l0_2.length c0_2)] 38 (0, 0))) ∧ Aside0 (Below w.heap.size w w'))
 case atStart => exact ⟨(0), er, H', ⟨Nat.le_refl _⟩, ⟨blkd BK272⟩, ⟨belowg1 HB GE272⟩⟩
 case round =>
  clear H'
  (try clear hcz5_0); (try clear hcz5_1); (try clear hcz5_2); (try clear hfz5_0); (try clear hfz5_1); (try clear hfz5_2)
  obtain ⟨x12_1, rfl, HA, HK1, BK272, HB⟩ := hrel
  cases gk with
  | zero => exact absurd HA.out (by simp [spec_l15Pair.l0])
  | succ k1 =>
   have H := HA.out; clear HA
   simp only [spec_l15Pair.l0] at H
   by_cases c6 : x12_1 < (l0_1.length : Int)
   ·rw [if_pos c6] at H
    have c6b0 : decide (x12_1 < (l0_1.length : Int)) = true := decide_eq_true c6
    clear c6; replace H := ifS H; obtain ⟨c7, H⟩ := H; have c7b0 := decide_eq_true c7; clear c7; replace H := ifS H; obtain ⟨c8, H⟩ := H; have c8b0 := decide_eq_true c8; clear c8; replace H := ifS H; obtain ⟨c9, H⟩ := H; have c9b0 := decide_eq_true c9
    have c9b1 : decide (0 < (rd_L1 l0_1 x12_1).length) = true := decide_eq_true (by omega)
    clear c9
    by_cases c10 : (rd (rd_L1 l0_1 x12_1) 0) = a1
    ·rw [if_pos c10] at H
     have c10b0 : ((rd (rd_L1 l0_1 x12_1) 0) == a1) = true := beq_iff_eq.mpr c10
     have c10b1 : ((rd (rd_L1 l0_1 x12_1) 0) != a1) = false := bne_eq_false_iff_eq.mpr c10
     clear c10; replace H := ifS H; obtain ⟨c11, H⟩ := H; have c11b0 := decide_eq_true c11
     have c11b1 : decide (1 < (rd_L1 l0_1 x12_1).length) = true := decide_eq_true (by omega)
     clear c11
     by_cases c12 : (rd (rd_L1 l0_1 x12_1) 1) = a2
     ·rw [if_pos c12] at H
      have c12b0 : ((rd (rd_L1 l0_1 x12_1) 1) == a2) = true := beq_iff_eq.mpr c12
      have c12b1 : ((rd (rd_L1 l0_1 x12_1) 1) != a2) = false := bne_eq_false_iff_eq.mpr c12
      clear c12
      obtain rfl := Option.some.inj H
      have p273 : 0 ≤ (x12_1 : Int) := da
      have q273 : x12_1 < (l0_1.length : Int) := da
      obtain ⟨ad273, A273_0, c273_0, e273, hx273_0, hl273_0, hi273_0⟩ := at_L1 HR0_1.out x12_1 p273 q273
      cases e273
      replace hx273_0 := (HB.out.cell (World.block_lt_of_cell? w _ hx273_0)).trans hx273_0
      have HR273_0 := Aside0.mk hi273_0; have HC273_0 := Aside0.mk hl273_0; clear hi273_0 hl273_0; replace p273 := eq_true p273; replace q273 := eq_true q273
      have p274 : 0 ≤ (0 : Int) := (by omega)
      have q274 : 0 < ((rd_L1 l0_1 x12_1).length : Int) := da
      obtain ⟨ad274, e274, hx274_0⟩ := Kd.at_int HR273_0.out 0 p274 q274
      cases e274
      have qi274 : (0 < (rd_L1 l0_1 x12_1).length) = True := eq_true (by omega)
      (try rw [show ((0 : Int)).toNat = 0 from rfl] at hx274_0)
      (try rw [Addr.add_zero'] at hx274_0)
      replace hx274_0 := (HB.out.cell (World.block_lt_of_cell? w _ hx274_0)).trans hx274_0
      replace p274 := eq_true p274; replace q274 := eq_true q274
      have p275 : 0 ≤ (1 : Int) := (by omega)
      have q275 : 1 < ((rd_L1 l0_1 x12_1).length : Int) := da
      obtain ⟨ad275, e275, hx275_0⟩ := Kd.at_int HR273_0.out 1 p275 q275
      obtain rfl : ad274 = ad275 := (by injection e275)
      (try simp only [show (1 : Int).toNat = 1 from rfl, Nat.reduceMul, Nat.reduceEqDiff, Go.Addr.add, ↓reduceIte] at hx275_0)
      have qi275 : (1 < (rd_L1 l0_1 x12_1).length) = True := eq_true (by omega)
      (try rw [show ((1 : Int)).toNat = 1 from rfl] at hx275_0)
      replace hx275_0 := (HB.out.cell (World.block_lt_of_cell? w _ hx275_0)).trans hx275_0
      replace p275 := eq_true p275; replace q275 := eq_true q275; go_wp2
      go_ret
      exact ⟨er2, belowg1 HB GE272⟩
     ·rw [if_neg c12] at H
      have c12b0 : ((rd (rd_L1 l0_1 x12_1) 1) == a2) = false := beq_eq_false_iff_ne.mpr c12
      have c12b1 : ((rd (rd_L1 l0_1 x12_1) 1) != a2) = true := bne_iff_ne.mpr c12
      by_cases c13 : (rd (rd_L1 l0_1 x12_1) 0) = a2
      ·rw [if_pos c13] at H
       have c13b0 : ((rd (rd_L1 l0_1 x12_1) 0) == a2) = true := beq_iff_eq.mpr c13
       have c13b1 : ((rd (rd_L1 l0_1 x12_1) 0) != a2) = false := bne_eq_false_iff_eq.mpr c13
       clear c13
       by_cases c14 : (rd (rd_L1 l0_1 x12_1) 1) = a1
       ·rw [if_pos c14] at H
        have c14b0 : ((rd (rd_L1 l0_1 x12_1) 1) == a1) = true := beq_iff_eq.mpr c14
        have c14b1 : ((rd (rd_L1 l0_1 x12_1) 1) != a1) = false := bne_eq_false_iff_eq.mpr c14
        clear c14
        obtain rfl := Option.some.inj H
        have p273 : 0 ≤ (x12_1 : Int) := da
        have q273 : x12_1 < (l0_1.length : Int) := da
        obtain ⟨ad273, A273_0, c273_0, e273, hx273_0, hl273_0, hi273_0⟩ := at_L1 HR0_1.out x12_1 p273 q273
        cases e273
        replace hx273_0 := (HB.out.cell (World.block_lt_of_cell? w _ hx273_0)).trans hx273_0
        have HR273_0 := Aside0.mk hi273_0; have HC273_0 := Aside0.mk hl273_0; clear hi273_0 hl273_0; replace p273 := eq_true p273; replace q273 := eq_true q273
        have p274 : 0 ≤ (0 : Int) := (by omega)
        have q274 : 0 < ((rd_L1 l0_1 x12_1).length : Int) := da
        obtain ⟨ad274, e274, hx274_0⟩ := Kd.at_int HR273_0.out 0 p274 q274
        cases e274
        have qi274 : (0 < (rd_L1 l0_1 x12_1).length) = True := eq_true (by omega)
        (try rw [show ((0 : Int)).toNat = 0 from rfl] at hx274_0)
        (try rw [Addr.add_zero'] at hx274_0)
        replace hx274_0 := (HB.out.cell (World.block_lt_of_cell? w _ hx274_0)).trans hx274_0
        replace p274 := eq_true p274; replace q274 := eq_true q274
        have p275 : 0 ≤ (1 : Int) := (by omega)
        have q275 : 1 < ((rd_L1 l0_1 x12_1).length : Int) := da
        obtain ⟨ad275, e275, hx275_0⟩ := Kd.at_int HR273_0.out 1 p275 q275
        obtain rfl : ad274 = ad275 := (by injection e275)
        (try simp only [show (1 : Int).toNat = 1 from rfl, Nat.reduceMul, Nat.reduceEqDiff, Go.Addr.add, ↓reduceIte] at hx275_0)
        have qi275 : (1 < (rd_L1 l0_1 x12_1).length) = True := eq_true (by omega)
        (try rw [show ((1 : Int)).toNat = 1 from rfl] at hx275_0)
        replace hx275_0 := (HB.out.cell (World.block_lt_of_cell? w _ hx275_0)).trans hx275_0
        replace p275 := eq_true p275; replace q275 := eq_true q275
        have p276 : 0 ≤ (0 : Int) := (by omega)
        have q276 : 0 < ((rd_L1 l0_1 x12_1).length : Int) := da
        obtain ⟨ad276, e276, hx276_0⟩ := Kd.at_int HR273_0.out 0 p276 q276
        obtain rfl : ad274 = ad276 := (by injection e276)
        have qi276 : (0 < (rd_L1 l0_1 x12_1).length) = True := eq_true (by omega)
        (try rw [show ((0 : Int)).toNat = 0 from rfl] at hx276_0)
        (try rw [Addr.add_zero'] at hx276_0)
        replace hx276_0 := (HB.out.cell (World.block_lt_of_cell? w _ hx276_0)).trans hx276_0
        replace p276 := eq_true p276; replace q276 := eq_true q276
        have p277 : 0 ≤ (1 : Int) := (by omega)
        have q277 : 1 < ((rd_L1 l0_1 x12_1).length : Int) := da
        obtain ⟨ad277, e277, hx277_0⟩ := Kd.at_int HR273_0.out 1 p277 q277
        obtain rfl : ad274 = ad277 := (by injection e277)
        (try simp only [show (1 : Int).toNat = 1 from rfl, Nat.reduceMul, Nat.reduceEqDiff, Go.Addr.add, ↓reduceIte] at hx277_0)
        have qi277 : (1 < (rd_L1 l0_1 x12_1).length) = True := eq_true (by omega)
        (try rw [show ((1 : Int)).toNat = 1 from rfl] at hx277_0)
        replace hx277_0 := (HB.out.cell (World.block_lt_of_cell? w _ hx277_0)).trans hx277_0
        replace p277 := eq_true p277; replace q277 := eq_true q277; go_wp2
        go_ret
        exact ⟨er2, belowg1 HB GE272⟩
       ·rw [if_neg c14] at H
        have c14b0 : ((rd (rd_L1 l0_1 x12_1) 1) == a1) = false := beq_eq_false_iff_ne.mpr c14
        have c14b1 : ((rd (rd_L1 l0_1 x12_1) 1) != a1) = true := bne_iff_ne.mpr c14
        have H' := Aside0.mk H
        clear H
        have p273 : 0 ≤ (x12_1 : Int) := da
        have q273 : x12_1 < (l0_1.length : Int) := da
        obtain ⟨ad273, A273_0, c273_0, e273, hx273_0, hl273_0, hi273_0⟩ := at_L1 HR0_1.out x12_1 p273 q273
        cases e273
        replace hx273_0 := (HB.out.cell (World.block_lt_of_cell? w _ hx273_0)).trans hx273_0
        have HR273_0 := Aside0.mk hi273_0; have HC273_0 := Aside0.mk hl273_0; clear hi273_0 hl273_0; replace p273 := eq_true p273; replace q273 := eq_true q273
        have p274 : 0 ≤ (0 : Int) := (by omega)
        have q274 : 0 < ((rd_L1 l0_1 x12_1).length : Int) := da
        obtain ⟨ad274, e274, hx274_0⟩ := Kd.at_int HR273_0.out 0 p274 q274
        cases e274
        have qi274 : (0 < (rd_L1 l0_1 x12_1).length) = True := eq_true (by omega)
        (try rw [show ((0 : Int)).toNat = 0 from rfl] at hx274_0)
        (try rw [Addr.add_zero'] at hx274_0)
        replace hx274_0 := (HB.out.cell (World.block_lt_of_cell? w _ hx274_0)).trans hx274_0
        replace p274 := eq_true p274; replace q274 := eq_true q274
        have p275 : 0 ≤ (1 : Int) := (by omega)
        have q275 : 1 < ((rd_L1 l0_1 x12_1).length : Int) := da
        obtain ⟨ad275, e275, hx275_0⟩ := Kd.at_int HR273_0.out 1 p275 q275
        obtain rfl : ad274 = ad275 := (by injection e275)
        (try simp only [show (1 : Int).toNat = 1 from rfl, Nat.reduceMul, Nat.reduceEqDiff, Go.Addr.add, ↓reduceIte] at hx275_0)
        have qi275 : (1 < (rd_L1 l0_1 x12_1).length) = True := eq_true (by omega)
        (try rw [show ((1 : Int)).toNat = 1 from rfl] at hx275_0)
        replace hx275_0 := (HB.out.cell (World.block_lt_of_cell? w _ hx275_0)).trans hx275_0
        replace p275 := eq_true p275; replace q275 := eq_true q275
        have p276 : 0 ≤ (0 : Int) := (by omega)
        have q276 : 0 < ((rd_L1 l0_1 x12_1).length : Int) := da
        obtain ⟨ad276, e276, hx276_0⟩ := Kd.at_int HR273_0.out 0 p276 q276
        obtain rfl : ad274 = ad276 := (by injection e276)
        have qi276 : (0 < (rd_L1 l0_1 x12_1).length) = True := eq_true (by omega)
        (try rw [show ((0 : Int)).toNat = 0 from rfl] at hx276_0)
        (try rw [Addr.add_zero'] at hx276_0)
        replace hx276_0 := (HB.out.cell (World.block_lt_of_cell? w _ hx276_0)).trans hx276_0
        replace p276 := eq_true p276; replace q276 := eq_true q276
        have p277 : 0 ≤ (1 : Int) := (by omega)
        have q277 : 1 < ((rd_L1 l0_1 x12_1).length : Int) := da
        obtain ⟨ad277, e277, hx277_0⟩ := Kd.at_int HR273_0.out 1 p277 q277
        obtain rfl : ad274 = ad277 := (by injection e277)
        (try simp only [show (1 : Int).toNat = 1 from rfl, Nat.reduceMul, Nat.reduceEqDiff, Go.Addr.add, ↓reduceIte] at hx277_0)
        have qi277 : (1 < (rd_L1 l0_1 x12_1).length) = True := eq_true (by omega)
        (try rw [show ((1 : Int)).toNat = 1 from rfl] at hx277_0)
        replace hx277_0 := (HB.out.cell (World.block_lt_of_cell? w _ hx277_0)).trans hx277_0
        replace p277 := eq_true p277; replace q277 := eq_true q277; go_wp2
        go_roundg k1
        case measure => have := HK1.out; omega
        case rel => exact ⟨(wrap64 (x12_1 + 1)), er, H', ⟨by have := HK1.out; omega⟩, ⟨blkd BK272⟩, ⟨belowg1 HB GE272⟩⟩
      ·rw [if_neg c13] at H
       have c13b0 : ((rd (rd_L1 l0_1 x12_1) 0) == a2) = false := beq_eq_false_iff_ne.mpr c13
       have c13b1 : ((rd (rd_L1 l0_1 x12_1) 0) != a2) = true := bne_iff_ne.mpr c13
       have H' := Aside0.mk H
       clear H
       have p273 : 0 ≤ (x12_1 : Int) := da
       have q273 : x12_1 < (l0_1.length : Int) := da
       obtain ⟨ad273, A273_0, c273_0, e273, hx273_0, hl273_0, hi273_0⟩ := at_L1 HR0_1.out x12_1 p273 q273
       cases e273
       replace hx273_0 := (HB.out.cell (World.block_lt_of_cell? w _ hx273_0)).trans hx273_0
       have HR273_0 := Aside0.mk hi273_0; have HC273_0 := Aside0.mk hl273_0; clear hi273_0 hl273_0; replace p273 := eq_true p273; replace q273 := eq_true q273
       have p274 : 0 ≤ (0 : Int) := (by omega)
       have q274 : 0 < ((rd_L1 l0_1 x12_1).length : Int) := da
       obtain ⟨ad274, e274, hx274_0⟩ := Kd.at_int HR273_0.out 0 p274 q274
       cases e274
       have qi274 : (0 < (rd_L1 l0_1 x12_1).length) = True := eq_true (by omega)
       (try rw [show ((0 : Int)).toNat = 0 from rfl] at hx274_0)
       (try rw [Addr.add_zero'] at hx274_0)
       replace hx274_0 := (HB.out.cell (World.block_lt_of_cell? w _ hx274_0)).trans hx274_0
       replace p274 := eq_true p274; replace q274 := eq_true q274
       have p275 : 0 ≤ (1 : Int) := (by omega)
       have q275 : 1 < ((rd_L1 l0_1 x12_1).length : Int) := da
       obtain ⟨ad275, e275, hx275_0⟩ := Kd.at_int HR273_0.out 1 p275 q275
       obtain rfl : ad274 = ad275 := (by injection e275)
       (try simp only [show (1 : Int).toNat = 1 from rfl, Nat.reduceMul, Nat.reduceEqDiff, Go.Addr.add, ↓reduceIte] at hx275_0)
       have qi275 : (1 < (rd_L1 l0_1 x12_1).length) = True := eq_true (by omega)
       (try rw [show ((1 : Int)).toNat = 1 from rfl] at hx275_0)
       replace hx275_0 := (HB.out.cell (World.block_lt_of_cell? w _ hx275_0)).trans hx275_0
       replace p275 := eq_true p275; replace q275 := eq_true q275
       have p276 : 0 ≤ (0 : Int) := (by omega)
       have q276 : 0 < ((rd_L1 l0_1 x12_1).length : Int) := da
       obtain ⟨ad276, e276, hx276_0⟩ := Kd.at_int HR273_0.out 0 p276 q276
       obtain rfl : ad274 = ad276 := (by injection e276)
       have qi276 : (0 < (rd_L1 l0_1 x12_1).length) = True := eq_true (by omega)
       (try rw [show ((0 : Int)).toNat = 0 from rfl] at hx276_0)
       (try rw [Addr.add_zero'] at hx276_0)
       replace hx276_0 := (HB.out.cell (World.block_lt_of_cell? w _ hx276_0)).trans hx276_0
       replace p276 := eq_true p276; replace q276 := eq_true q276; go_wp2
       go_roundg k1
       case measure => have := HK1.out; omega
       case rel => exact ⟨(wrap64 (x12_1 + 1)), er, H', ⟨by have := HK1.out; omega⟩, ⟨blkd BK272⟩, ⟨belowg1 HB GE272⟩⟩
    ·rw [if_neg c10] at H
     have c10b0 : ((rd (rd_L1 l0_1 x12_1) 0) == a1) = false := beq_eq_false_iff_ne.mpr c10
     have c10b1 : ((rd (rd_L1 l0_1 x12_1) 0) != a1) = true := bne_iff_ne.mpr c10
     by_cases c15 : (rd (rd_L1 l0_1 x12_1) 0) = a2
     ·rw [if_pos c15] at H
      have c15b0 : ((rd (rd_L1 l0_1 x12_1) 0) == a2) = true := beq_iff_eq.mpr c15
      have c15b1 : ((rd (rd_L1 l0_1 x12_1) 0) != a2) = false := bne_eq_false_iff_eq.mpr c15
      clear c15; replace H := ifS H; obtain ⟨c16, H⟩ := H; have c16b0 := decide_eq_true c16
      have c16b1 : decide (1 < (rd_L1 l0_1 x12_1).length) = true := decide_eq_true (by omega)
      clear c16
      by_cases c17 : (rd (rd_L1 l0_1 x12_1) 1) = a1
      ·rw [if_pos c17] at H
       have c17b0 : ((rd (rd_L1 l0_1 x12_1) 1) == a1) = true := beq_iff_eq.mpr c17
       have c17b1 : ((rd (rd_L1 l0_1 x12_1) 1) != a1) = false := bne_eq_false_iff_eq.mpr c17
       clear c17
       obtain rfl := Option.some.inj H
       have p273 : 0 ≤ (x12_1 : Int) := da
       have q273 : x12_1 < (l0_1.length : Int) := da
       obtain ⟨ad273, A273_0, c273_0, e273, hx273_0, hl273_0, hi273_0⟩ := at_L1 HR0_1.out x12_1 p273 q273
       cases e273
       replace hx273_0 := (HB.out.cell (World.block_lt_of_cell? w _ hx273_0)).trans hx273_0
       have HR273_0 := Aside0.mk hi273_0; have HC273_0 := Aside0.mk hl273_0; clear hi273_0 hl273_0; replace p273 := eq_true p273; replace q273 := eq_true q273
       have p274 : 0 ≤ (0 : Int) := (by omega)
       have q274 : 0 < ((rd_L1 l0_1 x12_1).length : Int) := da
       obtain ⟨ad274, e274, hx274_0⟩ := Kd.at_int HR273_0.out 0 p274 q274
       cases e274
       have qi274 : (0 < (rd_L1 l0_1 x12_1).length) = True := eq_true (by omega)
       (try rw [show ((0 : Int)).toNat = 0 from rfl] at hx274_0)
       (try rw [Addr.add_zero'] at hx274_0)
       replace hx274_0 := (HB.out.cell (World.block_lt_of_cell? w _ hx274_0)).trans hx274_0
       replace p274 := eq_true p274; replace q274 := eq_true q274
       have p278 : 0 ≤ (0 : Int) := (by omega)
       have q278 : 0 < ((rd_L1 l0_1 x12_1).length : Int) := da
       obtain ⟨ad278, e278, hx278_0⟩ := Kd.at_int HR273_0.out 0 p278 q278
       obtain rfl : ad274 = ad278 := (by injection e278)
       have qi278 : (0 < (rd_L1 l0_1 x12_1).length) = True := eq_true (by omega)
       (try rw [show ((0 : Int)).toNat = 0 from rfl] at hx278_0)
       (try rw [Addr.add_zero'] at hx278_0)
       replace hx278_0 := (HB.out.cell (World.block_lt_of_cell? w _ hx278_0)).trans hx278_0
       replace p278 := eq_true p278; replace q278 := eq_true q278
       have p279 : 0 ≤ (1 : Int) := (by omega)
       have q279 : 1 < ((rd_L1 l0_1 x12_1).length : Int) := da
       obtain ⟨ad279, e279, hx279_0⟩ := Kd.at_int HR273_0.out 1 p279 q279
       obtain rfl : ad274 = ad279 := (by injection e279)
       (try simp only [show (1 : Int).toNat = 1 from rfl, Nat.reduceMul, Nat.reduceEqDiff, Go.Addr.add, ↓reduceIte] at hx279_0)
       have qi279 : (1 < (rd_L1 l0_1 x12_1).length) = True := eq_true (by omega)
       (try rw [show ((1 : Int)).toNat = 1 from rfl] at hx279_0)
       replace hx279_0 := (HB.out.cell (World.block_lt_of_cell? w _ hx279_0)).trans hx279_0
       replace p279 := eq_true p279; replace q279 := eq_true q279; go_wp2
       go_ret
       exact ⟨er2, belowg1 HB GE272⟩
      ·rw [if_neg c17] at H
       have c17b0 : ((rd (rd_L1 l0_1 x12_1) 1) == a1) = false := beq_eq_false_iff_ne.mpr c17
       have c17b1 : ((rd (rd_L1 l0_1 x12_1) 1) != a1) = true := bne_iff_ne.mpr c17
       have H' := Aside0.mk H
       clear H
       have p273 : 0 ≤ (x12_1 : Int) := da
       have q273 : x12_1 < (l0_1.length : Int) := da
       obtain ⟨ad273, A273_0, c273_0, e273, hx273_0, hl273_0, hi273_0⟩ := at_L1 HR0_1.out x12_1 p273 q273
       cases e273
       replace hx273_0 := (HB.out.cell (World.block_lt_of_cell? w _ hx273_0)).trans hx273_0
       have HR273_0 := Aside0.mk hi273_0; have HC273_0 := Aside0.mk hl273_0; clear hi273_0 hl273_0; replace p273 := eq_true p273; replace q273 := eq_true q273
       have p274 : 0 ≤ (0 : Int) := (by omega)
       have q274 : 0 < ((rd_L1 l0_1 x12_1).length : Int) := da
       obtain ⟨ad274, e274, hx274_0⟩ := Kd.at_int HR273_0.out 0 p274 q274
       cases e274
       have qi274 : (0 < (rd_L1 l0_1 x12_1).length) = True := eq_true (by omega)
       (try rw [show ((0 : Int)).toNat = 0 from rfl] at hx274_0)
       (try rw [Addr.add_zero'] at hx274_0)
       replace hx274_0 := (HB.out.cell (World.block_lt_of_cell? w _ hx274_0)).trans hx274_0
       replace p274 := eq_true p274; replace q274 := eq_true q274
       have p278 : 0 ≤ (0 : Int) := (by omega)
       have q278 : 0 < ((rd_L1 l0_1 x12_1).length : Int) := da
       obtain ⟨ad278, e278, hx278_0⟩ := Kd.at_int HR273_0.out 0 p278 q278
       obtain rfl : ad274 = ad278 := (by injection e278)
       have qi278 : (0 < (rd_L1 l0_1 x12_1).length) = True := eq_true (by omega)
       (try rw [show ((0 : Int)).toNat = 0 from rfl] at hx278_0)
       (try rw [Addr.add_zero'] at hx278_0)
       replace hx278_0 := (HB.out.cell (World.block_lt_of_cell? w _ hx278_0)).trans hx278_0
       replace p278 := eq_true p278; replace q278 := eq_true q278
       have p279 : 0 ≤ (1 : Int) := (by omega)
       have q279 : 1 < ((rd_L1 l0_1 x12_1).length : Int) := da
       obtain ⟨ad279, e279, hx279_0⟩ := Kd.at_int HR273_0.out 1 p279 q279
       obtain rfl : ad274 = ad279 := (by injection e279)
       (try simp only [show (1 : Int).toNat = 1 from rfl, Nat.reduceMul, Nat.reduceEqDiff, Go.Addr.add, ↓reduceIte] at hx279_0)
       have qi279 : (1 < (rd_L1 l0_1 x12_1).length) = True := eq_true (by omega)
       (try rw [show ((1 : Int)).toNat = 1 from rfl] at hx279_0)
       replace hx279_0 := (HB.out.cell (World.block_lt_of_cell? w _ hx279_0)).trans hx279_0
       replace p279 := eq_true p279; replace q279 := eq_true q279; go_wp2
       go_roundg k1
       case measure => have := HK1.out; omega
       case rel => exact ⟨(wrap64 (x12_1 + 1)), er, H', ⟨by have := HK1.out; omega⟩, ⟨blkd BK272⟩, ⟨belowg1 HB GE272⟩⟩
     ·rw [if_neg c15] at H
      have c15b0 : ((rd (rd_L1 l0_1 x12_1) 0) == a2) = false := beq_eq_false_iff_ne.mpr c15
      have c15b1 : ((rd (rd_L1 l0_1 x12_1) 0) != a2) = true := bne_iff_ne.mpr c15
      have H' := Aside0.mk H
      clear H
      have p273 : 0 ≤ (x12_1 : Int) := da
      have q273 : x12_1 < (l0_1.length : Int) := da
      obtain ⟨ad273, A273_0, c273_0, e273, hx273_0, hl273_0, hi273_0⟩ := at_L1 HR0_1.out x12_1 p273 q273
      cases e273
      replace hx273_0 := (HB.out.cell (World.block_lt_of_cell? w _ hx273_0)).trans hx273_0
      have HR273_0 := Aside0.mk hi273_0; have HC273_0 := Aside0.mk hl273_0; clear hi273_0 hl273_0; replace p273 := eq_true p273; replace q273 := eq_true q273
      have p274 : 0 ≤ (0 : Int) := (by omega)
      have q274 : 0 < ((rd_L1 l0_1 x12_1).length : Int) := da
      obtain ⟨ad274, e274, hx274_0⟩ := Kd.at_int HR273_0.out 0 p274 q274
      cases e274
      have qi274 : (0 < (rd_L1 l0_1 x12_1).length) = True := eq_true (by omega)
      (try rw [show ((0 : Int)).toNat = 0 from rfl] at hx274_0)
      (try rw [Addr.add_zero'] at hx274_0)
      replace hx274_0 := (HB.out.cell (World.block_lt_of_cell? w _ hx274_0)).trans hx274_0
      replace p274 := eq_true p274; replace q274 := eq_true q274
      have p278 : 0 ≤ (0 : Int) := (by omega)
      have q278 : 0 < ((rd_L1 l0_1 x12_1).length : Int) := da
      obtain ⟨ad278, e278, hx278_0⟩ := Kd.at_int HR273_0.out 0 p278 q278
      obtain rfl : ad274 = ad278 := (by injection e278)
      have qi278 : (0 < (rd_L1 l0_1 x12_1).length) = True := eq_true (by omega)
      (try rw [show ((0 : Int)).toNat = 0 from rfl] at hx278_0)
      (try rw [Addr.add_zero'] at hx278_0)
      replace hx278_0 := (HB.out.cell (World.block_lt_of_cell? w _ hx278_0)).trans hx278_0
      replace p278 := eq_true p278; replace q278 := eq_true q278; go_wp2
      go_roundg k1
      case measure => have := HK1.out; omega
      case rel => exact ⟨(wrap64 (x12_1 + 1)), er, H', ⟨by have := HK1.out; omega⟩, ⟨blkd BK272⟩, ⟨belowg1 HB GE272⟩⟩
   ·rw [if_neg c6] at H
    have c6b0 : decide (x12_1 < (l0_1.length : Int)) = false := decide_eq_false c6
    clear c6
    obtain rfl := Option.some.inj H
    go_wp2
    go_ret
    exact ⟨er2, belowg1 HB GE272⟩

/-! ### spec_l15Way: function 109 -/
mutual
def spec_l15Way.l0 : Nat → Int → Int → List Int → List Int → Int → List (List Int) → List Int → Option (List Int × Bool)
  | 0, _, _, _, _, _, _, _ => none
  | k + 1, x1, x2, x8, x9, x281000, x281001, x281002 => if x1 = x2 then (some (x9, true)) else (spec_l15Way.l1 k x1 x2 x8 x9 (-1) 0 x281000 x281001 x281002)
def spec_l15Way.l1 : Nat → Int → Int → List Int → List Int → Int → Int → Int → List (List Int) → List Int → Option (List Int × Bool)
  | 0, _, _, _, _, _, _, _, _, _ => none
  | k + 1, x1, x2, x8, x9, x10, x11, x281000, x281001, x281002 => if x11 < x281000 then (spec_l15Way.j2 k x1 x2 x8 x9 x10 x11 (decide (x10 < 0)) x281000 x281001 x281002) else (spec_l15Way.j2 k x1 x2 x8 x9 x10 x11 false x281000 x281001 x281002)
def spec_l15Way.j2 : Nat → Int → Int → List Int → List Int → Int → Int → Bool → Int → List (List Int) → List Int → Option (List Int × Bool)
  | 0, _, _, _, _, _, _, _, _, _, _ => none
  | k + 1, x1, x2, x8, x9, x10, x11, x30, x281000, x281001, x281002 => if x30 = true then ((spec_l15Pair.f k x281000 x281001 x281002 x1 x11).bind fun t285 => (if t285 ≥ 0 then (if 0 ≤ x11 then (if x11 < (x8.length : Int) then (if 0 ≤ x1 then (if x1 < (x8.length : Int) then (if (rd x8 x11) = (wrap64 ((rd x8 x1) - 1)) then (spec_l15Way.l1 k x1 x2 x8 x9 x11 (wrap64 (x11 + 1)) x281000 x281001 x281002) else (spec_l15Way.l1 k x1 x2 x8 x9 x10 (wrap64 (x11 + 1)) x281000 x281001 x281002)) else (none)) else (none)) else (none)) else (none)) else (spec_l15Way.l1 k x1 x2 x8 x9 x10 (wrap64 (x11 + 1)) x281000 x281001 x281002))) else ((spec_l15Pair.f k x281000 x281001 x281002 x1 x10).bind fun t288 => (if x9.length < 17592186044416 then (spec_l15Way.l0 k x10 x2 x8 (x9 ++ [t288]) x281000 x281001 x281002) else (none)))
end
def spec_l15Way.f (k : Nat) (a0_0 : Int) (l0_1 : List (List Int)) (l0_2 : List Int) (a1 : Int) (a2 : Int) : Option (List Int × Bool) := (spec_l15Far.f k a0_0 l0_1 l0_2 a2).bind fun t281 => (if 0 ≤ a1 then (if a1 < (t281.length : Int) then (if (rd t281 a1) < 0 then (some (([] : List Int), false)) else (spec_l15Way.l0 k a1 a2 t281 ([] : List Int) a0_0 l0_1 l0_2)) else (none)) else (none))
theorem spec_l15Way.mono_l : ∀ k, (∀ y0 y1 y2 y3 y4 y5 y6, LeO (spec_l15Way.l0 k y0 y1 y2 y3 y4 y5 y6) (spec_l15Way.l0 (k + 1) y0 y1 y2 y3 y4 y5 y6)) ∧ (∀ y0 y1 y2 y3 y4 y5 y6 y7 y8, LeO (spec_l15Way.l1 k y0 y1 y2 y3 y4 y5 y6 y7 y8) (spec_l15Way.l1 (k + 1) y0 y1 y2 y3 y4 y5 y6 y7 y8)) ∧ (∀ y0 y1 y2 y3 y4 y5 y6 y7 y8 y9, LeO (spec_l15Way.j2 k y0 y1 y2 y3 y4 y5 y6 y7 y8 y9) (spec_l15Way.j2 (k + 1) y0 y1 y2 y3 y4 y5 y6 y7 y8 y9))
 | 0 => ⟨fun _ _ _ _ _ _ _ r h => by simp [spec_l15Way.l0] at h, fun _ _ _ _ _ _ _ _ _ r h => by simp [spec_l15Way.l1] at h, fun _ _ _ _ _ _ _ _ _ _ r h => by simp [spec_l15Way.j2] at h⟩
 | k + 1 => by
  obtain ⟨ih0, ih1, ih2⟩ := spec_l15Way.mono_l k
  refine ⟨?_, ?_, ?_⟩
  ·intro y0 y1 y2 y3 y4 y5 y6
   unfold spec_l15Way.l0
   repeat' (first | (with_reducible first | exact ih0 _ _ _ _ _ _ _ | exact ih1 _ _ _ _ _ _ _ _ _ | exact ih2 _ _ _ _ _ _ _ _ _ _ | exact spec_l15Far.mono _ _ _ _ _ | exact spec_l15Pair.mono _ _ _ _ _ _ | exact LeO.refl _ | exact LeO.none _ | refine LeO.ite ?_ ?_ | refine LeO.bind ?_ (fun _ => ?_)) | exact ih0 _ _ _ _ _ _ _ | exact ih1 _ _ _ _ _ _ _ _ _ | exact ih2 _ _ _ _ _ _ _ _ _ _ | exact spec_l15Far.mono _ _ _ _ _ | exact spec_l15Pair.mono _ _ _ _ _ _ | exact LeO.none _ | refine LeO.ite ?_ ?_ | refine LeO.bind ?_ (fun _ => ?_))
  ·intro y0 y1 y2 y3 y4 y5 y6 y7 y8
   unfold spec_l15Way.l1
   repeat' (first | (with_reducible first | exact ih0 _ _ _ _ _ _ _ | exact ih1 _ _ _ _ _ _ _ _ _ | exact ih2 _ _ _ _ _ _ _ _ _ _ | exact spec_l15Far.mono _ _ _ _ _ | exact spec_l15Pair.mono _ _ _ _ _ _ | exact LeO.refl _ | exact LeO.none _ | refine LeO.ite ?_ ?_ | refine LeO.bind ?_ (fun _ => ?_)) | exact ih0 _ _ _ _ _ _ _ | exact ih1 _ _ _ _ _ _ _ _ _ | exact ih2 _ _ _ _ _ _ _ _ _ _ | exact spec_l15Far.mono _ _ _ _ _ | exact spec_l15Pair.mono _ _ _ _ _ _ | exact LeO.none _ | refine LeO.ite ?_ ?_ | refine LeO.bind ?_ (fun _ => ?_))
  ·intro y0 y1 y2 y3 y4 y5 y6 y7 y8 y9
   unfold spec_l15Way.j2
   repeat' (first | (with_reducible first | exact ih0 _ _ _ _ _ _ _ | exact ih1 _ _ _ _ _ _ _ _ _ | exact ih2 _ _ _ _ _ _ _ _ _ _ | exact spec_l15Far.mono _ _ _ _ _ | exact spec_l15Pair.mono _ _ _ _ _ _ | exact LeO.refl _ | exact LeO.none _ | refine LeO.ite ?_ ?_ | refine LeO.bind ?_ (fun _ => ?_)) | exact ih0 _ _ _ _ _ _ _ | exact ih1 _ _ _ _ _ _ _ _ _ | exact ih2 _ _ _ _ _ _ _ _ _ _ | exact spec_l15Far.mono _ _ _ _ _ | exact spec_l15Pair.mono _ _ _ _ _ _ | exact LeO.none _ | refine LeO.ite ?_ ?_ | refine LeO.bind ?_ (fun _ => ?_))
theorem spec_l15Way.mono : ∀ a0 a1 a2 a3 a4 k, LeO (spec_l15Way.f k a0 a1 a2 a3 a4) (spec_l15Way.f (k + 1) a0 a1 a2 a3 a4) := by
 intro a0 a1 a2 a3 a4 k
 obtain ⟨ih0, ih1, ih2⟩ := spec_l15Way.mono_l k
 unfold spec_l15Way.f
 repeat' (first | (with_reducible first | exact ih0 _ _ _ _ _ _ _ | exact ih1 _ _ _ _ _ _ _ _ _ | exact ih2 _ _ _ _ _ _ _ _ _ _ | exact spec_l15Far.mono _ _ _ _ _ | exact spec_l15Pair.mono _ _ _ _ _ _ | exact LeO.refl _ | exact LeO.none _ | refine LeO.ite ?_ ?_ | refine LeO.bind ?_ (fun _ => ?_)) | exact ih0 _ _ _ _ _ _ _ | exact ih1 _ _ _ _ _ _ _ _ _ | exact ih2 _ _ _ _ _ _ _ _ _ _ | exact spec_l15Far.mono _ _ _ _ _ | exact spec_l15Pair.mono _ _ _ _ _ _ | exact LeO.none _ | refine LeO.ite ?_ ?_ | refine LeO.bind ?_ (fun _ => ?_))
def spec_l15Way.T10 : Bool × List (List Nat × List Nat) := (true, [([], []), ([], []), ([], []), ([0, 1, 2], [0, 1, 2]), ([3], [3]), ([4, 3], [4]), ([5], [5]), ([5], [5]), ([6, 7, 5], [5, 6, 7]), ([8, 5], [5, 8]), ([5], [5]), ([5], [5]), ([10, 11, 5], [5, 10, 11]), ([12, 5], [5, 12]), ([13, 5], [5, 13]), ([9, 14, 5], [5, 9, 14]), ([5, 15], [5, 15])])
def spec_l15Way.B10 : List Nat := [0, 0, 0, 7, 15, 31, 63, 63, 255, 511, 63, 63, 3135, 7231, 15423, 32767, 65535]
theorem spec_l15Way.tab10 : rtab .any (opsOf Try.f109 10) = spec_l15Way.T10 := by kernel_rfl
theorem spec_l15Way.bits10 : waitsOk spec_l15Way.T10.2 spec_l15Way.B10 = true := by kernel_rfl
set_option maxHeartbeats 8000000 in
set_option maxRecDepth 100000 in
theorem spec_l15Way.calls (k : Nat) (a0_0 : Int) (A0_1 : Option Addr) (c0_1 : Nat) (l0_1 : List (List Int)) (A0_2 : Option Addr) (c0_2 : Nat) (l0_2 : List Int) (a1 : Int) (a2 : Int) (r1 : List Int) (r2 : Bool) (w : World) (hr0_1 : Kd.C (Kd.slice 3 (Kd.int .i64)) w A0_1 l0_1.length l0_1) (hc0_1 : l0_1.length ≤ c0_1) (hr0_2 : Kd.C (Kd.int .i64) w A0_2 l0_2.length l0_2) (hc0_2 : l0_2.length ≤ c0_2) (h : spec_l15Way.f k a0_0 l0_1 l0_2 a1 a2 = some (r1, r2)) :
  Calls Try.prog 109 #[.agg #[.int .i64 a0_0, .slice A0_1 l0_1.length c0_1, .slice A0_2 l0_2.length c0_2], .int .i64 a1, .int .i64 a2] w fun e w' => ∃ v0_ : Value, e = .returned (.tuple #[v0_, .bool r2]) ∧ Kd.R (Kd.int .i64) 3 w' w.heap.size (fun _ => True) v0_ r1 ∧ Below w.heap.size w w' := by
 have hu38 := Try.underlying38
 have HR0_1 := Aside0.mk hr0_1; have HC0_1 := Aside0.mk hc0_1; clear hr0_1 hc0_1; have HR0_2 := Aside0.mk hr0_2; have HC0_2 := Aside0.mk hc0_2; clear hr0_2 hc0_2
 have HB := Aside0.mk (Below.refl w.heap.size w)
 have H : ((spec_l15Far.f k a0_0 l0_1 l0_2 a2).bind fun t281 => (if 0 ≤ a1 then (if a1 < (t281.length : Int) then (if (rd t281 a1) < 0 then (some (([] : List Int), false)) else (spec_l15Way.l0 k a1 a2 t281 ([] : List Int) a0_0 l0_1 l0_2)) else (none)) else (none))) = some (r1, r2) := h
 clear h; replace H := bS H; obtain ⟨t281, A4, H⟩ := H
 replace H : (if 0 ≤ a1 then (if a1 < (t281.length : Int) then (if (rd t281 a1) < 0 then (some (([] : List Int), false)) else (spec_l15Way.l0 k a1 a2 t281 ([] : List Int) a0_0 l0_1 l0_2)) else (none)) else (none)) = some (r1, r2) := H
 replace H := ifS H; obtain ⟨c5, H⟩ := H; have c5b0 := decide_eq_true c5; clear c5; replace H := ifS H; obtain ⟨c6, H⟩ := H; have c6b0 := decide_eq_true c6; clear c6
 by_cases c7 : (rd t281 a1) < 0
 ·rw [if_pos c7] at H
  have c7b0 : decide ((rd t281 a1) < 0) = true := decide_eq_true c7
  clear c7
  simp only [Option.some.injEq, Prod.mk.injEq] at H
  obtain ⟨rfl, rfl⟩ := H
  go_enter Try.func109, Try.ntmps109
  go_wp2_with (first | ((with_reducible refine gate_dst (N := 3) rfl ?_); refine boxev 3 #[.int .i64 a0_0, .slice A0_1 l0_1.length c0_1, .slice A0_2 l0_2.length c0_2] 38 ?_; intro gb280 hg w8 hbox hb; have BK280 := ak (hbox); have GW280 := ak (hgl hg (belowd HB)); have GE280 := ak (hgl hg (belowd HB)); replace HB := ak (below_step (belowd HB) hb); clear hb hbox hg; obtain ⟨hcz9_0, hcz9_1, hcz9_2, hfz9_0, hfz9_1, hfz9_2⟩ := box3 BK280) | ((with_reducible refine gate_callee (f := 106) rfl ?_); refine goesLa (some 14) rfl Try.func106 #[.agg #[.int .i64 a0_0, .slice A0_1 l0_1.length c0_1, .slice A0_2 l0_2.length c0_2], .int .i64 a2] rfl ?_; (with_reducible refine (spec_l15Far.calls k a0_0 _ _ l0_1 _ _ l0_2 a2 t281 _ ?side1 ?side2 ?side3 ?side4 A4.out).mono ?_); (case side1 => exact cd (Kd.C_below HR0_1.out HB.out)); (case side2 => exact HC0_1.out); (case side3 => exact cd (Kd.C_below HR0_2.out HB.out)); (case side4 => exact HC0_2.out); rintro e w10 ⟨v282, rfl, ho0, hb⟩; refine ⟨_, rfl, ?_⟩; have HO283 := ak (Kd.R_lower ho0 (below_size (belowg1 HB GE280))); replace BK280 := ak (blk_below (blkd BK280) hb); replace HB := ak (below_step (belowg1 HB GE280) hb); (try clear hb); (try clear ho0); obtain ⟨Ao11, co11, eo11⟩ := Kd.R_slice HO283.out; subst eo11; have p284 : 0 ≤ (a1 : Int) := da; have q284 : a1 < (t281.length : Int) := da; obtain ⟨ad284, e284, hx284_0⟩ := Kd.at_int (Kd.R_reads' HO283.out).2.2 a1 p284 q284; cases e284; replace p284 := eq_true p284; replace q284 := eq_true q284))
  go_ret2
  exact ⟨_, er2, by first | exact Kd.R_nil _ _ _ _ _ | exact Kd.N_nil _ _ _ _ _ | exact Kd.V_nil _ _ _ _ _ | exact Kd.Q_nil _ _ _ _ _ | exact Kd.S_nil _ _ _ _ _, belowg1 HB GE280⟩
 ·rw [if_neg c7] at H
  have c7b0 : decide ((rd t281 a1) < 0) = false := decide_eq_false c7
  clear c7
  have H' := Aside0.mk H
  clear H
  go_enter Try.func109, Try.ntmps109
  go_wp2_with (first | ((with_reducible refine gate_dst (N := 3) rfl ?_); refine boxev 3 #[.int .i64 a0_0, .slice A0_1 l0_1.length c0_1, .slice A0_2 l0_2.length c0_2] 38 ?_; intro gb280 hg w12 hbox hb; have BK280 := ak (hbox); have GW280 := ak (hgl hg (belowd HB)); have GE280 := ak (hgl hg (belowd HB)); replace HB := ak (below_step (belowd HB) hb); clear hb hbox hg; obtain ⟨hcz13_0, hcz13_1, hcz13_2, hfz13_0, hfz13_1, hfz13_2⟩ := box3 BK280) | ((with_reducible refine gate_callee (f := 106) rfl ?_); refine goesLa (some 14) rfl Try.func106 #[.agg #[.int .i64 a0_0, .slice A0_1 l0_1.length c0_1, .slice A0_2 l0_2.length c0_2], .int .i64 a2] rfl ?_; (with_reducible refine (spec_l15Far.calls k a0_0 _ _ l0_1 _ _ l0_2 a2 t281 _ ?side1 ?side2 ?side3 ?side4 A4.out).mono ?_); (case side1 => exact cd (Kd.C_below HR0_1.out HB.out)); (case side2 => exact HC0_1.out); (case side3 => exact cd (Kd.C_below HR0_2.out HB.out)); (case side4 => exact HC0_2.out); rintro e w14 ⟨v282, rfl, ho0, hb⟩; refine ⟨_, rfl, ?_⟩; have HO283 := ak (Kd.R_lower ho0 (below_size (belowg1 HB GE280))); replace BK280 := ak (blk_below (blkd BK280) hb); replace HB := ak (below_step (belowg1 HB GE280) hb); (try clear hb); (try clear ho0); obtain ⟨Ao15, co15, eo15⟩ := Kd.R_slice HO283.out; subst eo15; have p284 : 0 ≤ (a1 : Int) := da; have q284 : a1 < (t281.length : Int) := da; obtain ⟨ad284, e284, hx284_0⟩ := Kd.at_int (Kd.R_reads' HO283.out).2.2 a1 p284 q284; cases e284; replace p284 := eq_true p284; replace q284 := eq_true q284))
  go_loopg [1, 9] k (fun kq v1 v9 w' => ∃ (x1_1 : Int) (x9_1 : List Int), v1 = .int .i64 x1_1 ∧ Aside0 (spec_l15Way.l0 kq x1_1 a2 t281 x9_1 a0_0 l0_1 l0_2 = some (r1, r2)) ∧ Aside0 (kq ≤ k) ∧ Aside0 (Kd.R (Kd.int .i64) 3 w' w.heap.size (fun k_ => some k_ ≠ (v9 : Value).ownBlock) (.slice (some ad284) t281.length co15) t281) ∧ Aside0 (Kd.R (Kd.int .i64) 3 w' w.heap.size (fun k_ => some k_ ≠ ((.slice (some ad284) t281.length co15) : Value).ownBlock) v9 x9_1) ∧ Aside0 (w'.heap[gb280]? = some (.cells #[.int .i64 a0_0, (.slice A0_1 l0_1.length c0_1), (.slice A0_2 l0_2.length c0_2)] 38 (0, 0))) ∧ Aside0 (Below w.heap.size w w'))
  case atStart => exact ⟨(a1), (([] : List Int)), er, H', ⟨Nat.le_refl _⟩, ⟨by (with_reducible repeat (first | apply Kd.R_alloc | apply Kd.R_drewN | apply Kd.R_drew)); exact Kd.R_mono HO283.out (fun _ hk => (by simp [Value.ownBlock]))⟩, ⟨by first | exact Kd.R_nil _ _ _ _ _ | exact Kd.N_nil _ _ _ _ _ | exact Kd.V_nil _ _ _ _ _ | exact Kd.Q_nil _ _ _ _ _ | exact Kd.S_nil _ _ _ _ _⟩, ⟨blkd BK280⟩, ⟨belowg1 HB GE280⟩⟩
  case round =>
   clear H'
   (try clear c5b0); (try clear c6b0); (try clear c7b0); (try clear hcz13_0); (try clear hcz13_1); (try clear hcz13_2); (try clear hfz13_0); (try clear hfz13_1); (try clear hfz13_2); (try clear hx284_0); (try clear p284); (try clear q284)
   obtain ⟨x1_1, x9_1, rfl, HA, HK1, HO_8, HO_9, BK280, HB⟩ := hrel
   cases gk with
   | zero => exact absurd HA.out (by simp [spec_l15Way.l0])
   | succ k1 =>
    have H := HA.out; clear HA
    simp only [spec_l15Way.l0] at H
    by_cases c16 : x1_1 = a2
    ·rw [if_pos c16] at H
     have c16b0 : (x1_1 == a2) = true := beq_iff_eq.mpr c16
     have c16b1 : (x1_1 != a2) = false := bne_eq_false_iff_eq.mpr c16
     clear c16
     simp only [Option.some.injEq, Prod.mk.injEq] at H
     obtain ⟨rfl, rfl⟩ := H; go_wp2
     go_ret2
     exact ⟨_, er2, by (with_reducible repeat (first | apply Kd.R_alloc | apply Kd.R_drewN | apply Kd.R_drew)); exact Kd.R_mono HO_9.out (fun _ hk => trivial), belowg1 HB GE280⟩
    ·rw [if_neg c16] at H
     have c16b0 : (x1_1 == a2) = false := beq_eq_false_iff_ne.mpr c16
     have c16b1 : (x1_1 != a2) = true := bne_iff_ne.mpr c16
     have H' := Aside0.mk H
     clear H; go_wp2
     go_loopg [10, 11] k1 (fun kq v10 v11 w' => ∃ (x10_2 : Int) (x11_2 : Int), v10 = .int .i64 x10_2 ∧ v11 = .int .i64 x11_2 ∧ Aside0 (spec_l15Way.l1 kq x1_1 a2 t281 x9_1 x10_2 x11_2 a0_0 l0_1 l0_2 = some (r1, r2)) ∧ Aside0 (kq ≤ k1) ∧ Aside0 (Kd.R (Kd.int .i64) 3 w' w.heap.size (fun k_ => some k_ ≠ (u9 : Value).ownBlock) (.slice (some ad284) t281.length co15) t281) ∧ Aside0 (Kd.R (Kd.int .i64) 3 w' w.heap.size (fun k_ => some k_ ≠ ((.slice (some ad284) t281.length co15) : Value).ownBlock) u9 x9_1) ∧ Aside0 (w'.heap[gb280]? = some (.cells #[.int .i64 a0_0, (.slice A0_1 l0_1.length c0_1), (.slice A0_2 l0_2.length c0_2)] 38 (0, 0))) ∧ Aside0 (Below w.heap.size w w'))
     case atStart => exact ⟨((-1)), (0), er, er, H', ⟨Nat.le_refl _⟩, ⟨rdl HO_8⟩, ⟨rdl HO_9⟩, ⟨blkd BK280⟩, ⟨belowg1 HB GE280⟩⟩
     case round =>
      clear H'
      (try clear c16); (try clear c16b0); (try clear c16b1)
      obtain ⟨x10_2, x11_2, rfl, rfl, HA, HK2, HO_8, HO_9, BK280, HB⟩ := hrel
      cases gk with
      | zero => exact absurd HA.out (by simp [spec_l15Way.l1])
      | succ k2 =>
       have H := HA.out; clear HA
       simp only [spec_l15Way.l1] at H
       have HC17 := Aside0.mk H; clear H
       go_upto_region 8 with (fail)
       go_cut [30] (fun v30 wc => ∃ (kq : Nat) (x30_16 : Bool), v30 = .bool x30_16 ∧ Aside0 (spec_l15Way.j2 kq x1_1 a2 t281 x9_1 x10_2 x11_2 x30_16 a0_0 l0_1 l0_2 = some (r1, r2)) ∧ Aside0 (kq ≤ k2) ∧ Aside0 (Kd.R (Kd.int .i64) 3 wc w.heap.size (fun k_ => some k_ ≠ (u9 : Value).ownBlock) (.slice (some ad284) t281.length co15) t281) ∧ Aside0 (Kd.R (Kd.int .i64) 3 wc w.heap.size (fun k_ => some k_ ≠ ((.slice (some ad284) t281.length co15) : Value).ownBlock) u9 x9_1) ∧ Aside0 (wc.heap[gb280]? = some (.cells #[.int .i64 a0_0, (.slice A0_1 l0_1.length c0_1), (.slice A0_2 l0_2.length c0_2)] 38 (0, 0))) ∧ Aside0 (Below w.heap.size w wc))
       case first =>
        have H := HC17.out; clear HC17
        by_cases c18 : x11_2 < a0_0
        ·rw [if_pos c18] at H
         have c18b0 : decide (x11_2 < a0_0) = true := decide_eq_true c18
         clear c18
         (first | rw [c18b0] | (simp only [i64_w, i32_w]; rw [c18b0]) | skip)
         have H' := Aside0.mk H
         clear H; obtain ⟨hcz19_0, hcz19_1, hcz19_2, hfz19_0, hfz19_1, hfz19_2⟩ := box3 BK280; go_wp2
         go_meet
         case rel => exact ⟨_, (decide (x10_2 < 0)), er, H', ⟨by have := HK1.out; have := HK2.out; first | omega | exact Nat.le_refl _⟩, ⟨rdl HO_8⟩, ⟨rdl HO_9⟩, ⟨blkd BK280⟩, ⟨belowg1 HB GE280⟩⟩
        ·rw [if_neg c18] at H
         have c18b0 : decide (x11_2 < a0_0) = false := decide_eq_false c18
         clear c18
         (first | rw [c18b0] | (simp only [i64_w, i32_w]; rw [c18b0]) | skip)
         have H' := Aside0.mk H
         clear H; obtain ⟨hcz20_0, hcz20_1, hcz20_2, hfz20_0, hfz20_1, hfz20_2⟩ := box3 BK280; go_wp2
         go_meet
         case rel => exact ⟨_, (false), er, H', ⟨by have := HK1.out; have := HK2.out; first | omega | exact Nat.le_refl _⟩, ⟨rdl HO_8⟩, ⟨rdl HO_9⟩, ⟨blkd BK280⟩, ⟨belowg1 HB GE280⟩⟩
       case rest =>
        clear HC17
        obtain ⟨kq, x30_16, rfl, HA, HJ16, HO_8, HO_9, BK280, HB⟩ := hcut
        cases kq with
        | zero => exact absurd HA.out (by simp [spec_l15Way.j2])
        | succ kj16 =>
         have H := HA.out; clear HA
         simp only [spec_l15Way.j2] at H
         by_cases c21 : x30_16 = true
         ·subst c21
          have H1 : ((spec_l15Pair.f kj16 a0_0 l0_1 l0_2 x1_1 x11_2).bind fun t285 => (if t285 ≥ 0 then (if 0 ≤ x11_2 then (if x11_2 < (t281.length : Int) then (if 0 ≤ x1_1 then (if x1_1 < (t281.length : Int) then (if (rd t281 x11_2) = (wrap64 ((rd t281 x1_1) - 1)) then (spec_l15Way.l1 kj16 x1_1 a2 t281 x9_1 x11_2 (wrap64 (x11_2 + 1)) a0_0 l0_1 l0_2) else (spec_l15Way.l1 kj16 x1_1 a2 t281 x9_1 x10_2 (wrap64 (x11_2 + 1)) a0_0 l0_1 l0_2)) else (none)) else (none)) else (none)) else (none)) else (spec_l15Way.l1 kj16 x1_1 a2 t281 x9_1 x10_2 (wrap64 (x11_2 + 1)) a0_0 l0_1 l0_2))) = some (r1, r2) := by rw [if_pos rfl] at H; exact H
          clear H
          have H := H1
          clear H1; replace H := bS H; obtain ⟨t285, A22, H⟩ := H
          replace H : (if t285 ≥ 0 then (if 0 ≤ x11_2 then (if x11_2 < (t281.length : Int) then (if 0 ≤ x1_1 then (if x1_1 < (t281.length : Int) then (if (rd t281 x11_2) = (wrap64 ((rd t281 x1_1) - 1)) then (spec_l15Way.l1 kj16 x1_1 a2 t281 x9_1 x11_2 (wrap64 (x11_2 + 1)) a0_0 l0_1 l0_2) else (spec_l15Way.l1 kj16 x1_1 a2 t281 x9_1 x10_2 (wrap64 (x11_2 + 1)) a0_0 l0_1 l0_2)) else (none)) else (none)) else (none)) else (none)) else (spec_l15Way.l1 kj16 x1_1 a2 t281 x9_1 x10_2 (wrap64 (x11_2 + 1)) a0_0 l0_1 l0_2)) = some (r1, r2) := H
          by_cases c23 : t285 ≥ 0
          ·rw [if_pos c23] at H
           have c23b0 : decide (0 ≤ t285) = true := decide_eq_true c23
           clear c23; replace H := ifS H; obtain ⟨c24, H⟩ := H; have c24b0 := decide_eq_true c24; clear c24; replace H := ifS H; obtain ⟨c25, H⟩ := H; have c25b0 := decide_eq_true c25; clear c25; replace H := ifS H; obtain ⟨c26, H⟩ := H; have c26b0 := decide_eq_true c26; clear c26; replace H := ifS H; obtain ⟨c27, H⟩ := H; have c27b0 := decide_eq_true c27; clear c27
           by_cases c28 : (rd t281 x11_2) = (wrap64 ((rd t281 x1_1) - 1))
           ·rw [if_pos c28] at H
            have c28b0 : ((rd t281 x11_2) == (wrap64 ((rd t281 x1_1) - 1))) = true := beq_iff_eq.mpr c28
            have c28b1 : ((rd t281 x11_2) != (wrap64 ((rd t281 x1_1) - 1))) = false := bne_eq_false_iff_eq.mpr c28
            clear c28
            have H' := Aside0.mk H
            clear H
            try go_wp2
            replace HO_8 := ak (Kd.R_drew HO_8.out)
            replace HO_9 := ak (Kd.R_drew HO_9.out)
            replace BK280 := ak (blk_drew BK280.out)
            replace HB := ak (below_drew1 HB.out)
            have p286 : 0 ≤ (x11_2 : Int) := da
            have q286 : x11_2 < (t281.length : Int) := da
            obtain ⟨ad286, e286, hx286_0⟩ := Kd.at_int (Kd.R_reads' HO_8.out).2.2 x11_2 p286 q286
            obtain rfl : ad284 = ad286 := (by injection e286)
            replace p286 := eq_true p286; replace q286 := eq_true q286
            have p287 : 0 ≤ (x1_1 : Int) := da
            have q287 : x1_1 < (t281.length : Int) := da
            obtain ⟨ad287, e287, hx287_0⟩ := Kd.at_int (Kd.R_reads' HO_8.out).2.2 x1_1 p287 q287
            obtain rfl : ad284 = ad287 := (by injection e287)
            replace p287 := eq_true p287; replace q287 := eq_true q287
            refine start_ (n := 17) (S := fun w' => w'.cell? ⟨gb280, 0, none⟩ = some (.int .i64 a0_0) ∧ w'.cell? ⟨gb280, 1, none⟩ = some (.slice A0_1 l0_1.length c0_1) ∧ w'.cell? ⟨gb280, 2, none⟩ = some (.slice A0_2 l0_2.length c0_2) ∧ w'.cell? (ad284.add (x11_2).toNat) = some (.int .i64 (rd t281 x11_2)) ∧ w'.cell? (ad284.add (x1_1).toNat) = some (.int .i64 (rd t281 x1_1))) (ds := []) (bl 17 0) (by kernel_rfl) rfl rfl ⟨bq BK280 0, bq BK280 1, bq BK280 2, hx286_0, hx287_0⟩ (fun hHeld => ?_); refine with_tabW spec_l15Way.tab10 spec_l15Way.bits10 (fun HT_ HW_ => ?_)
            generalize wc.drew = w29 at HO_8 HO_9 BK280 HB hx286_0 hx287_0 hHeld ⊢
            refine pureA 1 (some 34) 17 2 HT_ ?_
            refine pureA 2 (some 35) 17 6 HT_ ?_
            refine takeA 0 (some 33) 17 7 HT_ HW_ hHeld ?_ (hy := by rintro w' ⟨s0, s1, s2, s3, s4⟩; go_simp; with_reducible rfl)
            refine oneA 3 (some 36) 17 15 HT_ (fun K hK => ?_)
            refine goes_ Try.func145 (by kernel_rfl) rfl #[.agg #[.int .i64 a0_0, .slice A0_1 l0_1.length c0_1, .slice A0_2 l0_2.length c0_2], .int .i64 x1_1, .int .i64 x11_2] (by rfl) rfl rfl (by (try simp only [List.map_toArray, List.map_cons, List.map_nil]); first | done | rfl | (simp only [List.length_drop, List.length_take]; rfl)) ?_
            with_reducible refine (spec_l15Pair.calls kj16 a0_0 _ _ l0_1 _ _ l0_2 x1_1 x11_2 t285 _ ?side1 ?side2 ?side3 ?side4 A22.out).mono ?_
            (case side1 => exact cd (Kd.C_below HR0_1.out HB.out))
            (case side2 => exact HC0_1.out)
            (case side3 => exact cd (Kd.C_below HR0_2.out HB.out))
            (case side4 => exact HC0_2.out)
            rintro e w30 ⟨rfl, hb⟩
            have HS3_ := (hb.cell (World.block_lt_of_cell? _ _ (hHeld.2.2.2.1))).trans (hHeld.2.2.2.1)
            have HS4_ := (hb.cell (World.block_lt_of_cell? _ _ (hHeld.2.2.2.2))).trans (hHeld.2.2.2.2)
            refine ⟨_, rfl, ?_⟩
            replace HO_8 := ak (Kd.R_below (rdl HO_8) hb)
            replace HO_9 := ak (Kd.R_below (rdl HO_9) hb)
            replace BK280 := ak (blk_below (blkd BK280) hb)
            replace HB := ak (below_step (belowg1 HB GE280) hb)
            (try clear hb); (try clear hb2); (try clear hk); (try clear hi)
            refine hK.out _ _ ⟨bq BK280 0, bq BK280 1, bq BK280 2, HS3_, HS4_⟩ (fun hHeld => ?_)
            clear hK K
            refine norm_ (a' := ?_) ?_ ?_
            rotate_left
            ·show Act.put _ (some 36) _ = _
             simp only [Act.put, List.setIfInBounds_toArray, List.set_cons_zero, List.set_cons_succ, i64_w, i32_w]
             rfl
            refine pureA 4 (some 37) 17 31 HT_ ?_
            refine pureA 5 (some 38) 17 63 HT_ ?_
            refine pureA 6 (some 39) 17 127 HT_ ?_
            refine pureA 7 (some 40) 17 255 HT_ ?_
            refine pureA 8 (some 41) 17 511 HT_ ?_
            refine pureA 10 (some 43) 17 1535 HT_ ?_
            refine pureA 11 (some 44) 17 3583 HT_ ?_
            refine pureA 12 (some 45) 17 7679 HT_ ?_
            refine takeA 9 (some 42) 17 8191 HT_ HW_ hHeld ?_ (hy := by rintro w' ⟨s0, s1, s2, s3, s4⟩; go_simp; with_reducible rfl)
            refine takeA 13 (some 46) 17 16383 HT_ HW_ hHeld ?_ (hy := by rintro w' ⟨s0, s1, s2, s3, s4⟩; go_simp; with_reducible rfl)
            refine pureA 14 (some 47) 17 32767 HT_ ?_
            refine pureA 15 (some 48) 17 65535 HT_ ?_
            refine pureA 16 (some 49) 17 131071 HT_ ?_
            refine done_ (done_of HT_.out (by kernel_rfl)) ?_
            try go_wp2
            go_roundg kj16
            case measure => have := HK1.out; have := HK2.out; have := HJ16.out; omega
            case rel => exact ⟨(x11_2), (wrap64 (x11_2 + 1)), er, er, H', ⟨by have := HK1.out; have := HK2.out; have := HJ16.out; omega⟩, ⟨rdl HO_8⟩, ⟨rdl HO_9⟩, ⟨blkd BK280⟩, ⟨belowg1 HB GE280⟩⟩
           ·rw [if_neg c28] at H
            have c28b0 : ((rd t281 x11_2) == (wrap64 ((rd t281 x1_1) - 1))) = false := beq_eq_false_iff_ne.mpr c28
            have c28b1 : ((rd t281 x11_2) != (wrap64 ((rd t281 x1_1) - 1))) = true := bne_iff_ne.mpr c28
            have H' := Aside0.mk H
            clear H
            try go_wp2
            replace HO_8 := ak (Kd.R_drew HO_8.out)
            replace HO_9 := ak (Kd.R_drew HO_9.out)
            replace BK280 := ak (blk_drew BK280.out)
            replace HB := ak (below_drew1 HB.out)
            have p286 : 0 ≤ (x11_2 : Int) := da
            have q286 : x11_2 < (t281.length : Int) := da
            obtain ⟨ad286, e286, hx286_0⟩ := Kd.at_int (Kd.R_reads' HO_8.out).2.2 x11_2 p286 q286
            obtain rfl : ad284 = ad286 := (by injection e286)
            replace p286 := eq_true p286; replace q286 := eq_true q286
            have p287 : 0 ≤ (x1_1 : Int) := da
            have q287 : x1_1 < (t281.length : Int) := da
            obtain ⟨ad287, e287, hx287_0⟩ := Kd.at_int (Kd.R_reads' HO_8.out).2.2 x1_1 p287 q287
            obtain rfl : ad284 = ad287 := (by injection e287)
            replace p287 := eq_true p287; replace q287 := eq_true q287
            refine start_ (n := 17) (S := fun w' => w'.cell? ⟨gb280, 0, none⟩ = some (.int .i64 a0_0) ∧ w'.cell? ⟨gb280, 1, none⟩ = some (.slice A0_1 l0_1.length c0_1) ∧ w'.cell? ⟨gb280, 2, none⟩ = some (.slice A0_2 l0_2.length c0_2) ∧ w'.cell? (ad284.add (x11_2).toNat) = some (.int .i64 (rd t281 x11_2)) ∧ w'.cell? (ad284.add (x1_1).toNat) = some (.int .i64 (rd t281 x1_1))) (ds := []) (bl 17 0) (by kernel_rfl) rfl rfl ⟨bq BK280 0, bq BK280 1, bq BK280 2, hx286_0, hx287_0⟩ (fun hHeld => ?_); refine with_tabW spec_l15Way.tab10 spec_l15Way.bits10 (fun HT_ HW_ => ?_)
            generalize wc.drew = w31 at HO_8 HO_9 BK280 HB hx286_0 hx287_0 hHeld ⊢
            refine pureA 1 (some 34) 17 2 HT_ ?_
            refine pureA 2 (some 35) 17 6 HT_ ?_
            refine takeA 0 (some 33) 17 7 HT_ HW_ hHeld ?_ (hy := by rintro w' ⟨s0, s1, s2, s3, s4⟩; go_simp; with_reducible rfl)
            refine oneA 3 (some 36) 17 15 HT_ (fun K hK => ?_)
            refine goes_ Try.func145 (by kernel_rfl) rfl #[.agg #[.int .i64 a0_0, .slice A0_1 l0_1.length c0_1, .slice A0_2 l0_2.length c0_2], .int .i64 x1_1, .int .i64 x11_2] (by rfl) rfl rfl (by (try simp only [List.map_toArray, List.map_cons, List.map_nil]); first | done | rfl | (simp only [List.length_drop, List.length_take]; rfl)) ?_
            with_reducible refine (spec_l15Pair.calls kj16 a0_0 _ _ l0_1 _ _ l0_2 x1_1 x11_2 t285 _ ?side1 ?side2 ?side3 ?side4 A22.out).mono ?_
            (case side1 => exact cd (Kd.C_below HR0_1.out HB.out))
            (case side2 => exact HC0_1.out)
            (case side3 => exact cd (Kd.C_below HR0_2.out HB.out))
            (case side4 => exact HC0_2.out)
            rintro e w32 ⟨rfl, hb⟩
            have HS3_ := (hb.cell (World.block_lt_of_cell? _ _ (hHeld.2.2.2.1))).trans (hHeld.2.2.2.1)
            have HS4_ := (hb.cell (World.block_lt_of_cell? _ _ (hHeld.2.2.2.2))).trans (hHeld.2.2.2.2)
            refine ⟨_, rfl, ?_⟩
            replace HO_8 := ak (Kd.R_below (rdl HO_8) hb)
            replace HO_9 := ak (Kd.R_below (rdl HO_9) hb)
            replace BK280 := ak (blk_below (blkd BK280) hb)
            replace HB := ak (below_step (belowg1 HB GE280) hb)
            (try clear hb); (try clear hb2); (try clear hk); (try clear hi)
            refine hK.out _ _ ⟨bq BK280 0, bq BK280 1, bq BK280 2, HS3_, HS4_⟩ (fun hHeld => ?_)
            clear hK K
            refine norm_ (a' := ?_) ?_ ?_
            rotate_left
            ·show Act.put _ (some 36) _ = _
             simp only [Act.put, List.setIfInBounds_toArray, List.set_cons_zero, List.set_cons_succ, i64_w, i32_w]
             rfl
            refine pureA 4 (some 37) 17 31 HT_ ?_
            refine pureA 5 (some 38) 17 63 HT_ ?_
            refine pureA 6 (some 39) 17 127 HT_ ?_
            refine pureA 7 (some 40) 17 255 HT_ ?_
            refine pureA 8 (some 41) 17 511 HT_ ?_
            refine pureA 10 (some 43) 17 1535 HT_ ?_
            refine pureA 11 (some 44) 17 3583 HT_ ?_
            refine pureA 12 (some 45) 17 7679 HT_ ?_
            refine takeA 9 (some 42) 17 8191 HT_ HW_ hHeld ?_ (hy := by rintro w' ⟨s0, s1, s2, s3, s4⟩; go_simp; with_reducible rfl)
            refine takeA 13 (some 46) 17 16383 HT_ HW_ hHeld ?_ (hy := by rintro w' ⟨s0, s1, s2, s3, s4⟩; go_simp; with_reducible rfl)
            refine pureA 14 (some 47) 17 32767 HT_ ?_
            refine pureA 15 (some 48) 17 65535 HT_ ?_
            refine pureA 16 (some 49) 17 131071 HT_ ?_
            refine done_ (done_of HT_.out (by kernel_rfl)) ?_
            try go_wp2
            go_roundg kj16
            case measure => have := HK1.out; have := HK2.out; have := HJ16.out; omega
            case rel => exact ⟨(x10_2), (wrap64 (x11_2 + 1)), er, er, H', ⟨by have := HK1.out; have := HK2.out; have := HJ16.out; omega⟩, ⟨rdl HO_8⟩, ⟨rdl HO_9⟩, ⟨blkd BK280⟩, ⟨belowg1 HB GE280⟩⟩
          ·rw [if_neg c23] at H
           have c23b0 : decide (0 ≤ t285) = false := decide_eq_false c23
           clear c23
           have H' := Aside0.mk H
           clear H
           try go_wp2
           replace HO_8 := ak (Kd.R_drew HO_8.out)
           replace HO_9 := ak (Kd.R_drew HO_9.out)
           replace BK280 := ak (blk_drew BK280.out)
           replace HB := ak (below_drew1 HB.out)
           refine start_ (n := 17) (S := fun w' => w'.cell? ⟨gb280, 0, none⟩ = some (.int .i64 a0_0) ∧ w'.cell? ⟨gb280, 1, none⟩ = some (.slice A0_1 l0_1.length c0_1) ∧ w'.cell? ⟨gb280, 2, none⟩ = some (.slice A0_2 l0_2.length c0_2)) (ds := []) (bl 17 0) (by kernel_rfl) rfl rfl ⟨bq BK280 0, bq BK280 1, bq BK280 2⟩ (fun hHeld => ?_); refine with_tabW spec_l15Way.tab10 spec_l15Way.bits10 (fun HT_ HW_ => ?_)
           generalize wc.drew = w33 at HO_8 HO_9 BK280 HB hHeld ⊢
           refine pureA 1 (some 34) 17 2 HT_ ?_
           refine pureA 2 (some 35) 17 6 HT_ ?_
           refine takeA 0 (some 33) 17 7 HT_ HW_ hHeld ?_ (hy := by rintro w' ⟨s0, s1, s2⟩; go_simp; with_reducible rfl)
           refine oneA 3 (some 36) 17 15 HT_ (fun K hK => ?_)
           refine goes_ Try.func145 (by kernel_rfl) rfl #[.agg #[.int .i64 a0_0, .slice A0_1 l0_1.length c0_1, .slice A0_2 l0_2.length c0_2], .int .i64 x1_1, .int .i64 x11_2] (by rfl) rfl rfl (by (try simp only [List.map_toArray, List.map_cons, List.map_nil]); first | done | rfl | (simp only [List.length_drop, List.length_take]; rfl)) ?_
           with_reducible refine (spec_l15Pair.calls kj16 a0_0 _ _ l0_1 _ _ l0_2 x1_1 x11_2 t285 _ ?side1 ?side2 ?side3 ?side4 A22.out).mono ?_
           (case side1 => exact cd (Kd.C_below HR0_1.out HB.out))
           (case side2 => exact HC0_1.out)
           (case side3 => exact cd (Kd.C_below HR0_2.out HB.out))
           (case side4 => exact HC0_2.out)
           rintro e w34 ⟨rfl, hb⟩
           refine ⟨_, rfl, ?_⟩
           replace HO_8 := ak (Kd.R_below (rdl HO_8) hb)
           replace HO_9 := ak (Kd.R_below (rdl HO_9) hb)
           replace BK280 := ak (blk_below (blkd BK280) hb)
           replace HB := ak (below_step (belowg1 HB GE280) hb)
           (try clear hb); (try clear hb2); (try clear hk); (try clear hi)
           refine hK.out _ _ ⟨bq BK280 0, bq BK280 1, bq BK280 2⟩ (fun hHeld => ?_)
           clear hK K
           refine norm_ (a' := ?_) ?_ ?_
           rotate_left
           ·show Act.put _ (some 36) _ = _
            simp only [Act.put, List.setIfInBounds_toArray, List.set_cons_zero, List.set_cons_succ, i64_w, i32_w]
            rfl
           refine pureA 4 (some 37) 17 31 HT_ ?_
           refine pureA 5 (some 38) 17 63 HT_ ?_
           refine pureB 6 (some 39) 17 127 HT_ ?_
           refine pureB 7 (some 40) 17 255 HT_ ?_
           refine pureB 8 (some 41) 17 511 HT_ ?_
           refine pureB 9 (some 42) 17 1023 HT_ ?_
           refine pureB 10 (some 43) 17 2047 HT_ ?_
           refine pureB 11 (some 44) 17 4095 HT_ ?_
           refine pureB 12 (some 45) 17 8191 HT_ ?_
           refine pureB 13 (some 46) 17 16383 HT_ ?_
           refine pureB 14 (some 47) 17 32767 HT_ ?_
           refine pureB 15 (some 48) 17 65535 HT_ ?_
           refine pureA 16 (some 49) 17 131071 HT_ ?_
           refine done_ (done_of HT_.out (by kernel_rfl)) ?_
           try go_wp2
           go_roundg kj16
           case measure => have := HK1.out; have := HK2.out; have := HJ16.out; omega
           case rel => exact ⟨(x10_2), (wrap64 (x11_2 + 1)), er, er, H', ⟨by have := HK1.out; have := HK2.out; have := HJ16.out; omega⟩, ⟨rdl HO_8⟩, ⟨rdl HO_9⟩, ⟨blkd BK280⟩, ⟨belowg1 HB GE280⟩⟩
         ·replace c21 := Bool.eq_false_iff.mpr c21
          subst c21
          have H1 : ((spec_l15Pair.f kj16 a0_0 l0_1 l0_2 x1_1 x10_2).bind fun t288 => (if x9_1.length < 17592186044416 then (spec_l15Way.l0 kj16 x10_2 a2 t281 (x9_1 ++ [t288]) a0_0 l0_1 l0_2) else (none))) = some (r1, r2) := by rw [if_neg (show ¬ (false = true) by decide)] at H; exact H
          clear H
          have H := H1
          clear H1; replace H := bS H; obtain ⟨t288, A35, H⟩ := H
          replace H : (if x9_1.length < 17592186044416 then (spec_l15Way.l0 kj16 x10_2 a2 t281 (x9_1 ++ [t288]) a0_0 l0_1 l0_2) else (none)) = some (r1, r2) := H
          replace H := ifS H; obtain ⟨c36, H⟩ := H; have LMc36 := Aside0.mk c36; clear c36
          obtain ⟨y289, hy_⟩ : ∃ y_ : List Int, y_ = (x9_1 ++ [t288]) := ⟨_, rfl⟩
          replace H : (spec_l15Way.l0 kj16 x10_2 a2 t281 y289 a0_0 l0_1 l0_2) = some (r1, r2) := yH
          have Ny289 := ak hy_; clear hy_
          have H' := Aside0.mk H
          clear H; obtain ⟨hcz37_0, hcz37_1, hcz37_2, hfz37_0, hfz37_1, hfz37_2⟩ := box3 BK280
          go_wp2_with (first | ((with_reducible refine gate_callee (f := 145) rfl ?_); refine goesLa (some 55) rfl Try.func145 #[.agg #[.int .i64 a0_0, .slice A0_1 l0_1.length c0_1, .slice A0_2 l0_2.length c0_2], .int .i64 x1_1, .int .i64 x10_2] rfl ?_; (with_reducible refine (spec_l15Pair.calls kj16 a0_0 _ _ l0_1 _ _ l0_2 x1_1 x10_2 t288 _ ?side1 ?side2 ?side3 ?side4 A35.out).mono ?_); (case side1 => exact cd (Kd.C_below HR0_1.out HB.out)); (case side2 => exact HC0_1.out); (case side3 => exact cd (Kd.C_below HR0_2.out HB.out)); (case side4 => exact HC0_2.out); rintro e w38 ⟨rfl, hb⟩; refine ⟨_, rfl, ?_⟩; replace HO_8 := ak (Kd.R_below (rdl HO_8) hb); replace HO_9 := ak (Kd.R_below (rdl HO_9) hb); replace BK280 := ak (blk_below (blkd BK280) hb); replace HB := ak (below_step (belowg1 HB GE280) hb); (try clear hb)) | ((with_reducible refine gate_builtin (b := .append) (xs := #[.tmp 51, .tmp 56]) rfl ?_); at_builtin; refine Kd.R_append (Kd.int .i64) (w0 := w) w.heap.size rfl (.tmp 51) (.tmp 56) 22 3 (.int .i64 0) 8 rfl Try.underlying22 info3 rfl (by decide) (by omega) u9 x9_1 t288 [.int .i64 t288] (fun k_ => some k_ ≠ (.slice (some ad284) t281.length co15 : Value).ownBlock) (fun _ => False) rfl rfl ?aP (fun _ hk => hk.elim) ?aF ?aO ?aB ?aS ?aL ?_; (case aP => exact rfl); (case aB => exact (belowg1 HB GE280)); (case aF => exact (fun k_ hk => Kd.fresh' (Kd.R_lt (rdl HO_8)) k_ hk)); (case aO => exact (rdl HO_9)); (case aS => exact (below_size (belowg1 HB GE280))); (case aL => have := LMc36.out; omega); intro v290 w39 ho hb hg hat; rw [← Ny289.out] at ho; replace HO_8 := ak (Kd.R_after (ok := (fun _ => True)) (by (with_reducible repeat (first | apply Kd.R_alloc | apply Kd.R_drewN | apply Kd.R_drew)); exact Kd.R_mono HO_8.out (fun _ hk => ⟨trivial, hk⟩)) hg hat); replace BK280 := ak (blk_grown (blkd BK280) hg (Kd.R_ne HO_9.out BK280.out (by decide))); replace HB := ak (hb); have HO291 := ak (ho); clear HO_9; clear ho hb hg hat))
          go_roundg kj16
          case measure => have := HK1.out; have := HK2.out; have := HJ16.out; omega
          case rel => exact ⟨(x10_2), (y289), er, H', ⟨by have := HK1.out; have := HK2.out; have := HJ16.out; omega⟩, ⟨by (with_reducible repeat (first | apply Kd.R_alloc | apply Kd.R_drewN | apply Kd.R_drew)); exact Kd.R_mono HO_8.out (fun _ hk => hk.2)⟩, ⟨rdl HO291⟩, ⟨blkd BK280⟩, ⟨belowg1 HB GE280⟩⟩

end Go.Proofs.Ytpibdgknmjjolaa.QFnTable
