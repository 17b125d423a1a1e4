-- printed by this session's own program (wip/tools/pp.py: the kit's print.py with changes); Lean checks it
import Derived.Test.YtpibdgknmjjolaaQFnTablex0
import Derived.Test.YtpibdgknmjjolaaQFnTablex1
import Derived.Test.YtpibdgknmjjolaaQFnTablex5
import Derived.Test.YtpibdgknmjjolaaQFnTablex6
namespace Go.Proofs.Ytpibdgknmjjolaa.QFnTable
open Go.RowKit Go.Proofs.YtpibdgknmjjolaaW.PrintWords Go.Proofs.YtpibdgknmjjolaaW.PrintLast Go.Proofs.YtpibdgknmjjolaaW.PrintMore
attribute [local go_sem] max2_int min2_int max_two min_two max_three min_three max_four min_four strLss strGtr strLeq strGeq   -- for this text's walks alone
set_option linter.unusedVariables false
set_option linter.unusedSimpArgs false

/-! ### spec_OtherCoins: function 55 -/
mutual
def spec_OtherCoins.j0 : Nat → Int → Int → Int → Bool → Int → List (List Int) → List Int → Option (Int × (List (List Int)) × List Int × Bool)
  | 0, _, _, _, _, _, _, _ => none
  | k + 1, x1, x2, x3, x26, x293000, x293001, x293002 => if x26 = true then (some (0, ([] : List (List Int)), ([] : List Int), false)) else ((spec_l15Way.f k x293000 x293001 x293002 x1 x2).bind fun bt296 => (if bt296.2 = true then ((some (([] : List Int) : List Int)).bind fun y300 => (if y300.length + x293002.length < 17592186044416 then (spec_OtherCoins.l0 k x3 bt296.1 (y300 ++ x293002) x293001 (x293001.length : Int) 0 x293000 ([] : List (List Int))) else (none))) else (some (0, ([] : List (List Int)), ([] : List Int), false))))
def spec_OtherCoins.l0 : Nat → Int → List Int → List Int → List (List Int) → Int → Int → Int → List (List Int) → Option (Int × (List (List Int)) × List Int × Bool)
  | 0, _, _, _, _, _, _, _, _ => none
  | k + 1, x3, x10, x43, x46, x47, x48, x307000, x307001 => if x48 < x47 then (if 0 ≤ x48 then (if x48 < (x46.length : Int) then ((some (([] : List Int) : List Int)).bind fun y308 => (if y308.length + (rd_L1 x46 x48).length < 17592186044416 then (if x307001.length < 5864062014805 then (spec_OtherCoins.l0 k x3 x10 x43 x46 x47 (wrap64 (x48 + 1)) x307000 (x307001 ++ [(y308 ++ (rd_L1 x46 x48))])) else (none)) else (none))) else (none)) else (none)) else (spec_OtherCoins.l1 k x3 x10 (x10.length : Int) 0 x307000 x307001 x43)
def spec_OtherCoins.l1 : Nat → Int → List Int → Int → Int → Int → List (List Int) → List Int → Option (Int × (List (List Int)) × List Int × Bool)
  | 0, _, _, _, _, _, _, _ => none
  | k + 1, x3, x61, x62, x63, x307000, x307001, x307002 => if x63 < x62 then (if 0 ≤ x63 then (if x63 < (x61.length : Int) then (if 0 ≤ (rd x61 x63) then (if (rd x61 x63) < (x307002.length : Int) then (spec_OtherCoins.l1 k x3 x61 x62 (wrap64 (x63 + 1)) x307000 x307001 (x307002.set ((rd x61 x63) : Int).toNat (Go.bits .xor .i64 (rd x307002 (rd x61 x63)) x3))) else (none)) else (none)) else (none)) else (none)) else (some (x307000, x307001, x307002, true))
end
def spec_OtherCoins.f (k : Nat) (a0_0 : Int) (l0_1 : List (List Int)) (l0_2 : List Int) (a1 : Int) (a2 : Int) (a3 : Int) : Option (Int × (List (List Int)) × List Int × Bool) := (spec_l15Two.f k a0_0 l0_1 l0_2 a1 a2).bind fun t294 => (if t294 = true then ((spec_l15Byte.f a3).bind fun t295 => (spec_OtherCoins.j0 k a1 a2 a3 (!t295) a0_0 l0_1 l0_2)) else (spec_OtherCoins.j0 k a1 a2 a3 true a0_0 l0_1 l0_2))
theorem spec_OtherCoins.mono_l : ∀ k, (∀ y0 y1 y2 y3 y4 y5 y6, LeO (spec_OtherCoins.j0 k y0 y1 y2 y3 y4 y5 y6) (spec_OtherCoins.j0 (k + 1) y0 y1 y2 y3 y4 y5 y6)) ∧ (∀ y0 y1 y2 y3 y4 y5 y6 y7, LeO (spec_OtherCoins.l0 k y0 y1 y2 y3 y4 y5 y6 y7) (spec_OtherCoins.l0 (k + 1) y0 y1 y2 y3 y4 y5 y6 y7)) ∧ (∀ y0 y1 y2 y3 y4 y5 y6, LeO (spec_OtherCoins.l1 k y0 y1 y2 y3 y4 y5 y6) (spec_OtherCoins.l1 (k + 1) y0 y1 y2 y3 y4 y5 y6))
 | 0 => ⟨fun _ _ _ _ _ _ _ r h => by simp [spec_OtherCoins.j0] at h, fun _ _ _ _ _ _ _ _ r h => by simp [spec_OtherCoins.l0] at h, fun _ _ _ _ _ _ _ r h => by simp [spec_OtherCoins.l1] at h⟩
 | k + 1 => by
  obtain ⟨ih0, ih1, ih2⟩ := spec_OtherCoins.mono_l k
  refine ⟨?_, ?_, ?_⟩
  ·intro y0 y1 y2 y3 y4 y5 y6
   unfold spec_OtherCoins.j0
   repeat' (first | (with_reducible first | exact ih0 _ _ _ _ _ _ _ | exact ih1 _ _ _ _ _ _ _ _ | exact ih2 _ _ _ _ _ _ _ | exact spec_l15Two.mono _ _ _ _ _ _ | exact spec_l15Way.mono _ _ _ _ _ _ | exact LeO.refl _ | exact LeO.none _ | refine LeO.ite ?_ ?_ | refine LeO.bind ?_ (fun _ => ?_)) | exact ih0 _ _ _ _ _ _ _ | exact ih1 _ _ _ _ _ _ _ _ | exact ih2 _ _ _ _ _ _ _ | exact spec_l15Two.mono _ _ _ _ _ _ | exact spec_l15Way.mono _ _ _ _ _ _ | exact LeO.none _ | refine LeO.ite ?_ ?_ | refine LeO.bind ?_ (fun _ => ?_))
  ·intro y0 y1 y2 y3 y4 y5 y6 y7
   unfold spec_OtherCoins.l0
   repeat' (first | (with_reducible first | exact ih0 _ _ _ _ _ _ _ | exact ih1 _ _ _ _ _ _ _ _ | exact ih2 _ _ _ _ _ _ _ | exact spec_l15Two.mono _ _ _ _ _ _ | exact spec_l15Way.mono _ _ _ _ _ _ | exact LeO.refl _ | exact LeO.none _ | refine LeO.ite ?_ ?_ | refine LeO.bind ?_ (fun _ => ?_)) | exact ih0 _ _ _ _ _ _ _ | exact ih1 _ _ _ _ _ _ _ _ | exact ih2 _ _ _ _ _ _ _ | exact spec_l15Two.mono _ _ _ _ _ _ | exact spec_l15Way.mono _ _ _ _ _ _ | exact LeO.none _ | refine LeO.ite ?_ ?_ | refine LeO.bind ?_ (fun _ => ?_))
  ·intro y0 y1 y2 y3 y4 y5 y6
   unfold spec_OtherCoins.l1
   repeat' (first | (with_reducible first | exact ih0 _ _ _ _ _ _ _ | exact ih1 _ _ _ _ _ _ _ _ | exact ih2 _ _ _ _ _ _ _ | exact spec_l15Two.mono _ _ _ _ _ _ | exact spec_l15Way.mono _ _ _ _ _ _ | exact LeO.refl _ | exact LeO.none _ | refine LeO.ite ?_ ?_ | refine LeO.bind ?_ (fun _ => ?_)) | exact ih0 _ _ _ _ _ _ _ | exact ih1 _ _ _ _ _ _ _ _ | exact ih2 _ _ _ _ _ _ _ | exact spec_l15Two.mono _ _ _ _ _ _ | exact spec_l15Way.mono _ _ _ _ _ _ | exact LeO.none _ | refine LeO.ite ?_ ?_ | refine LeO.bind ?_ (fun _ => ?_))
theorem spec_OtherCoins.mono : ∀ a0 a1 a2 a3 a4 a5 k, LeO (spec_OtherCoins.f k a0 a1 a2 a3 a4 a5) (spec_OtherCoins.f (k + 1) a0 a1 a2 a3 a4 a5) := by
 intro a0 a1 a2 a3 a4 a5 k
 obtain ⟨ih0, ih1, ih2⟩ := spec_OtherCoins.mono_l k
 unfold spec_OtherCoins.f
 repeat' (first | (with_reducible first | exact ih0 _ _ _ _ _ _ _ | exact ih1 _ _ _ _ _ _ _ _ | exact ih2 _ _ _ _ _ _ _ | exact spec_l15Two.mono _ _ _ _ _ _ | exact spec_l15Way.mono _ _ _ _ _ _ | exact LeO.refl _ | exact LeO.none _ | refine LeO.ite ?_ ?_ | refine LeO.bind ?_ (fun _ => ?_)) | exact ih0 _ _ _ _ _ _ _ | exact ih1 _ _ _ _ _ _ _ _ | exact ih2 _ _ _ _ _ _ _ | exact spec_l15Two.mono _ _ _ _ _ _ | exact spec_l15Way.mono _ _ _ _ _ _ | exact LeO.none _ | refine LeO.ite ?_ ?_ | refine LeO.bind ?_ (fun _ => ?_))
def spec_OtherCoins.T6 : Bool × List (List Nat × List Nat) := (true, [([], []), ([0], [0]), ([], []), ([], []), ([3], [3]), ([2, 4], [2, 4]), ([1, 5], [1, 5]), ([], []), ([7, 6, 5, 0, 1, 2, 3, 4, 5, 6, 7], [6, 7])])
def spec_OtherCoins.B6 : List Nat := [0, 1, 0, 0, 8, 28, 63, 0, 255]
theorem spec_OtherCoins.tab6 : rtab .any (opsOf Try.f55 6) = spec_OtherCoins.T6 := by kernel_rfl
theorem spec_OtherCoins.bits6 : waitsOk spec_OtherCoins.T6.2 spec_OtherCoins.B6 = true := by kernel_rfl
def spec_OtherCoins.T10 : Bool × List (List Nat × List Nat) := (true, [([], []), ([0], [0]), ([], []), ([], []), ([2, 3], [2, 3]), ([4], [4]), ([1, 5, 4], [1, 5]), ([0, 1, 2, 3, 4, 5, 6], []), ([7, 6, 6, 0, 1, 2, 3, 4, 5, 6], [6, 7])])
def spec_OtherCoins.B10 : List Nat := [0, 1, 0, 0, 12, 28, 63, 127, 255]
theorem spec_OtherCoins.tab10 : rtab .any (opsOf Try.f55 10) = spec_OtherCoins.T10 := by kernel_rfl
theorem spec_OtherCoins.bits10 : waitsOk spec_OtherCoins.T10.2 spec_OtherCoins.B10 = true := by kernel_rfl
set_option maxHeartbeats 8000000 in
set_option maxRecDepth 100000 in
theorem spec_OtherCoins.calls (k : Nat) (a0_0 : Int) (A0_1 : Option Addr) (c0_1 : Nat) (l0_1 : List (List Int)) (A0_2 : Option Addr) (c0_2 : Nat) (l0_2 : List Int) (a1 : Int) (a2 : Int) (a3 : Int) (r1 : Int) (r2 : List (List Int)) (r3 : List Int) (r4 : Bool) (w : World) (hr0_1 : Kd.C (Kd.slice 3 (Kd.int .i64)) w A0_1 l0_1.length l0_1) (hc0_1 : l0_1.length ≤ c0_1) (hr0_2 : Kd.C (Kd.int .i64) w A0_2 l0_2.length l0_2) (hc0_2 : l0_2.length ≤ c0_2) (h : spec_OtherCoins.f k a0_0 l0_1 l0_2 a1 a2 a3 = some (r1, r2, r3, r4)) :
  Calls Try.prog 55 #[.agg #[.int .i64 a0_0, .slice A0_1 l0_1.length c0_1, .slice A0_2 l0_2.length c0_2], .int .i64 a1, .int .i64 a2, .int .i64 a3] w fun e w' => ∃ v1_ v2_ : Value, e = .returned (.tuple #[.agg #[.int .i64 r1, v1_, v2_], .bool r4]) ∧ Kd.S (Kd.slice 3 (Kd.int .i64)) 22 w' w.heap.size (fun k_ => some k_ ≠ (v2_ : Value).ownBlock) v1_ r2 ∧ Kd.R (Kd.int .i64) 3 w' w.heap.size (fun _ => True) v2_ r3 ∧ Below w.heap.size w w' := by
 have hu38 := Try.underlying38
 have HR0_1 := Aside0.mk hr0_1; have HC0_1 := Aside0.mk hc0_1; clear hr0_1 hc0_1; have HR0_2 := Aside0.mk hr0_2; have HC0_2 := Aside0.mk hc0_2; clear hr0_2 hc0_2
 have HB := Aside0.mk (Below.refl w.heap.size w)
 have H : ((spec_l15Two.f k a0_0 l0_1 l0_2 a1 a2).bind fun t294 => (if t294 = true then ((spec_l15Byte.f a3).bind fun t295 => (spec_OtherCoins.j0 k a1 a2 a3 (!t295) a0_0 l0_1 l0_2)) else (spec_OtherCoins.j0 k a1 a2 a3 true a0_0 l0_1 l0_2))) = some (r1, r2, r3, r4) := h
 clear h; have HC5 := Aside0.mk H; clear H
 go_enter Try.func55, Try.ntmps55
 go_upto_region 1 with (first | ((with_reducible refine gate_dst (N := 4) rfl ?_); refine boxev 4 #[.int .i64 a0_0, .slice A0_1 l0_1.length c0_1, .slice A0_2 l0_2.length c0_2] 38 ?_; intro gb292 hg w6 hbox hb; have BK292 := ak (hbox); have GW292 := ak (hgl hg (belowd HB)); have GE292 := ak (hgl hg (belowd HB)); replace HB := ak (below_step (belowd HB) hb); clear hb hbox hg) | ((with_reducible refine gate_dst (N := 8) rfl ?_); refine boxev 8 #[.int .i64 0, .slice none 0 0, .slice none 0 0] 38 ?_; intro gb293 hg w7 hbox hb; have BK293 := ak (hbox); have GW293 := ak (hgl hg (belowg1 HB GE292)); have GE293 := ak (hgl hg (belowg1 HB GE292)); replace HB := ak (below_step (belowg1 HB GE292) hb); have NB292_293 := ak ((by rw [hg]; exact Nat.ne_of_lt (blk_lt (blkd BK292)) : gb292 ≠ gb293)); have NB293_292 := ak ((by rw [hg]; exact Nat.ne_of_gt (blk_lt (blkd BK292)) : gb293 ≠ gb292)); replace BK292 := ak (blk_below (blkd BK292) hb); clear hb hbox hg))
 (try simp only [Act.put, List.setIfInBounds_toArray, List.set_cons_zero, List.set_cons_succ])
 go_cut [26] (fun v26 wc => ∃ (kq : Nat) (x26_4 : Bool), v26 = .bool x26_4 ∧ Aside0 (spec_OtherCoins.j0 kq a1 a2 a3 x26_4 a0_0 l0_1 l0_2 = some (r1, r2, r3, r4)) ∧ Aside0 (kq ≤ k) ∧ Aside0 (wc.heap[gb292]? = some (.cells #[.int .i64 a0_0, (.slice A0_1 l0_1.length c0_1), (.slice A0_2 l0_2.length c0_2)] 38 (0, 0))) ∧ Aside0 (wc.heap[gb293]? = some (.cells #[.int .i64 0, (.slice none 0 0), (.slice none 0 0)] 38 (0, 0))) ∧ Aside0 (Below w.heap.size w wc))
 case first =>
  have H := HC5.out; clear HC5; replace H := bS H; obtain ⟨t294, A8, H⟩ := H
  replace H : (if t294 = true then ((spec_l15Byte.f a3).bind fun t295 => (spec_OtherCoins.j0 k a1 a2 a3 (!t295) a0_0 l0_1 l0_2)) else (spec_OtherCoins.j0 k a1 a2 a3 true a0_0 l0_1 l0_2)) = some (r1, r2, r3, r4) := H
  by_cases c9 : t294 = true
  ·subst c9
   have H1 : ((spec_l15Byte.f a3).bind fun t295 => (spec_OtherCoins.j0 k a1 a2 a3 (!t295) a0_0 l0_1 l0_2)) = some (r1, r2, r3, r4) := by rw [if_pos rfl] at H; exact H
   clear H
   have H := H1
   clear H1; replace H := bS H; obtain ⟨t295, A10, H⟩ := H
   replace H : (spec_OtherCoins.j0 k a1 a2 a3 (!t295) a0_0 l0_1 l0_2) = some (r1, r2, r3, r4) := H
   have H' := Aside0.mk H
   clear H; have hnb11 := NB292_293.out; have hnc11 := NB293_292.out; obtain ⟨hcz12_0, hcz12_1, hcz12_2, hfz12_0, hfz12_1, hfz12_2⟩ := box3 BK292
   go_wp2_with (first | ((with_reducible refine gate_callee (f := 108) rfl ?_); refine goesLa (some 20) rfl Try.func108 #[.agg #[.int .i64 a0_0, .slice A0_1 l0_1.length c0_1, .slice A0_2 l0_2.length c0_2], .int .i64 a1, .int .i64 a2] rfl ?_; (with_reducible refine (spec_l15Two.calls k a0_0 _ _ l0_1 _ _ l0_2 a1 a2 true _ ?side1 ?side2 ?side3 ?side4 A8.out).mono ?_); (case side1 => exact cd (Kd.C_below HR0_1.out HB.out)); (case side2 => exact HC0_1.out); (case side3 => exact cd (Kd.C_below HR0_2.out HB.out)); (case side4 => exact HC0_2.out); rintro e w13 ⟨rfl, hb⟩; refine ⟨_, rfl, ?_⟩; replace BK292 := ak (blk_below (blkd BK292) hb); replace BK293 := ak (blk_below (blkd BK293) hb); replace HB := ak (below_step (belowg2 HB GE292 GE293) hb); (try clear hb)) | (go_at_call 119; (with_reducible refine (spec_l15Byte.calls a3 t295 _ A10.out).mono ?_); rintro e w' ⟨rfl, ⟨nd, rfl⟩⟩))
   go_meet
   case rel => exact ⟨_, (!t295), er, H', ⟨by first | omega | exact Nat.le_refl _⟩, ⟨blkd BK292⟩, ⟨blkd BK293⟩, ⟨belowg2 HB GE292 GE293⟩⟩
  ·replace c9 := Bool.eq_false_iff.mpr c9
   subst c9
   have H1 : (spec_OtherCoins.j0 k a1 a2 a3 true a0_0 l0_1 l0_2) = some (r1, r2, r3, r4) := by rw [if_neg (show ¬ (false = true) by decide)] at H; exact H
   clear H
   have H := H1
   clear H1
   have H' := Aside0.mk H
   clear H; have hnb14 := NB292_293.out; have hnc14 := NB293_292.out; obtain ⟨hcz15_0, hcz15_1, hcz15_2, hfz15_0, hfz15_1, hfz15_2⟩ := box3 BK292
   go_wp2_with (first | ((with_reducible refine gate_callee (f := 108) rfl ?_); refine goesLa (some 20) rfl Try.func108 #[.agg #[.int .i64 a0_0, .slice A0_1 l0_1.length c0_1, .slice A0_2 l0_2.length c0_2], .int .i64 a1, .int .i64 a2] rfl ?_; (with_reducible refine (spec_l15Two.calls k a0_0 _ _ l0_1 _ _ l0_2 a1 a2 false _ ?side1 ?side2 ?side3 ?side4 A8.out).mono ?_); (case side1 => exact cd (Kd.C_below HR0_1.out HB.out)); (case side2 => exact HC0_1.out); (case side3 => exact cd (Kd.C_below HR0_2.out HB.out)); (case side4 => exact HC0_2.out); rintro e w16 ⟨rfl, hb⟩; refine ⟨_, rfl, ?_⟩; replace BK292 := ak (blk_below (blkd BK292) hb); replace BK293 := ak (blk_below (blkd BK293) hb); replace HB := ak (below_step (belowg2 HB GE292 GE293) hb); (try clear hb)))
   go_meet
   case rel => exact ⟨_, (true), er, H', ⟨by first | omega | exact Nat.le_refl _⟩, ⟨blkd BK292⟩, ⟨blkd BK293⟩, ⟨belowg2 HB GE292 GE293⟩⟩
 case rest =>
  clear HC5
  obtain ⟨kq, x26_4, rfl, HA, HJ4, BK292, BK293, HB⟩ := hcut
  cases kq with
  | zero => exact absurd HA.out (by simp [spec_OtherCoins.j0])
  | succ kj4 =>
   have H := HA.out; clear HA
   simp only [spec_OtherCoins.j0] at H
   by_cases c17 : x26_4 = true
   ·subst c17
    have H1 : (some (0, ([] : List (List Int)), ([] : List Int), false)) = some (r1, r2, r3, r4) := by rw [if_pos rfl] at H; exact H
    clear H
    have H := H1
    clear H1
    simp only [Option.some.injEq, Prod.mk.injEq] at H
    obtain ⟨rfl, rfl, rfl, rfl⟩ := H; have hnb18 := NB293_292.out; have hnc18 := NB292_293.out; obtain ⟨hcz19_0, hcz19_1, hcz19_2, hfz19_0, hfz19_1, hfz19_2⟩ := box3 BK293; go_wp2
    refine bodyPost_ret (results_ct rfl _ _ gb293 38 #[.int .i64 0, .slice none 0 0, .slice none 0 0] (0, 0) _ rfl (by (with_reducible repeat (first | refine blk_drewN ?_ _ | refine blk_drew ?_ | refine blk_alloc ?_ _)); refine blk_put (cs := #[.int .i64 0, .slice none 0 0, .slice none 0 0]) ?_ 2 _ rfl; (with_reducible repeat (first | refine blk_drewN ?_ _ | refine blk_drew ?_ | refine blk_alloc ?_ _)); refine blk_put (cs := #[.int .i64 0, .slice none 0 0, .slice none 0 0]) ?_ 1 _ rfl; (with_reducible repeat (first | refine blk_drewN ?_ _ | refine blk_drew ?_ | refine blk_alloc ?_ _)); refine blk_put (cs := #[.int .i64 0, .slice none 0 0, .slice none 0 0]) ?_ 0 _ rfl; (with_reducible repeat (first | refine blk_drewN ?_ _ | refine blk_drew ?_ | refine blk_alloc ?_ _)); exact BK293.out) Try.underlying38 rfl (by kernel_rfl)) rfl ?_
    exact ⟨_, _, er2, by first | exact Kd.S_nil _ _ _ _ _ | exact Kd.N_nil _ _ _ _ _ | exact Kd.V_nil _ _ _ _ _ | exact Kd.Q_nil _ _ _ _ _ | exact Kd.R_nil _ _ _ _ _, by first | exact Kd.R_nil _ _ _ _ _ | exact Kd.N_nil _ _ _ _ _ | exact Kd.V_nil _ _ _ _ _ | exact Kd.Q_nil _ _ _ _ _ | exact Kd.S_nil _ _ _ _ _, belowg2 HB GE292 GE293⟩
   ·replace c17 := Bool.eq_false_iff.mpr c17
    subst c17
    have H1 : ((spec_l15Way.f kj4 a0_0 l0_1 l0_2 a1 a2).bind fun bt296 => (if bt296.2 = true then ((some (([] : List Int) : List Int)).bind fun y300 => (if y300.length + l0_2.length < 17592186044416 then (spec_OtherCoins.l0 kj4 a3 bt296.1 (y300 ++ l0_2) l0_1 (l0_1.length : Int) 0 a0_0 ([] : List (List Int))) else (none))) else (some (0, ([] : List (List Int)), ([] : List Int), false)))) = some (r1, r2, r3, r4) := by rw [if_neg (show ¬ (false = true) by decide)] at H; exact H
    clear H
    have H := H1
    clear H1; replace H := bS H; obtain ⟨⟨t296, t299⟩, A20, H⟩ := H
    replace H : (if t299 = true then ((some (([] : List Int) : List Int)).bind fun y300 => (if y300.length + l0_2.length < 17592186044416 then (spec_OtherCoins.l0 kj4 a3 t296 (y300 ++ l0_2) l0_1 (l0_1.length : Int) 0 a0_0 ([] : List (List Int))) else (none))) else (some (0, ([] : List (List Int)), ([] : List Int), false))) = some (r1, r2, r3, r4) := H
    by_cases c21 : t299 = true
    ·subst c21
     have H1 : ((some (([] : List Int) : List Int)).bind fun y300 => (if y300.length + l0_2.length < 17592186044416 then (spec_OtherCoins.l0 kj4 a3 t296 (y300 ++ l0_2) l0_1 (l0_1.length : Int) 0 a0_0 ([] : List (List Int))) else (none))) = some (r1, r2, r3, r4) := by rw [if_pos rfl] at H; exact H
     clear H
     have H := H1
     clear H1
     obtain ⟨y300, hy_⟩ : ∃ y_ : List Int, y_ = (([] : List Int)) := ⟨_, rfl⟩
     replace H : (if y300.length + l0_2.length < 17592186044416 then (spec_OtherCoins.l0 kj4 a3 t296 (y300 ++ l0_2) l0_1 (l0_1.length : Int) 0 a0_0 ([] : List (List Int))) else (none)) = some (r1, r2, r3, r4) := yH
     have Ny300 := ak hy_; clear hy_; replace H := ifS H; obtain ⟨c22, H⟩ := H; have LMc22 := Aside0.mk c22; clear c22
     obtain ⟨y303, hy_⟩ : ∃ y_ : List Int, y_ = (y300 ++ l0_2) := ⟨_, rfl⟩
     replace H : (spec_OtherCoins.l0 kj4 a3 t296 y303 l0_1 (l0_1.length : Int) 0 a0_0 ([] : List (List Int))) = some (r1, r2, r3, r4) := yH
     have Ny303 := ak hy_; clear hy_
     have H' := Aside0.mk H
     clear H; have hnb23 := NB292_293.out; have hnc23 := NB293_292.out; obtain ⟨hcz24_0, hcz24_1, hcz24_2, hfz24_0, hfz24_1, hfz24_2⟩ := box3 BK292
     try go_wp2_with (first | ((with_reducible refine gate_callee (f := 109) rfl ?_); refine goesLa (some 32) rfl Try.func109 #[.agg #[.int .i64 a0_0, .slice A0_1 l0_1.length c0_1, .slice A0_2 l0_2.length c0_2], .int .i64 a1, .int .i64 a2] rfl ?_; (with_reducible refine (spec_l15Way.calls kj4 a0_0 _ _ l0_1 _ _ l0_2 a1 a2 t296 true _ ?side1 ?side2 ?side3 ?side4 A20.out).mono ?_); (case side1 => exact cd (Kd.C_below HR0_1.out HB.out)); (case side2 => exact HC0_1.out); (case side3 => exact cd (Kd.C_below HR0_2.out HB.out)); (case side4 => exact HC0_2.out); rintro e w25 ⟨v297, rfl, ho0, hb⟩; refine ⟨_, rfl, ?_⟩; have HO298 := ak (Kd.R_lower ho0 (below_size (belowg2 HB GE292 GE293))); replace BK292 := ak (blk_below (blkd BK292) hb); replace BK293 := ak (blk_below (blkd BK293) hb); replace HB := ak (below_step (belowg2 HB GE292 GE293) hb); (try clear hb); (try clear ho0)))
     replace HO298 := ak (Kd.R_drew HO298.out)
     replace BK292 := ak (blk_drew BK292.out)
     replace BK293 := ak (blk_drew BK293.out)
     replace HB := ak (below_drew1 HB.out)
     refine start_ (n := 9) (S := fun w' => w'.cell? ⟨gb292, 0, none⟩ = some (.int .i64 a0_0) ∧ w'.cell? ⟨gb292, 1, none⟩ = some (.slice A0_1 l0_1.length c0_1) ∧ w'.cell? ⟨gb292, 2, none⟩ = some (.slice A0_2 l0_2.length c0_2)) (ds := []) (bl 9 0) (by kernel_rfl) rfl rfl ⟨bq BK292 0, bq BK292 1, bq BK292 2⟩ (fun hHeld => ?_); refine with_tabW spec_OtherCoins.tab6 spec_OtherCoins.bits6 (fun HT_ HW_ => ?_)
     generalize w25.drew = w26 at HO298 BK292 BK293 HB hHeld ⊢
     refine pureA 0 (some 38) 9 1 HT_ ?_
     refine pureA 3 (some 41) 9 9 HT_ ?_
     refine takeA 1 (some 39) 9 11 HT_ HW_ hHeld ?_ (hy := by rintro w' ⟨s0, s1, s2⟩; go_simp; with_reducible rfl)
     refine takeA 4 (some 42) 9 27 HT_ HW_ hHeld ?_ (hy := by rintro w' ⟨s0, s1, s2⟩; go_simp; with_reducible rfl)
     refine join_ (σ := Value × Value × Nat) 1 (bl 9 255) (fun s_ => [(40, s_.1), (43, s_.2.1), (12, .pointer (some ⟨s_.2.2, 0, none⟩)), (44, .agg #[.int .i64 a0_0, .slice none 0 0, s_.2.1])]) (fun s_ w' => (w'.cell? ⟨gb292, 0, none⟩ = some (.int .i64 a0_0) ∧ w'.cell? ⟨gb292, 1, none⟩ = some (.slice A0_1 l0_1.length c0_1) ∧ w'.cell? ⟨gb292, 2, none⟩ = some (.slice A0_2 l0_2.length c0_2)) ∧ (Kd.R (Kd.int .i64) 3 w' w.heap.size (fun k_ => some k_ ≠ (s_.2.1 : Value).ownBlock) v297 t296) ∧ (Kd.R (Kd.int .i64) 3 w' w.heap.size (fun k_ => some k_ ≠ (v297 : Value).ownBlock) s_.2.1 y303) ∧ (w'.heap[gb292]? = some (.cells #[.int .i64 a0_0, .slice A0_1 l0_1.length c0_1, .slice A0_2 l0_2.length c0_2] 38 (0, 0))) ∧ (w'.heap[gb293]? = some (.cells #[.int .i64 0, .slice none 0 0, .slice none 0 0] 38 (0, 0))) ∧ (w'.heap[s_.2.2]? = some (.cells #[.int .i64 0, .slice none 0 0, .slice none 0 0] 38 (0, 0))) ∧ (w.heap.size ≤ s_.2.2) ∧ (w.heap.size ≤ s_.2.2) ∧ (gb292 ≠ s_.2.2) ∧ (s_.2.2 ≠ gb292) ∧ (gb293 ≠ s_.2.2) ∧ (s_.2.2 ≠ gb293) ∧ (Below w.heap.size w w')) ?_ ?_
     rotate_left
     ·intro hCont
      refine two_ (i := 2) (j := 7) (Ni := some 40) (Nj := some 12) (bl 9 31) (bl 9 155) rfl rfl rfl rfl (two_of HT_.out (by kernel_rfl)) (by decide) (by decide) (fun K hK => ?_) (fun K hK => ?_)
      ·skip
       refine Kd.R_lit_step (Kd.int .i64) _ 3 ?hg (N := 40) ?hd (xs := ([] : List Int)) (inner := []) (ok := fun _ => True) (okp := fun _ => True) ?hr ?hp (fun _ hk => hk) trivial (Below.refl _ _) (Nat.le_refl _) (by simp) ?_; (case hd => rfl); (case hg => rfl); (case hr => first | (go_simp; done) | (go_simp; rfl)); (case hp => exact (Reps.none _ _))
       intro v301 w27 ho28 hb hg_ hnew_
       clear hg_ hnew_
       (first | rw [← Ny300.out] at ho28 | (simp only [Int.reduceToNat] at ho28; rw [← Ny300.out] at ho28))
       have HO302 := ak (Kd.R_lower (Kd.R_new' ho28 (Kd.R_lt (rdl HO298))) (below_size (belowg2 HB GE292 GE293)))
       replace HO298 := ak (Kd.R_elder' (rdl HO298) (Kd.R_base ho28) hb)
       replace BK292 := ak (blk_below (blkd BK292) hb)
       replace BK293 := ak (blk_below (blkd BK293) hb)
       replace HB := ak (below_step (belowg2 HB GE292 GE293) hb)
       clear hb ho28
       refine hK.out _ _ ⟨bq BK292 0, bq BK292 1, bq BK292 2⟩ (fun hHeld => ?_)
       clear hK K
       refine norm_ (a' := ?_) ?_ ?_
       rotate_left
       ·show Act.put _ (some 40) _ = _
        simp only [Act.put, List.setIfInBounds_toArray, List.set_cons_zero, List.set_cons_succ, i64_w, i32_w]
        rfl
       refine two_ (i := 5) (j := 7) (Ni := some 43) (Nj := some 12) (bl 9 63) (bl 9 159) rfl rfl rfl rfl (two_of HT_.out (by kernel_rfl)) (by decide) (by decide) (fun K hK => ?_) (fun K hK => ?_)
       ·skip
        refine Kd.R_append_rows_step (Kd.int .i64) (w0 := w) w.heap.size (by rfl) (.tmp 40) (.tmp 42) 22 3 (.int .i64 0) 8 rfl Try.underlying22 info3 rfl (by decide) (by omega) v301 y300 l0_2 _ _ _ (fun k_ => some k_ ≠ (v297 : Value).ownBlock) (fun _ => False) rfl rfl ?aO ?aR (fun _ _ h => h) (fun _ h => h.elim) ?aF ?aB ?aS ?aL ?_
        (case aR => exact cd (Kd.C_below HR0_2.out HB.out))
        (case aB => exact (belowg2 HB GE292 GE293))
        (case aF => exact (fun k_ hk => Kd.fresh' (Kd.R_lt (rdl HO298)) k_ hk))
        (case aO => exact (by (with_reducible repeat (first | apply Kd.R_alloc | apply Kd.R_drewN | apply Kd.R_drew)); exact Kd.R_mono HO302.out (fun _ hk => hk.2)))
        (case aS => exact (below_size (belowg2 HB GE292 GE293)))
        (case aL => have := LMc22.out; omega)
        intro v304 w29 ho hb hg hat
        rw [← Ny303.out] at ho
        replace BK292 := ak (blk_grown (blkd BK292) hg (Kd.R_ne HO302.out BK292.out (by decide)))
        replace BK293 := ak (blk_grown (blkd BK293) hg (Kd.R_ne HO302.out BK293.out (by decide)))
        replace HO298 := ak (Kd.R_after (ok := (fun _ => True)) (rdl HO298) hg hat)
        replace HB := ak (hb)
        have HO305 := ak (ho); clear HO302; clear ho hb hg hat
        obtain ⟨Ao30, co30, eo30⟩ := Kd.R_slice HO305.out
        (first | subst eo30 | (injection eo30 with f1_ f2_ f3_; have f4_ := f1_.symm; have f5_ := f3_.symm; clear f1_ f2_ f3_; subst f4_; subst f5_))
        refine hK.out _ _ ⟨bq BK292 0, bq BK292 1, bq BK292 2⟩ (fun hHeld => ?_)
        clear hK K
        refine norm_ (a' := ?_) ?_ ?_
        rotate_left
        ·show Act.put _ (some 43) _ = _
         simp only [Act.put, List.setIfInBounds_toArray, List.set_cons_zero, List.set_cons_succ, i64_w, i32_w]
         rfl
        refine pureA 6 (some 44) 9 127 HT_ ?_
        refine oneA 7 (some 12) 9 255 HT_ (fun K hK => ?_)
        refine box_step ?hg (N := 12) ?hd (cs := #[.int .i64 0, .slice none 0 0, .slice none 0 0]) (t := 38) ?hr ?_; (case hd => rfl); (case hg => rfl); (case hr => first | (go_simp; done) | (go_simp; rfl))
        intro gb306 hg w31 hbox hb
        replace HO298 := ak (Kd.R_below (rdl HO298) hb)
        replace HO305 := ak (Kd.R_below (rdl HO305) hb)
        have BK306 := ak (hbox)
        have GW306 := ak (hgl hg (belowg2 HB GE292 GE293))
        have GE306 := ak (hgl hg (belowg2 HB GE292 GE293))
        replace HB := ak (below_step (belowg2 HB GE292 GE293) hb)
        have NB292_306 := ak ((by rw [hg]; exact Nat.ne_of_lt (blk_lt (blkd BK292)) : gb292 ≠ gb306))
        have NB306_292 := ak ((by rw [hg]; exact Nat.ne_of_gt (blk_lt (blkd BK292)) : gb306 ≠ gb292))
        replace BK292 := ak (blk_below (blkd BK292) hb)
        have NB293_306 := ak ((by rw [hg]; exact Nat.ne_of_lt (blk_lt (blkd BK293)) : gb293 ≠ gb306))
        have NB306_293 := ak ((by rw [hg]; exact Nat.ne_of_gt (blk_lt (blkd BK293)) : gb306 ≠ gb293))
        replace BK293 := ak (blk_below (blkd BK293) hb)
        clear hb hbox hg
        refine hK.out _ _ ⟨bq BK292 0, bq BK292 1, bq BK292 2⟩ (fun hHeld => ?_)
        clear hK K
        refine norm_ (a' := ?_) ?_ ?_
        rotate_left
        ·show Act.put _ (some 12) _ = _
         simp only [Act.put, List.setIfInBounds_toArray, List.set_cons_zero, List.set_cons_succ, i64_w, i32_w]
         rfl
        exact norm_ (by simp only [putAll, Act.put, List.setIfInBounds_toArray, List.set_cons_zero, List.set_cons_succ]) (hCont (v301, .slice Ao30 y303.length co30, gb306) _ ⟨hHeld, (by (with_reducible repeat (first | apply Kd.R_alloc | apply Kd.R_drewN | apply Kd.R_drew)); exact Kd.R_mono HO298.out (fun _ hk => hk.2)), (rdl HO305), (blkd BK292), (blkd BK293), (blkd BK306), GW306.out, GE306.out, NB292_306.out, NB306_292.out, NB293_306.out, NB306_293.out, (belowg3 HB GE292 GE293 GE306)⟩)
       ·skip
        refine box_step ?hg (N := 12) ?hd (cs := #[.int .i64 0, .slice none 0 0, .slice none 0 0]) (t := 38) ?hr ?_; (case hd => rfl); (case hg => rfl); (case hr => first | (go_simp; done) | (go_simp; rfl))
        intro gb306 hg w29 hbox hb
        replace HO298 := ak (Kd.R_below (rdl HO298) hb)
        replace HO302 := ak (Kd.R_below (rdl HO302) hb)
        have BK306 := ak (hbox)
        have GW306 := ak (hgl hg (belowg2 HB GE292 GE293))
        have GE306 := ak (hgl hg (belowg2 HB GE292 GE293))
        replace HB := ak (below_step (belowg2 HB GE292 GE293) hb)
        have NB292_306 := ak ((by rw [hg]; exact Nat.ne_of_lt (blk_lt (blkd BK292)) : gb292 ≠ gb306))
        have NB306_292 := ak ((by rw [hg]; exact Nat.ne_of_gt (blk_lt (blkd BK292)) : gb306 ≠ gb292))
        replace BK292 := ak (blk_below (blkd BK292) hb)
        have NB293_306 := ak ((by rw [hg]; exact Nat.ne_of_lt (blk_lt (blkd BK293)) : gb293 ≠ gb306))
        have NB306_293 := ak ((by rw [hg]; exact Nat.ne_of_gt (blk_lt (blkd BK293)) : gb306 ≠ gb293))
        replace BK293 := ak (blk_below (blkd BK293) hb)
        clear hb hbox hg
        refine hK.out _ _ ⟨bq BK292 0, bq BK292 1, bq BK292 2⟩ (fun hHeld => ?_)
        clear hK K
        refine norm_ (a' := ?_) ?_ ?_
        rotate_left
        ·show Act.put _ (some 12) _ = _
         simp only [Act.put, List.setIfInBounds_toArray, List.set_cons_zero, List.set_cons_succ, i64_w, i32_w]
         rfl
        refine oneA 5 (some 43) 9 191 HT_ (fun K hK => ?_)
        refine Kd.R_append_rows_step (Kd.int .i64) (w0 := w) w.heap.size (by rfl) (.tmp 40) (.tmp 42) 22 3 (.int .i64 0) 8 rfl Try.underlying22 info3 rfl (by decide) (by omega) v301 y300 l0_2 _ _ _ (fun k_ => some k_ ≠ (v297 : Value).ownBlock) (fun _ => False) rfl rfl ?aO ?aR (fun _ _ h => h) (fun _ h => h.elim) ?aF ?aB ?aS ?aL ?_
        (case aR => exact cd (Kd.C_below HR0_2.out HB.out))
        (case aB => exact (belowg3 HB GE292 GE293 GE306))
        (case aF => exact (fun k_ hk => Kd.fresh' (Kd.R_lt (rdl HO298)) k_ hk))
        (case aO => exact (by (with_reducible repeat (first | apply Kd.R_alloc | apply Kd.R_drewN | apply Kd.R_drew)); exact Kd.R_mono HO302.out (fun _ hk => hk.2)))
        (case aS => exact (below_size (belowg3 HB GE292 GE293 GE306)))
        (case aL => have := LMc22.out; omega)
        intro v304 w30 ho hb hg hat
        rw [← Ny303.out] at ho
        replace BK292 := ak (blk_grown (blkd BK292) hg (Kd.R_ne HO302.out BK292.out (by decide)))
        replace BK293 := ak (blk_grown (blkd BK293) hg (Kd.R_ne HO302.out BK293.out (by decide)))
        replace HO298 := ak (Kd.R_after (ok := (fun _ => True)) (rdl HO298) hg hat)
        replace BK306 := ak (blk_grown (blkd BK306) hg (Kd.R_ne HO302.out BK306.out (by decide)))
        replace HB := ak (hb)
        have HO305 := ak (ho); clear HO302; clear ho hb hg hat
        obtain ⟨Ao31, co31, eo31⟩ := Kd.R_slice HO305.out
        (first | subst eo31 | (injection eo31 with f1_ f2_ f3_; have f4_ := f1_.symm; have f5_ := f3_.symm; clear f1_ f2_ f3_; subst f4_; subst f5_))
        refine hK.out _ _ ⟨bq BK292 0, bq BK292 1, bq BK292 2⟩ (fun hHeld => ?_)
        clear hK K
        refine norm_ (a' := ?_) ?_ ?_
        rotate_left
        ·show Act.put _ (some 43) _ = _
         simp only [Act.put, List.setIfInBounds_toArray, List.set_cons_zero, List.set_cons_succ, i64_w, i32_w]
         rfl
        refine pureA 6 (some 44) 9 255 HT_ ?_
        exact norm_ (by simp only [putAll, Act.put, List.setIfInBounds_toArray, List.set_cons_zero, List.set_cons_succ]) (hCont (v301, .slice Ao31 y303.length co31, gb306) _ ⟨hHeld, (by (with_reducible repeat (first | apply Kd.R_alloc | apply Kd.R_drewN | apply Kd.R_drew)); exact Kd.R_mono HO298.out (fun _ hk => hk.2)), (rdl HO305), (blkd BK292), (blkd BK293), (blkd BK306), GW306.out, GE306.out, NB292_306.out, NB306_292.out, NB293_306.out, NB306_293.out, (belowg3 HB GE292 GE293 GE306)⟩)
      ·skip
       refine box_step ?hg (N := 12) ?hd (cs := #[.int .i64 0, .slice none 0 0, .slice none 0 0]) (t := 38) ?hr ?_; (case hd => rfl); (case hg => rfl); (case hr => first | (go_simp; done) | (go_simp; rfl))
       intro gb306 hg w27 hbox hb
       replace HO298 := ak (Kd.R_below (rdl HO298) hb)
       have BK306 := ak (hbox)
       have GW306 := ak (hgl hg (belowg2 HB GE292 GE293))
       have GE306 := ak (hgl hg (belowg2 HB GE292 GE293))
       replace HB := ak (below_step (belowg2 HB GE292 GE293) hb)
       have NB292_306 := ak ((by rw [hg]; exact Nat.ne_of_lt (blk_lt (blkd BK292)) : gb292 ≠ gb306))
       have NB306_292 := ak ((by rw [hg]; exact Nat.ne_of_gt (blk_lt (blkd BK292)) : gb306 ≠ gb292))
       replace BK292 := ak (blk_below (blkd BK292) hb)
       have NB293_306 := ak ((by rw [hg]; exact Nat.ne_of_lt (blk_lt (blkd BK293)) : gb293 ≠ gb306))
       have NB306_293 := ak ((by rw [hg]; exact Nat.ne_of_gt (blk_lt (blkd BK293)) : gb306 ≠ gb293))
       replace BK293 := ak (blk_below (blkd BK293) hb)
       clear hb hbox hg
       refine hK.out _ _ ⟨bq BK292 0, bq BK292 1, bq BK292 2⟩ (fun hHeld => ?_)
       clear hK K
       refine norm_ (a' := ?_) ?_ ?_
       rotate_left
       ·show Act.put _ (some 12) _ = _
        simp only [Act.put, List.setIfInBounds_toArray, List.set_cons_zero, List.set_cons_succ, i64_w, i32_w]
        rfl
       refine oneA 2 (some 40) 9 159 HT_ (fun K hK => ?_)
       refine Kd.R_lit_step (Kd.int .i64) _ 3 ?hg (N := 40) ?hd (xs := ([] : List Int)) (inner := []) (ok := fun _ => True) (okp := fun _ => True) ?hr ?hp (fun _ hk => hk) trivial (Below.refl _ _) (Nat.le_refl _) (by simp) ?_; (case hd => rfl); (case hg => rfl); (case hr => first | (go_simp; done) | (go_simp; rfl)); (case hp => exact (Reps.none _ _))
       intro v301 w28 ho29 hb hg_ hnew_
       clear hg_ hnew_
       (first | rw [← Ny300.out] at ho29 | (simp only [Int.reduceToNat] at ho29; rw [← Ny300.out] at ho29))
       have HO302 := ak (Kd.R_lower (Kd.R_new' ho29 (Kd.R_lt (rdl HO298))) (below_size (belowg3 HB GE292 GE293 GE306)))
       replace HO298 := ak (Kd.R_elder' (rdl HO298) (Kd.R_base ho29) hb)
       replace BK292 := ak (blk_below (blkd BK292) hb)
       replace BK293 := ak (blk_below (blkd BK293) hb)
       replace BK306 := ak (blk_below (blkd BK306) hb)
       replace HB := ak (below_step (belowg3 HB GE292 GE293 GE306) hb)
       clear hb ho29
       refine hK.out _ _ ⟨bq BK292 0, bq BK292 1, bq BK292 2⟩ (fun hHeld => ?_)
       clear hK K
       refine norm_ (a' := ?_) ?_ ?_
       rotate_left
       ·show Act.put _ (some 40) _ = _
        simp only [Act.put, List.setIfInBounds_toArray, List.set_cons_zero, List.set_cons_succ, i64_w, i32_w]
        rfl
       refine oneA 5 (some 43) 9 191 HT_ (fun K hK => ?_)
       refine Kd.R_append_rows_step (Kd.int .i64) (w0 := w) w.heap.size (by rfl) (.tmp 40) (.tmp 42) 22 3 (.int .i64 0) 8 rfl Try.underlying22 info3 rfl (by decide) (by omega) v301 y300 l0_2 _ _ _ (fun k_ => some k_ ≠ (v297 : Value).ownBlock) (fun _ => False) rfl rfl ?aO ?aR (fun _ _ h => h) (fun _ h => h.elim) ?aF ?aB ?aS ?aL ?_
       (case aR => exact cd (Kd.C_below HR0_2.out HB.out))
       (case aB => exact (belowg3 HB GE292 GE293 GE306))
       (case aF => exact (fun k_ hk => Kd.fresh' (Kd.R_lt (rdl HO298)) k_ hk))
       (case aO => exact (by (with_reducible repeat (first | apply Kd.R_alloc | apply Kd.R_drewN | apply Kd.R_drew)); exact Kd.R_mono HO302.out (fun _ hk => hk.2)))
       (case aS => exact (below_size (belowg3 HB GE292 GE293 GE306)))
       (case aL => have := LMc22.out; omega)
       intro v304 w30 ho hb hg hat
       rw [← Ny303.out] at ho
       replace BK292 := ak (blk_grown (blkd BK292) hg (Kd.R_ne HO302.out BK292.out (by decide)))
       replace BK293 := ak (blk_grown (blkd BK293) hg (Kd.R_ne HO302.out BK293.out (by decide)))
       replace HO298 := ak (Kd.R_after (ok := (fun _ => True)) (rdl HO298) hg hat)
       replace BK306 := ak (blk_grown (blkd BK306) hg (Kd.R_ne HO302.out BK306.out (by decide)))
       replace HB := ak (hb)
       have HO305 := ak (ho); clear HO302; clear ho hb hg hat
       obtain ⟨Ao31, co31, eo31⟩ := Kd.R_slice HO305.out
       (first | subst eo31 | (injection eo31 with f1_ f2_ f3_; have f4_ := f1_.symm; have f5_ := f3_.symm; clear f1_ f2_ f3_; subst f4_; subst f5_))
       refine hK.out _ _ ⟨bq BK292 0, bq BK292 1, bq BK292 2⟩ (fun hHeld => ?_)
       clear hK K
       refine norm_ (a' := ?_) ?_ ?_
       rotate_left
       ·show Act.put _ (some 43) _ = _
        simp only [Act.put, List.setIfInBounds_toArray, List.set_cons_zero, List.set_cons_succ, i64_w, i32_w]
        rfl
       refine pureA 6 (some 44) 9 255 HT_ ?_
       exact norm_ (by simp only [putAll, Act.put, List.setIfInBounds_toArray, List.set_cons_zero, List.set_cons_succ]) (hCont (v301, .slice Ao31 y303.length co31, gb306) _ ⟨hHeld, (by (with_reducible repeat (first | apply Kd.R_alloc | apply Kd.R_drewN | apply Kd.R_drew)); exact Kd.R_mono HO298.out (fun _ hk => hk.2)), (rdl HO305), (blkd BK292), (blkd BK293), (blkd BK306), GW306.out, GE306.out, NB292_306.out, NB306_292.out, NB293_306.out, NB306_293.out, (belowg3 HB GE292 GE293 GE306)⟩)
     rintro ⟨v301, v304, gb306⟩ w32 ⟨hS_, h0_, h1_, h2_, h3_, h4_, h5_, h6_, h7_, h8_, h9_, h10_, h11_⟩
     have n0_ : Aside0 (Kd.R (Kd.int .i64) 3 w32 w.heap.size (fun k_ => some k_ ≠ (v304 : Value).ownBlock) v297 t296) := ⟨h0_⟩
     have n1_ : Aside0 (Kd.R (Kd.int .i64) 3 w32 w.heap.size (fun k_ => some k_ ≠ (v297 : Value).ownBlock) v304 y303) := ⟨h1_⟩
     have n2_ : Aside0 (w32.heap[gb292]? = some (.cells #[.int .i64 a0_0, .slice A0_1 l0_1.length c0_1, .slice A0_2 l0_2.length c0_2] 38 (0, 0))) := ⟨h2_⟩
     have n3_ : Aside0 (w32.heap[gb293]? = some (.cells #[.int .i64 0, .slice none 0 0, .slice none 0 0] 38 (0, 0))) := ⟨h3_⟩
     have n4_ : Aside0 (w32.heap[gb306]? = some (.cells #[.int .i64 0, .slice none 0 0, .slice none 0 0] 38 (0, 0))) := ⟨h4_⟩
     have n5_ : Aside0 (w.heap.size ≤ gb306) := ⟨h5_⟩
     have n6_ : Aside0 (w.heap.size ≤ gb306) := ⟨h6_⟩
     have n7_ : Aside0 (gb292 ≠ gb306) := ⟨h7_⟩
     have n8_ : Aside0 (gb306 ≠ gb292) := ⟨h8_⟩
     have n9_ : Aside0 (gb293 ≠ gb306) := ⟨h9_⟩
     have n10_ : Aside0 (gb306 ≠ gb293) := ⟨h10_⟩
     have n11_ : Aside0 (Below w.heap.size w w32) := ⟨h11_⟩
     clear HO298; clear BK292; clear BK293; clear HB; clear h0_ h1_ h2_ h3_ h4_ h5_ h6_ h7_ h8_ h9_ h10_ h11_
     have HO298 := n0_
     have HO305 := n1_
     have BK292 := n2_
     have BK293 := n3_
     have BK306 := n4_
     have GW306 := n5_
     have GE306 := n6_
     have NB292_306 := n7_
     have NB306_292 := n8_
     have NB293_306 := n9_
     have NB306_293 := n10_
     have HB := n11_
     clear n0_ n1_ n2_ n3_ n4_ n5_ n6_ n7_ n8_ n9_ n10_ n11_
     have hHeld : w32.cell? ⟨gb292, 0, none⟩ = some (.int .i64 a0_0) ∧ w32.cell? ⟨gb292, 1, none⟩ = some (.slice A0_1 l0_1.length c0_1) ∧ w32.cell? ⟨gb292, 2, none⟩ = some (.slice A0_2 l0_2.length c0_2) := hS_
     obtain ⟨Ao33, co33, eo33⟩ := Kd.R_slice HO305.out
     (first | subst eo33 | (injection eo33 with f1_ f2_ f3_; have f4_ := f1_.symm; have f5_ := f3_.symm; clear f1_ f2_ f3_; subst f4_; subst f5_))
     refine norm_ (a' := ?_) ?_ ?_
     rotate_left
     ·simp only [putAll, Act.put, List.setIfInBounds_toArray, List.set_cons_zero, List.set_cons_succ]
      rfl
     refine oneA 8 none 9 511 HT_ (fun K hK => ?_)
     have hs34 : w32.cell? ⟨gb306, 0, none⟩ = some (.int .i64 0) := bq BK306 0
     have hfs34 := blk_frozen BK306.out 0
     have hns34_0 := NB292_306.out; have hns34_1 := NB293_306.out; have hms34_0 := NB306_292.out; have hms34_1 := NB306_293.out
     have hs35 : w32.cell? ⟨gb306, 1, none⟩ = some (.slice none 0 0) := bq BK306 1
     have hfs35 := blk_frozen BK306.out 1
     have hns35_0 := NB292_306.out; have hns35_1 := NB293_306.out; have hms35_0 := NB306_292.out; have hms35_1 := NB306_293.out
     have hs36 : w32.cell? ⟨gb306, 2, none⟩ = some (.slice none 0 0) := bq BK306 2
     have hfs36 := blk_frozen BK306.out 2
     have hns36_0 := NB292_306.out; have hns36_1 := NB293_306.out; have hms36_0 := NB306_292.out; have hms36_1 := NB306_293.out
     refine skip_ (w1 := ?_) (by rfl) rfl ?_ ?_
     rotate_left
     ·go_simp
      rfl
     refine hK.out _ _ ⟨((cell_far (p := ⟨gb306, _, none⟩) NB292_306.out _).trans (((cell_far (p := ⟨gb306, _, none⟩) NB292_306.out _).trans (((cell_far (p := ⟨gb306, _, none⟩) NB292_306.out _).trans (hHeld.1)))))), ((cell_far (p := ⟨gb306, _, none⟩) NB292_306.out _).trans (((cell_far (p := ⟨gb306, _, none⟩) NB292_306.out _).trans (((cell_far (p := ⟨gb306, _, none⟩) NB292_306.out _).trans (hHeld.2.1)))))), ((cell_far (p := ⟨gb306, _, none⟩) NB292_306.out _).trans (((cell_far (p := ⟨gb306, _, none⟩) NB292_306.out _).trans (((cell_far (p := ⟨gb306, _, none⟩) NB292_306.out _).trans (hHeld.2.2))))))⟩ (fun hHeld => ?_)
     clear hK K
     refine done_ (done_of HT_.out (by kernel_rfl)) ?_
     have hnb37 := NB292_306.out; have hnc37 := NB306_292.out; obtain ⟨hcz38_0, hcz38_1, hcz38_2, hfz38_0, hfz38_1, hfz38_2⟩ := box3 BK292
     try go_wp2
     go_loopg [48] kj4 (fun kq v48 w' => ∃ (x48_2 : Int) (x307001_2 : List (List Int)) (u307001 : Value), v48 = .int .i64 x48_2 ∧ Aside0 (spec_OtherCoins.l0 kq a3 t296 y303 l0_1 (l0_1.length : Int) x48_2 a0_0 x307001_2 = some (r1, r2, r3, r4)) ∧ Aside0 (kq ≤ kj4) ∧ Aside0 (Kd.R (Kd.int .i64) 3 w' w.heap.size (fun k_ => some k_ ≠ ((.slice Ao33 y303.length co33) : Value).ownBlock) v297 t296) ∧ Aside0 (Kd.R (Kd.int .i64) 3 w' w.heap.size (fun k_ => some k_ ≠ (v297 : Value).ownBlock) (.slice Ao33 y303.length co33) y303) ∧ Aside0 (Kd.S (Kd.slice 3 (Kd.int .i64)) 22 w' w.heap.size (fun k_ => some k_ ≠ (v297 : Value).ownBlock ∧ some k_ ≠ ((.slice Ao33 y303.length co33) : Value).ownBlock) u307001 x307001_2) ∧ Aside0 (w'.heap[gb292]? = some (.cells #[.int .i64 a0_0, (.slice A0_1 l0_1.length c0_1), (.slice A0_2 l0_2.length c0_2)] 38 (0, 0))) ∧ Aside0 (w'.heap[gb293]? = some (.cells #[.int .i64 0, (.slice none 0 0), (.slice none 0 0)] 38 (0, 0))) ∧ Aside0 (w'.heap[gb306]? = some (.cells #[.int .i64 a0_0, u307001, (.slice Ao33 y303.length co33)] 38 (0, 0))) ∧ Aside0 (Below w.heap.size w w'))
     case atStart => exact ⟨(0), (([] : List (List Int))), (.slice none 0 0), er, H', ⟨Nat.le_refl _⟩, ⟨by (with_reducible repeat (first | apply Kd.R_alloc | apply Kd.R_drewN | apply Kd.R_drew)); exact Kd.R_mono (Kd.R_far (p := ⟨gb306, 2, none⟩) (Kd.R_far (p := ⟨gb306, 1, none⟩) (Kd.R_far (p := ⟨gb306, 0, none⟩) (Kd.R_types HO298.out BK306.out (by decide)) (fun _ hk => hk.2) (.int .i64 a0_0)) (fun _ hk => hk.2) (.slice none 0 0)) (fun _ hk => hk.2) (.slice Ao33 y303.length co33)) (fun _ hk => hk.1)⟩, ⟨by (with_reducible repeat (first | apply Kd.R_alloc | apply Kd.R_drewN | apply Kd.R_drew)); exact Kd.R_mono (Kd.R_far (p := ⟨gb306, 2, none⟩) (Kd.R_far (p := ⟨gb306, 1, none⟩) (Kd.R_far (p := ⟨gb306, 0, none⟩) (Kd.R_types HO305.out BK306.out (by decide)) (fun _ hk => hk.2) (.int .i64 a0_0)) (fun _ hk => hk.2) (.slice none 0 0)) (fun _ hk => hk.2) (.slice Ao33 y303.length co33)) (fun _ hk => hk.1)⟩, ⟨by first | exact Kd.S_nil _ _ _ _ _ | exact Kd.N_nil _ _ _ _ _ | exact Kd.V_nil _ _ _ _ _ | exact Kd.Q_nil _ _ _ _ _ | exact Kd.R_nil _ _ _ _ _⟩, ⟨by (with_reducible repeat (first | refine blk_drewN ?_ _ | refine blk_drew ?_ | refine blk_alloc ?_ _)); refine blk_far ?_ NB292_306.out _; (with_reducible repeat (first | refine blk_drewN ?_ _ | refine blk_drew ?_ | refine blk_alloc ?_ _)); refine blk_far ?_ NB292_306.out _; (with_reducible repeat (first | refine blk_drewN ?_ _ | refine blk_drew ?_ | refine blk_alloc ?_ _)); refine blk_far ?_ NB292_306.out _; (with_reducible repeat (first | refine blk_drewN ?_ _ | refine blk_drew ?_ | refine blk_alloc ?_ _)); exact BK292.out⟩, ⟨by (with_reducible repeat (first | refine blk_drewN ?_ _ | refine blk_drew ?_ | refine blk_alloc ?_ _)); refine blk_far ?_ NB293_306.out _; (with_reducible repeat (first | refine blk_drewN ?_ _ | refine blk_drew ?_ | refine blk_alloc ?_ _)); refine blk_far ?_ NB293_306.out _; (with_reducible repeat (first | refine blk_drewN ?_ _ | refine blk_drew ?_ | refine blk_alloc ?_ _)); refine blk_far ?_ NB293_306.out _; (with_reducible repeat (first | refine blk_drewN ?_ _ | refine blk_drew ?_ | refine blk_alloc ?_ _)); exact BK293.out⟩, ⟨by (with_reducible repeat (first | refine blk_drewN ?_ _ | refine blk_drew ?_ | refine blk_alloc ?_ _)); refine blk_put (cs := #[.int .i64 a0_0, .slice none 0 0, .slice none 0 0]) ?_ 2 _ rfl; (with_reducible repeat (first | refine blk_drewN ?_ _ | refine blk_drew ?_ | refine blk_alloc ?_ _)); refine blk_put (cs := #[.int .i64 a0_0, .slice none 0 0, .slice none 0 0]) ?_ 1 _ rfl; (with_reducible repeat (first | refine blk_drewN ?_ _ | refine blk_drew ?_ | refine blk_alloc ?_ _)); refine blk_put (cs := #[.int .i64 0, .slice none 0 0, .slice none 0 0]) ?_ 0 _ rfl; (with_reducible repeat (first | refine blk_drewN ?_ _ | refine blk_drew ?_ | refine blk_alloc ?_ _)); exact BK306.out⟩, ⟨belowg3 HB GE292 GE293 GE306⟩⟩
     case round =>
      clear H'
      (try clear c17); (try clear c21); (try clear hcz24_0); (try clear hcz24_1); (try clear hcz24_2); (try clear hcz38_0); (try clear hcz38_1); (try clear hcz38_2); (try clear hfz24_0); (try clear hfz24_1); (try clear hfz24_2); (try clear hfz38_0); (try clear hfz38_1); (try clear hfz38_2)
      obtain ⟨x48_2, x307001_2, u307001, rfl, HA, HK2, HO_10, HO_43, HO_307001, BK292, BK293, BK306, HB⟩ := hrel
      cases gk with
      | zero => exact absurd HA.out (by simp [spec_OtherCoins.l0])
      | succ k2 =>
       have H := HA.out; clear HA
       simp only [spec_OtherCoins.l0] at H
       by_cases c39 : x48_2 < (l0_1.length : Int)
       ·rw [if_pos c39] at H
        have c39b0 : decide (x48_2 < (l0_1.length : Int)) = true := decide_eq_true c39
        clear c39; replace H := ifS H; obtain ⟨c40, H⟩ := H; have c40b0 := decide_eq_true c40; clear c40; replace H := ifS H; obtain ⟨c41, H⟩ := H; have c41b0 := decide_eq_true c41; clear c41
        obtain ⟨y308, hy_⟩ : ∃ y_ : List Int, y_ = (([] : List Int)) := ⟨_, rfl⟩
        replace H : (if y308.length + (rd_L1 l0_1 x48_2).length < 17592186044416 then (if x307001_2.length < 5864062014805 then (spec_OtherCoins.l0 k2 a3 t296 y303 l0_1 (l0_1.length : Int) (wrap64 (x48_2 + 1)) a0_0 (x307001_2 ++ [(y308 ++ (rd_L1 l0_1 x48_2))])) else (none)) else (none)) = some (r1, r2, r3, r4) := yH
        have Ny308 := ak hy_; clear hy_; replace H := ifS H; obtain ⟨c42, H⟩ := H; have LMc42 := Aside0.mk c42; clear c42
        obtain ⟨y311, hy_⟩ : ∃ y_ : List Int, y_ = (y308 ++ (rd_L1 l0_1 x48_2)) := ⟨_, rfl⟩
        replace H : (if x307001_2.length < 5864062014805 then (spec_OtherCoins.l0 k2 a3 t296 y303 l0_1 (l0_1.length : Int) (wrap64 (x48_2 + 1)) a0_0 (x307001_2 ++ [y311])) else (none)) = some (r1, r2, r3, r4) := yH
        have Ny311 := ak hy_; clear hy_; replace H := ifS H; obtain ⟨c43, H⟩ := H; have LMc43 := Aside0.mk c43; clear c43
        obtain ⟨y314, hy_⟩ : ∃ y_ : List (List Int), y_ = (x307001_2 ++ [y311]) := ⟨_, rfl⟩
        replace H : (spec_OtherCoins.l0 k2 a3 t296 y303 l0_1 (l0_1.length : Int) (wrap64 (x48_2 + 1)) a0_0 y314) = some (r1, r2, r3, r4) := yH
        have Ny314 := ak hy_; clear hy_
        have H' := Aside0.mk H
        clear H
        have p307 : 0 ≤ (x48_2 : Int) := da
        have q307 : x48_2 < (l0_1.length : Int) := da
        obtain ⟨ad307, A307_0, c307_0, e307, hx307_0, hl307_0, hi307_0⟩ := at_L1 HR0_1.out x48_2 p307 q307
        cases e307
        replace hx307_0 := (HB.out.cell (World.block_lt_of_cell? w _ hx307_0)).trans hx307_0
        have HR307_0 := Aside0.mk hi307_0; have HC307_0 := Aside0.mk hl307_0; clear hi307_0 hl307_0; replace p307 := eq_true p307; replace q307 := eq_true q307
        try go_wp2
        replace HO_10 := ak (Kd.R_drew HO_10.out)
        replace HO_43 := ak (Kd.R_drew HO_43.out)
        replace HO_307001 := ak (Kd.S_drew HO_307001.out)
        replace BK292 := ak (blk_drew BK292.out)
        replace BK293 := ak (blk_drew BK293.out)
        replace BK306 := ak (blk_drew BK306.out)
        replace HB := ak (below_drew1 HB.out)
        refine start_ (n := 9) (S := fun w' => w'.cell? ⟨gb306, 0, none⟩ = some (.int .i64 a0_0) ∧ w'.cell? ⟨gb306, 1, none⟩ = some (u307001) ∧ w'.cell? ⟨gb306, 2, none⟩ = some (.slice Ao33 y303.length co33)) (ds := [8]) (bl 9 0) (by kernel_rfl) rfl rfl ⟨bq BK306 0, bq BK306 1, bq BK306 2⟩ (fun hHeld => ?_); refine with_tabW spec_OtherCoins.tab10 spec_OtherCoins.bits10 (fun HT_ HW_ => ?_)
        generalize wr.drew = w44 at HO_10 HO_43 HO_307001 BK292 BK293 BK306 HB hHeld ⊢
        refine pureA 0 (some 52) 9 1 HT_ ?_
        refine pureA 3 (some 55) 9 9 HT_ ?_
        refine takeA 1 (some 53) 9 11 HT_ HW_ hHeld ?_ (hy := by rintro w' ⟨s0, s1, s2⟩; go_simp; with_reducible rfl)
        refine oneA 2 (some 54) 9 15 HT_ (fun K hK => ?_)
        refine Kd.R_lit_step (Kd.int .i64) _ 3 ?hg (N := 54) ?hd (xs := ([] : List Int)) (inner := []) (ok := fun _ => True) (okp := fun _ => True) ?hr ?hp (fun _ hk => hk) trivial (Below.refl _ _) (Nat.le_refl _) (by simp) ?_; (case hd => rfl); (case hg => rfl); (case hr => first | (go_simp; done) | (go_simp; rfl)); (case hp => exact (Reps.none _ _))
        intro v309 w45 ho46 hb hg_ hnew_
        clear hg_ hnew_
        (first | rw [← Ny308.out] at ho46 | (simp only [Int.reduceToNat] at ho46; rw [← Ny308.out] at ho46))
        replace HO_307001 := ak (Kd.S_elder' (sd HO_307001) (Kd.R_base ho46) hb)
        have HO310 := ak (Kd.R_lower (Kd.R_new' (Kd.R_new' ho46 (Kd.R_lt (rdl HO_10))) (Kd.R_lt (rdl HO_43))) (below_size (belowg3 HB GE292 GE293 GE306)))
        replace HO_10 := ak (Kd.R_elder' (rdl HO_10) (Kd.R_base ho46) hb)
        replace HO_43 := ak (Kd.R_elder' (rdl HO_43) (Kd.R_base ho46) hb)
        replace BK292 := ak (blk_below (blkd BK292) hb)
        replace BK293 := ak (blk_below (blkd BK293) hb)
        replace BK306 := ak (blk_below (blkd BK306) hb)
        replace HB := ak (below_step (belowg3 HB GE292 GE293 GE306) hb)
        clear hb ho46
        refine hK.out _ _ ⟨bq BK306 0, bq BK306 1, bq BK306 2⟩ (fun hHeld => ?_)
        clear hK K
        refine norm_ (a' := ?_) ?_ ?_
        rotate_left
        ·show Act.put _ (some 54) _ = _
         simp only [Act.put, List.setIfInBounds_toArray, List.set_cons_zero, List.set_cons_succ, i64_w, i32_w]
         rfl
        refine oneA 4 (some 56) 9 31 HT_ (fun K hK => ?_)
        refine Kd.R_append_rows_step (Kd.int .i64) (w0 := w) w.heap.size (by rfl) (.tmp 54) (.tmp 55) 22 3 (.int .i64 0) 8 rfl Try.underlying22 info3 rfl (by decide) (by omega) v309 y308 (rd_L1 l0_1 x48_2) _ _ _ (fun k_ => some k_ ≠ (v297 : Value).ownBlock ∧ some k_ ≠ (.slice Ao33 y303.length co33 : Value).ownBlock) (fun _ => False) rfl rfl ?aO ?aR (fun _ _ h => h) (fun _ h => h.elim) ?aF ?aB ?aS ?aL ?_
        (case aR => exact cd (Kd.C_below HR307_0.out HB.out))
        (case aB => exact (belowg3 HB GE292 GE293 GE306))
        (case aF => exact (fun k_ hk => ⟨Kd.fresh' (Kd.R_lt (rdl HO_10)) k_ hk, Kd.fresh' (Kd.R_lt (rdl HO_43)) k_ hk⟩))
        (case aO => exact (by (with_reducible repeat (first | apply Kd.R_alloc | apply Kd.R_drewN | apply Kd.R_drew)); exact Kd.R_mono HO310.out (fun _ hk => ⟨hk.1.2, hk.2⟩)))
        (case aS => exact (below_size (belowg3 HB GE292 GE293 GE306)))
        (case aL => have := LMc42.out; omega)
        intro v312 w47 ho hb hg hat
        rw [← Ny311.out] at ho
        replace HO_10 := ak (Kd.R_after (ok := (fun k_ => some k_ ≠ (.slice Ao33 y303.length co33 : Value).ownBlock)) (rdl HO_10) hg hat)
        replace HO_43 := ak (Kd.R_after (ok := (fun k_ => some k_ ≠ (v297 : Value).ownBlock)) (rdl HO_43) hg hat)
        replace HO_307001 := ak (Kd.S_after (ok := (fun k_ => some k_ ≠ (v297 : Value).ownBlock ∧ some k_ ≠ (.slice Ao33 y303.length co33 : Value).ownBlock)) (sd HO_307001) hg hat)
        replace BK292 := ak (blk_grown (blkd BK292) hg (Kd.R_ne HO310.out BK292.out (by decide)))
        replace BK293 := ak (blk_grown (blkd BK293) hg (Kd.R_ne HO310.out BK293.out (by decide)))
        replace BK306 := ak (blk_grown (blkd BK306) hg (Kd.R_ne HO310.out BK306.out (by decide)))
        replace HB := ak (hb)
        have HO313 := ak (ho); clear HO310; clear ho hb hg hat
        obtain ⟨Ao49, co49, eo49⟩ := Kd.R_slice HO313.out
        (first | subst eo49 | (injection eo49 with f1_ f2_ f3_; have f4_ := f1_.symm; have f5_ := f3_.symm; clear f1_ f2_ f3_; subst f4_; subst f5_))
        refine hK.out _ _ ⟨bq BK306 0, bq BK306 1, bq BK306 2⟩ (fun hHeld => ?_)
        clear hK K
        refine norm_ (a' := ?_) ?_ ?_
        rotate_left
        ·show Act.put _ (some 56) _ = _
         simp only [Act.put, List.setIfInBounds_toArray, List.set_cons_zero, List.set_cons_succ, i64_w, i32_w]
         rfl
        refine oneA 5 (some 57) 9 63 HT_ (fun K hK => ?_)
        refine value_ (w1 := ?_) (v := ?_) (by rfl) rfl ?_ ?_
        rotate_left 2
        ·go_simp
         constructor
         ·rfl
         ·rfl
        refine hK.out _ _ ⟨(blk_cell (blk_alloc BK306.out _) 0).trans rfl, (blk_cell (blk_alloc BK306.out _) 1).trans rfl, (blk_cell (blk_alloc BK306.out _) 2).trans rfl⟩ (fun hHeld => ?_)
        clear hK K
        refine norm_ (a' := ?_) ?_ ?_
        rotate_left
        ·show Act.put _ (some 57) _ = _
         simp only [Act.put, List.setIfInBounds_toArray, List.set_cons_zero, List.set_cons_succ, i64_w, i32_w]
         rfl
        refine oneA 6 (some 58) 9 127 HT_ (fun K hK => ?_)
        refine Kd.S_append_step (Kd.slice 3 (Kd.int .i64)) (w0 := w) w.heap.size (by rfl) (.tmp 53) (.tmp 57) 32 22 (.slice none 0 0) 24 rfl Try.underlying32 info22 rfl (by decide) (by omega) u307001 x307001_2 y311 [.slice Ao49 y311.length co49] (fun k_ => some k_ ≠ (v297 : Value).ownBlock ∧ some k_ ≠ (.slice Ao33 y303.length co33 : Value).ownBlock) (fun k_ => some k_ = (.slice Ao49 y311.length co49 : Value).ownBlock) rfl rfl ?aP (fun k_ hk_ => ((Kd.R_mono (ok' := fun k_ => ((fun k_ => some k_ ≠ (v297 : Value).ownBlock ∧ some k_ ≠ (.slice Ao33 y303.length co33 : Value).ownBlock)) k_ ∧ some k_ ≠ (u307001 : Value).ownBlock) (Kd.R_apart' (HO313.out) (Kd.S_typed HO_307001.out) (by decide)) (fun k_ hk => ⟨⟨hk.1.1, hk.1.2⟩, hk.2⟩))).1 k_ hk_.symm) ?aF ?aO ?aB ?aS ?aL ?_
        (case aP => exact Kd.M_row (Kd.R_mono (Kd.R_tight rfl (Kd.R_mono (ok' := fun k_ => ((fun k_ => some k_ ≠ (v297 : Value).ownBlock ∧ some k_ ≠ (.slice Ao33 y303.length co33 : Value).ownBlock)) k_ ∧ some k_ ≠ (u307001 : Value).ownBlock) (Kd.R_apart' (HO313.out) (Kd.S_typed HO_307001.out) (by decide)) (fun k_ hk => ⟨⟨hk.1.1, hk.1.2⟩, hk.2⟩))) (fun _ h_ => h_)))
        (case aB => exact (belowg3 HB GE292 GE293 GE306))
        (case aF => exact (fun k_ hk => ⟨Kd.fresh' (Kd.R_lt (rdl HO_10)) k_ hk, Kd.fresh' (Kd.R_lt (rdl HO_43)) k_ hk⟩))
        (case aO => exact (by (with_reducible repeat (first | apply Kd.S_alloc | apply Kd.S_drewN | apply Kd.S_drew)); exact Kd.S_mono HO_307001.out (fun k_ hk => ⟨⟨hk.1.1, hk.1.2⟩, fun e_ => hk.2 e_⟩)))
        (case aS => exact (below_size (belowg3 HB GE292 GE293 GE306)))
        (case aL => have := LMc43.out; omega)
        intro v315 w48 ho hb hg hat
        rw [← Ny314.out] at ho
        replace HO_10 := ak (Kd.R_over' (rdl HO_10) (Kd.S_typed (sd HO_307001)) (by decide) hg)
        replace HO_43 := ak (Kd.R_over' (rdl HO_43) (Kd.S_typed (sd HO_307001)) (by decide) hg)
        replace BK292 := ak (blk_grown (blkd BK292) hg (Kd.S_ne HO_307001.out BK292.out (by decide)))
        replace BK293 := ak (blk_grown (blkd BK293) hg (Kd.S_ne HO_307001.out BK293.out (by decide)))
        replace BK306 := ak (blk_grown (blkd BK306) hg (Kd.S_ne HO_307001.out BK306.out (by decide)))
        replace HB := ak (hb)
        have HO316 := ak (ho); clear HO_307001 HO313; clear ho hb hg hat
        obtain ⟨Ao50, co50, eo50⟩ := Kd.S_slice HO316.out
        (first | subst eo50 | (injection eo50 with f1_ f2_ f3_; have f4_ := f1_.symm; have f5_ := f3_.symm; clear f1_ f2_ f3_; subst f4_; subst f5_))
        refine hK.out _ _ ⟨bq BK306 0, bq BK306 1, bq BK306 2⟩ (fun hHeld => ?_)
        clear hK K
        refine norm_ (a' := ?_) ?_ ?_
        rotate_left
        ·show Act.put _ (some 58) _ = _
         simp only [Act.put, List.setIfInBounds_toArray, List.set_cons_zero, List.set_cons_succ, i64_w, i32_w]
         rfl
        refine pureA 7 (some 59) 9 255 HT_ ?_
        refine last_ (i := 8) (N := none) (bl 9 511) rfl rfl (one_of HT_.out (by kernel_rfl)) (by decide) (fun K hK => ?_)
        have hs51 : w48.cell? ⟨gb306, 1, none⟩ = some (u307001) := bq BK306 1
        have hfs51 := blk_frozen BK306.out 1
        have hns51_0 := NB292_306.out; have hns51_1 := NB293_306.out; have hms51_0 := NB306_292.out; have hms51_1 := NB306_293.out
        refine skip_ (w1 := ?_) (by rfl) rfl ?_ ?_
        rotate_left
        ·go_simp
         rfl
        refine hK.out _ _ ?_
        clear hK K
        refine done_ (done_of HT_.out (by kernel_rfl)) ?_
        try go_wp2
        go_roundg k2
        case measure => have := HJ4.out; have := HK2.out; omega
        case rel => exact ⟨(wrap64 (x48_2 + 1)), (y314), (.slice Ao50 y314.length co50), er, H', ⟨by have := HJ4.out; have := HK2.out; omega⟩, ⟨by (with_reducible repeat (first | apply Kd.R_alloc | apply Kd.R_drewN | apply Kd.R_drew)); exact Kd.R_mono (Kd.R_far (p := ⟨gb306, 1, none⟩) (Kd.R_types HO_10.out BK306.out (by decide)) (fun _ hk => hk.2) (.slice Ao50 y314.length co50)) (fun _ hk => hk.1.1)⟩, ⟨by (with_reducible repeat (first | apply Kd.R_alloc | apply Kd.R_drewN | apply Kd.R_drew)); exact Kd.R_mono (Kd.R_far (p := ⟨gb306, 1, none⟩) (Kd.R_types HO_43.out BK306.out (by decide)) (fun _ hk => hk.2) (.slice Ao50 y314.length co50)) (fun _ hk => hk.1.1)⟩, ⟨by (with_reducible repeat (first | apply Kd.S_alloc | apply Kd.S_drewN | apply Kd.S_drew)); exact Kd.S_mono (Kd.S_far (p := ⟨gb306, 1, none⟩) (Kd.S_types HO316.out BK306.out (by decide)) (fun _ hk => hk.2) (.slice Ao50 y314.length co50)) (fun _ hk => ⟨hk.1.1, hk.1.2⟩)⟩, ⟨by (with_reducible repeat (first | refine blk_drewN ?_ _ | refine blk_drew ?_ | refine blk_alloc ?_ _)); refine blk_far ?_ NB292_306.out _; (with_reducible repeat (first | refine blk_drewN ?_ _ | refine blk_drew ?_ | refine blk_alloc ?_ _)); exact BK292.out⟩, ⟨by (with_reducible repeat (first | refine blk_drewN ?_ _ | refine blk_drew ?_ | refine blk_alloc ?_ _)); refine blk_far ?_ NB293_306.out _; (with_reducible repeat (first | refine blk_drewN ?_ _ | refine blk_drew ?_ | refine blk_alloc ?_ _)); exact BK293.out⟩, ⟨by (with_reducible repeat (first | refine blk_drewN ?_ _ | refine blk_drew ?_ | refine blk_alloc ?_ _)); refine blk_put (cs := #[.int .i64 a0_0, u307001, .slice Ao33 y303.length co33]) ?_ 1 _ rfl; (with_reducible repeat (first | refine blk_drewN ?_ _ | refine blk_drew ?_ | refine blk_alloc ?_ _)); exact BK306.out⟩, ⟨belowg3 HB GE292 GE293 GE306⟩⟩
       ·rw [if_neg c39] at H
        have c39b0 : decide (x48_2 < (l0_1.length : Int)) = false := decide_eq_false c39
        clear c39
        have H' := Aside0.mk H
        clear H
        obtain ⟨Ao52, co52, eo52⟩ := Kd.R_slice HO_10.out
        subst eo52; go_wp2
        go_loopg [63] k2 (fun kq v63 w' => ∃ (x61_3 : List Int) (x63_3 : Int) (x307002_3 : List Int) (u307002 : Value), v63 = .int .i64 x63_3 ∧ Aside0 (spec_OtherCoins.l1 kq a3 x61_3 (t296.length : Int) x63_3 a0_0 x307001_2 x307002_3 = some (r1, r2, r3, r4)) ∧ Aside0 (kq ≤ k2) ∧ Aside0 (Kd.R (Kd.int .i64) 3 w' w.heap.size (fun k_ => some k_ ≠ (u307002 : Value).ownBlock) (.slice Ao52 t296.length co52) x61_3) ∧ Aside0 (Kd.S (Kd.slice 3 (Kd.int .i64)) 22 w' w.heap.size (fun k_ => some k_ ≠ ((.slice Ao52 t296.length co52) : Value).ownBlock ∧ some k_ ≠ (u307002 : Value).ownBlock) u307001 x307001_2) ∧ Aside0 (Kd.R (Kd.int .i64) 3 w' w.heap.size (fun k_ => some k_ ≠ ((.slice Ao52 t296.length co52) : Value).ownBlock) u307002 x307002_3) ∧ Aside0 (w'.heap[gb292]? = some (.cells #[.int .i64 a0_0, (.slice A0_1 l0_1.length c0_1), (.slice A0_2 l0_2.length c0_2)] 38 (0, 0))) ∧ Aside0 (w'.heap[gb293]? = some (.cells #[.int .i64 0, (.slice none 0 0), (.slice none 0 0)] 38 (0, 0))) ∧ Aside0 (w'.heap[gb306]? = some (.cells #[.int .i64 a0_0, u307001, u307002] 38 (0, 0))) ∧ Aside0 (Below w.heap.size w w'))
        case atStart => exact ⟨(t296), (0), (y303), (.slice Ao33 y303.length co33), er, H', ⟨Nat.le_refl _⟩, ⟨rdl HO_10⟩, ⟨sd HO_307001⟩, ⟨rdl HO_43⟩, ⟨blkd BK292⟩, ⟨blkd BK293⟩, ⟨blkd BK306⟩, ⟨belowg3 HB GE292 GE293 GE306⟩⟩
        case round =>
         clear H'
         (try clear c39b0)
         obtain ⟨x61_3, x63_3, x307002_3, u307002, rfl, HA, HK3, HO_61, HO_307001, HO_307002, BK292, BK293, BK306, HB⟩ := hrel
         have hl61_3 := (Kd.R_reads' HO_61.out).1
         rw [hl61_3] at HO_61
         (try simp only [hl61_3])
         (try simp only [hl61_3] at BK292)
         (try simp only [hl61_3] at BK293)
         (try simp only [hl61_3] at BK306)
         (try simp only [hl61_3] at HO_307001)
         (try simp only [hl61_3] at HO_307002)
         cases gk with
         | zero => exact absurd HA.out (by simp [spec_OtherCoins.l1])
         | succ k3 =>
          have H := HA.out; clear HA
          simp only [spec_OtherCoins.l1] at H
          by_cases c53 : x63_3 < (t296.length : Int)
          ·rw [if_pos c53] at H
           have c53b0 : decide (x63_3 < (t296.length : Int)) = true := decide_eq_true c53
           clear c53; replace H := ifS H; obtain ⟨c54, H⟩ := H; have c54b0 := decide_eq_true c54; clear c54; replace H := ifS H; obtain ⟨c55, H⟩ := H; have c55b0 := decide_eq_true c55; clear c55; replace H := ifS H; obtain ⟨c56, H⟩ := H; have c56b0 := decide_eq_true c56; clear c56; replace H := ifS H; obtain ⟨c57, H⟩ := H; have c57b0 := decide_eq_true c57; clear c57
           obtain ⟨y319, hy_⟩ : ∃ y_ : List Int, y_ = (x307002_3.set ((rd x61_3 x63_3) : Int).toNat (Go.bits .xor .i64 (rd x307002_3 (rd x61_3 x63_3)) a3)) := ⟨_, rfl⟩
           replace H : (spec_OtherCoins.l1 k3 a3 x61_3 (t296.length : Int) (wrap64 (x63_3 + 1)) a0_0 x307001_2 y319) = some (r1, r2, r3, r4) := yH
           have Ny319 := ak hy_; clear hy_
           have H' := Aside0.mk H
           clear H
           have p317 : 0 ≤ (x63_3 : Int) := da
           have q317 : x63_3 < (x61_3.length : Int) := da
           obtain ⟨ad317, e317, hx317_0⟩ := Kd.at_int (Kd.R_reads' HO_61.out).2.2 x63_3 p317 q317
           cases e317
           replace p317 := eq_true p317; replace q317 := eq_true q317; have hnb59 := NB306_292.out; have hnc59 := NB292_306.out; have hnb60 := NB306_293.out; have hnc60 := NB293_306.out; obtain ⟨hcz61_0, hcz61_1, hcz61_2, hfz61_0, hfz61_1, hfz61_2⟩ := box3 BK306
           obtain ⟨Ao62, co62, eo62⟩ := Kd.R_slice HO_307002.out
           subst eo62
           have p318 : 0 ≤ ((rd x61_3 x63_3) : Int) := da
           have q318 : (rd x61_3 x63_3) < (x307002_3.length : Int) := da
           obtain ⟨ad318, e318, hx318_0⟩ := Kd.at_int (Kd.R_reads' HO_307002.out).2.2 (rd x61_3 x63_3) p318 q318
           cases e318
           replace p318 := eq_true p318; replace q318 := eq_true q318
           have p58 : 0 ≤ ((rd x61_3 x63_3) : Int) := da
           have q58 : ((rd x61_3 x63_3) : Int) < ((x307002_3.length : Int) : Int) := da
           obtain ⟨go58, co58, eo58, gb58, gl58, cl58, HG58⟩ := Kd.R_form HO_307002.out (by omega)
           (first | cases eo58 | (injection eo58 with ea_ en_ ec_; (first | subst ea_ | (injection ea_ with ea_; subst ea_)); subst ec_; clear en_))
           have GB58 := Aside0.mk gb58; have GG58 := Aside0.mk HG58; clear gb58 gl58 HG58
           (first | simp only [add_plain] at hx318_0 | skip)
           obtain ⟨hx58_0, hf58_0⟩ := Kd.R_celln 0 HO_307002.out ((rd x61_3 x63_3) : Int) p58 q58
           replace p58 := eq_true p58; replace q58 := eq_true q58
           have HP63 := Kd.R_putg HO_307002.out ((rd x61_3 x63_3) : Int) (Go.bits .xor .i64 (rd x307002_3 (rd x61_3 x63_3)) a3)
           go_wp2_with (first | ((with_reducible refine gate_store (t := 3) (p := 74) rfl ?_); refine store_event (t := 3) (p := 74) (v := ?vo_w64) (w1 := (wr.setCell ⟨go58, ((rd x61_3 x63_3) : Int).toNat, none⟩ (.int .i64 (Go.bits .xor .i64 (rd x307002_3 (rd x61_3 x63_3)) a3)))) ?hg ?ho ?hn ?hr ?_; (case ho => rfl); (case hg => rfl); (case hn => rfl); (case hr => first | (go_simp; done) | (go_simp; rfl)); intro w64 hw; have hg : wr.grownBy w64 (some go58) := (by rw [hw]; exact HP63.2); have hp_ : Kd.R (Kd.int .i64) 3 w64 w.heap.size (fun k_ => some k_ ≠ (.slice (some ad317) x61_3.length co52 : Value).ownBlock) (.slice (some ⟨go58, 0, none⟩) x307002_3.length co62) y319 := (by rw [hw, Ny319.out]; exact HP63.1); clear HP63; replace HO_61 := ak (Kd.R_after (v := (.slice (some ⟨go58, 0, none⟩) x307002_3.length co62)) (v1 := (.slice (some ⟨go58, 0, none⟩) x307002_3.length co62)) (ok := (fun _ => True)) (by (with_reducible repeat (first | apply Kd.R_alloc | apply Kd.R_drewN | apply Kd.R_drew)); exact Kd.R_mono HO_61.out (fun _ hk => ⟨trivial, hk⟩)) hg (.inl rfl)); replace HO_307001 := ak (Kd.S_after (v := (.slice (some ⟨go58, 0, none⟩) x307002_3.length co62)) (v1 := (.slice (some ⟨go58, 0, none⟩) x307002_3.length co62)) (ok := (fun k_ => some k_ ≠ (.slice (some ad317) x61_3.length co52 : Value).ownBlock)) (sd HO_307001) hg (.inl rfl)); replace BK292 := ak (blk_grown (blkd BK292) hg (Kd.R_ne HO_307002.out BK292.out (by decide))); replace BK293 := ak (blk_grown (blkd BK293) hg (Kd.R_ne HO_307002.out BK293.out (by decide))); replace BK306 := ak (blk_grown (blkd BK306) hg (Kd.R_ne HO_307002.out BK306.out (by decide))); replace HO_307002 := ak (hp_); replace HB := ak ((by rw [hw]; exact below_set (HB.out) GB58.out : Below w.heap.size w w64)); clear hg hw hp_))
           (try simp only [← hl61_3])
           (first | go_roundg k3 | ((try rw [← add_plain go58 ((rd x61_3 x63_3) : Int).toNat]); go_roundg k3))
           case measure => have := HJ4.out; have := HK2.out; have := HK3.out; omega
           case rel => exact ⟨(x61_3), (wrap64 (x63_3 + 1)), (y319), (.slice (some ⟨go58, 0, none⟩) x307002_3.length co62), er, H', ⟨by have := HJ4.out; have := HK2.out; have := HK3.out; omega⟩, ⟨by (try simp only [hl61_3]); (with_reducible repeat (first | apply Kd.R_alloc | apply Kd.R_drewN | apply Kd.R_drew)); exact Kd.R_mono HO_61.out (fun _ hk => hk.2)⟩, ⟨by (try simp only [hl61_3]); (with_reducible repeat (first | apply Kd.S_alloc | apply Kd.S_drewN | apply Kd.S_drew)); exact HO_307001.out⟩, ⟨by (try simp only [hl61_3]); (with_reducible repeat (first | apply Kd.R_alloc | apply Kd.R_drewN | apply Kd.R_drew)); exact HO_307002.out⟩, ⟨by (try simp only [hl61_3]); (with_reducible repeat (first | refine blk_drewN ?_ _ | refine blk_drew ?_ | refine blk_alloc ?_ _)); exact BK292.out⟩, ⟨by (try simp only [hl61_3]); (with_reducible repeat (first | refine blk_drewN ?_ _ | refine blk_drew ?_ | refine blk_alloc ?_ _)); exact BK293.out⟩, ⟨by (try simp only [hl61_3]); (with_reducible repeat (first | refine blk_drewN ?_ _ | refine blk_drew ?_ | refine blk_alloc ?_ _)); exact BK306.out⟩, ⟨belowg3 HB GE292 GE293 GE306⟩⟩
          ·rw [if_neg c53] at H
           have c53b0 : decide (x63_3 < (t296.length : Int)) = false := decide_eq_false c53
           have c53b0s := c53b0
           (try simp only [hl61_3] at c53b0s)
           clear c53
           simp only [Option.some.injEq, Prod.mk.injEq] at H
           obtain ⟨rfl, rfl, rfl, rfl⟩ := H; have hnb65 := NB306_292.out; have hnc65 := NB292_306.out; have hnb66 := NB306_293.out; have hnc66 := NB293_306.out; obtain ⟨hcz67_0, hcz67_1, hcz67_2, hfz67_0, hfz67_1, hfz67_2⟩ := box3 BK306; have hnb68 := NB293_292.out; have hnc68 := NB292_293.out; obtain ⟨hcz69_0, hcz69_1, hcz69_2, hfz69_0, hfz69_1, hfz69_2⟩ := box3 BK293
           obtain ⟨Ao70, co70, eo70⟩ := Kd.S_slice HO_307001.out
           subst eo70
           obtain ⟨Ao71, co71, eo71⟩ := Kd.R_slice HO_307002.out
           subst eo71; go_wp2
           refine bodyPost_ret (results_ct rfl _ _ gb293 38 #[.int .i64 a0_0, .slice Ao70 x307001_2.length co70, .slice Ao71 x307002_3.length co71] (0, 0) _ rfl (by (with_reducible repeat (first | refine blk_drewN ?_ _ | refine blk_drew ?_ | refine blk_alloc ?_ _)); refine blk_put (cs := #[.int .i64 a0_0, .slice Ao70 x307001_2.length co70, .slice none 0 0]) ?_ 2 _ rfl; (with_reducible repeat (first | refine blk_drewN ?_ _ | refine blk_drew ?_ | refine blk_alloc ?_ _)); refine blk_put (cs := #[.int .i64 a0_0, .slice none 0 0, .slice none 0 0]) ?_ 1 _ rfl; (with_reducible repeat (first | refine blk_drewN ?_ _ | refine blk_drew ?_ | refine blk_alloc ?_ _)); refine blk_put (cs := #[.int .i64 0, .slice none 0 0, .slice none 0 0]) ?_ 0 _ rfl; (with_reducible repeat (first | refine blk_drewN ?_ _ | refine blk_drew ?_ | refine blk_alloc ?_ _)); exact BK293.out) Try.underlying38 rfl (by kernel_rfl)) rfl ?_
           exact ⟨_, _, er2, by (with_reducible repeat (first | apply Kd.S_alloc | apply Kd.S_drewN | apply Kd.S_drew)); exact Kd.S_mono (Kd.S_far (p := ⟨gb293, 2, none⟩) (Kd.S_far (p := ⟨gb293, 1, none⟩) (Kd.S_far (p := ⟨gb293, 0, none⟩) (Kd.S_types HO_307001.out BK293.out (by decide)) (fun _ hk => hk.2) (.int .i64 a0_0)) (fun _ hk => hk.2) (.slice Ao70 x307001_2.length co70)) (fun _ hk => hk.2) (.slice Ao71 x307002_3.length co71)) (fun _ hk => hk.1.2), by (with_reducible repeat (first | apply Kd.R_alloc | apply Kd.R_drewN | apply Kd.R_drew)); exact Kd.R_mono (Kd.R_far (p := ⟨gb293, 2, none⟩) (Kd.R_far (p := ⟨gb293, 1, none⟩) (Kd.R_far (p := ⟨gb293, 0, none⟩) (Kd.R_types HO_307002.out BK293.out (by decide)) (fun _ hk => hk.2) (.int .i64 a0_0)) (fun _ hk => hk.2) (.slice Ao70 x307001_2.length co70)) (fun _ hk => hk.2) (.slice Ao71 x307002_3.length co71)) (fun _ hk => trivial), belowg3 HB GE292 GE293 GE306⟩
    ·replace c21 := Bool.eq_false_iff.mpr c21
     subst c21
     have H1 : (some (0, ([] : List (List Int)), ([] : List Int), false)) = some (r1, r2, r3, r4) := by rw [if_neg (show ¬ (false = true) by decide)] at H; exact H
     clear H
     have H := H1
     clear H1
     simp only [Option.some.injEq, Prod.mk.injEq] at H
     obtain ⟨rfl, rfl, rfl, rfl⟩ := H; have hnb72 := NB292_293.out; have hnc72 := NB293_292.out; obtain ⟨hcz73_0, hcz73_1, hcz73_2, hfz73_0, hfz73_1, hfz73_2⟩ := box3 BK292
     go_wp2_with (first | ((with_reducible refine gate_callee (f := 109) rfl ?_); refine goesLa (some 32) rfl Try.func109 #[.agg #[.int .i64 a0_0, .slice A0_1 l0_1.length c0_1, .slice A0_2 l0_2.length c0_2], .int .i64 a1, .int .i64 a2] rfl ?_; (with_reducible refine (spec_l15Way.calls kj4 a0_0 _ _ l0_1 _ _ l0_2 a1 a2 t296 false _ ?side1 ?side2 ?side3 ?side4 A20.out).mono ?_); (case side1 => exact cd (Kd.C_below HR0_1.out HB.out)); (case side2 => exact HC0_1.out); (case side3 => exact cd (Kd.C_below HR0_2.out HB.out)); (case side4 => exact HC0_2.out); rintro e w74 ⟨v297, rfl, ho0, hb⟩; refine ⟨_, rfl, ?_⟩; have HO298 := ak (Kd.R_lower ho0 (below_size (belowg2 HB GE292 GE293))); replace BK292 := ak (blk_below (blkd BK292) hb); replace BK293 := ak (blk_below (blkd BK293) hb); replace HB := ak (below_step (belowg2 HB GE292 GE293) hb); (try clear hb); (try clear ho0); obtain ⟨hcz75_0, hcz75_1, hcz75_2, hfz75_0, hfz75_1, hfz75_2⟩ := box3 BK293))
     refine bodyPost_ret (results_ct rfl _ _ gb293 38 #[.int .i64 0, .slice none 0 0, .slice none 0 0] (0, 0) _ rfl (by (with_reducible repeat (first | refine blk_drewN ?_ _ | refine blk_drew ?_ | refine blk_alloc ?_ _)); refine blk_put (cs := #[.int .i64 0, .slice none 0 0, .slice none 0 0]) ?_ 2 _ rfl; (with_reducible repeat (first | refine blk_drewN ?_ _ | refine blk_drew ?_ | refine blk_alloc ?_ _)); refine blk_put (cs := #[.int .i64 0, .slice none 0 0, .slice none 0 0]) ?_ 1 _ rfl; (with_reducible repeat (first | refine blk_drewN ?_ _ | refine blk_drew ?_ | refine blk_alloc ?_ _)); refine blk_put (cs := #[.int .i64 0, .slice none 0 0, .slice none 0 0]) ?_ 0 _ rfl; (with_reducible repeat (first | refine blk_drewN ?_ _ | refine blk_drew ?_ | refine blk_alloc ?_ _)); exact BK293.out) Try.underlying38 rfl (by kernel_rfl)) rfl ?_
     exact ⟨_, _, er2, by first | exact Kd.S_nil _ _ _ _ _ | exact Kd.N_nil _ _ _ _ _ | exact Kd.V_nil _ _ _ _ _ | exact Kd.Q_nil _ _ _ _ _ | exact Kd.R_nil _ _ _ _ _, by first | exact Kd.R_nil _ _ _ _ _ | exact Kd.N_nil _ _ _ _ _ | exact Kd.V_nil _ _ _ _ _ | exact Kd.Q_nil _ _ _ _ _ | exact Kd.S_nil _ _ _ _ _, belowg2 HB GE292 GE293⟩

/-! ### slices_Clone_int_int: function 121 -/
def slices_Clone_int_int.f (l0 : List Int) : Option (List Int) := (some (([] : List Int) : List Int)).bind fun y320 => (if y320.length + l0.length < 17592186044416 then (some (y320 ++ l0)) else (none))
theorem clonenil121 (w : World) (a : Option Addr) (m c m' c' : Nat) : (Go.binOp .eql 22 (.slice a m c) (.slice none m' c')).run Try.prog w = .ok (.bool a.isNone) w := Go.Lib.run_eql_slice_nil w 22 3 a m c m' c' Try.underlying22
attribute [local go_sem high] clonenil121
set_option maxHeartbeats 8000000 in
set_option maxRecDepth 100000 in
theorem slices_Clone_int_int.calls_some (ad0 : Addr) (c0 : Nat) (l0 : List Int) (r : List Int) (w : World) (hr0 : Kd.C (Kd.int .i64) w (some ad0) l0.length l0) (hc0 : l0.length ≤ c0) (h : slices_Clone_int_int.f l0 = some r) :
  Calls Try.prog 121 #[.slice (some ad0) l0.length c0] w fun e w' => ∃ v0_ : Value, e = .returned (v0_) ∧ Kd.R (Kd.int .i64) 3 w' w.heap.size (fun _ => True) v0_ r ∧ Below w.heap.size w w' := by
 have HR0 := Aside0.mk hr0; have HC0 := Aside0.mk hc0; clear hr0 hc0
 have HB := Aside0.mk (Below.refl w.heap.size w)
 have H : ((some (([] : List Int) : List Int)).bind fun y320 => (if y320.length + l0.length < 17592186044416 then (some (y320 ++ l0)) else (none))) = some r := h
 clear h
 obtain ⟨y320, hy_⟩ : ∃ y_ : List Int, y_ = (([] : List Int)) := ⟨_, rfl⟩
 replace H : (if y320.length + l0.length < 17592186044416 then (some (y320 ++ l0)) else (none)) = some r := yH
 have Ny320 := ak hy_; clear hy_; replace H := ifS H; obtain ⟨c2, H⟩ := H; have LMc2 := Aside0.mk c2; clear c2
 obtain ⟨y323, hy_⟩ : ∃ y_ : List Int, y_ = (y320 ++ l0) := ⟨_, rfl⟩
 replace H : (some y323) = some r := yH
 have Ny323 := ak hy_; clear hy_
 obtain rfl := Option.some.inj H
 go_enter Try.func121, Try.ntmps121
 go_wp2_with (first | ((with_reducible refine gate_dst (N := 5) rfl ?_); refine Kd.R_lit (Kd.int .i64) _ 3 ?hg (N := 5) ?hd (xs := ([] : List Int)) (inner := []) (ok := fun _ => True) (okp := fun _ => True) ?hr ?hp (fun _ hk => hk) trivial (Below.refl _ _) (Nat.le_refl _) (by simp) ?_; (case hd => rfl); (case hg => rfl); (case hr => first | (go_simp; done) | (go_simp; rfl)); (case hp => exact (Reps.none _ _)); intro v321 w3 ho4 hb hg_ hnew_; clear hg_ hnew_; (first | rw [← Ny320.out] at ho4 | (simp only [Int.reduceToNat] at ho4; rw [← Ny320.out] at ho4)); have HO322 := ak (Kd.R_lower ho4 (below_size (belowd HB))); replace HB := ak (below_step (belowd HB) hb); clear hb ho4) | ((with_reducible refine gate_builtin (b := .append) (xs := #[.tmp 5, .tmp 6]) rfl ?_); at_builtin; refine Kd.R_append_rows (Kd.int .i64) (w0 := w) w.heap.size rfl (.tmp 5) (.tmp 6) 22 3 (.int .i64 0) 8 rfl Try.underlying22 info3 rfl (by decide) (by omega) v321 y320 l0 _ _ _ (fun _ => True) (fun _ => False) rfl rfl ?aO ?aR (fun _ _ h => h) (fun _ h => h.elim) ?aF ?aB ?aS ?aL ?_; (case aR => exact cd (Kd.C_below HR0.out HB.out)); (case aB => exact (belowd HB)); (case aF => exact (fun _ _ => trivial)); (case aO => exact (rdl HO322)); (case aS => exact (below_size (belowd HB))); (case aL => have := LMc2.out; omega); intro v324 w5 ho hb hg hat; rw [← Ny323.out] at ho; replace HB := ak (hb); have HO325 := ak (ho); clear HO322; clear ho hb hg hat))
 go_ret
 exact ⟨_, er2, by (with_reducible repeat (first | apply Kd.R_alloc | apply Kd.R_drewN | apply Kd.R_drew)); exact HO325.out, belowd HB⟩

set_option maxHeartbeats 8000000 in
set_option maxRecDepth 100000 in
theorem slices_Clone_int_int.calls (A0 : Option Addr) (c0 : Nat) (l0 : List Int) (r : List Int) (w : World) (hr0 : Kd.C (Kd.int .i64) w A0 l0.length l0) (hc0 : l0.length ≤ c0) (h : slices_Clone_int_int.f l0 = some r) :
  Calls Try.prog 121 #[.slice A0 l0.length c0] w fun e w' => ∃ v0_ : Value, e = .returned (v0_) ∧ Kd.R (Kd.int .i64) 3 w' w.heap.size (fun _ => True) v0_ r ∧ Below w.heap.size w w' := by
 cases A0 with
 | some ad0 => exact slices_Clone_int_int.calls_some ad0 c0 l0 r w hr0 hc0 h
 | none =>
  have hl : l0 = [] := by
   rcases Nat.eq_zero_or_pos l0.length with h0 | h0
   ·exact List.eq_nil_of_length_eq_zero h0
   ·obtain ⟨ad, he, _⟩ := hr0.2.2 h0
    cases he
  subst hl
  have hr : r = [] := by
   have h' := h
   simp [slices_Clone_int_int.f] at h'
   first | exact h'.symm | exact h'
  subst hr; clear h hr0 hc0
  go_enter Try.func121, Try.ntmps121
  go_wp2
  go_ret
  exact ⟨_, rfl, Kd.R_nil _ _ _ _ _, Below.refl _ _⟩

end Go.Proofs.Ytpibdgknmjjolaa.QFnTable
