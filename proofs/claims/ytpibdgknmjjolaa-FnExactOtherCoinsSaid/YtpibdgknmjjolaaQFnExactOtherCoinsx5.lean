-- printed by this session's own program (wip/tools/pp.py: the kit's print.py with changes); Lean checks it
import Derived.Test.YtpibdgknmjjolaaQFnExactOtherCoinsx0
import Derived.Test.YtpibdgknmjjolaaQFnExactOtherCoinsx2
import Derived.Test.YtpibdgknmjjolaaQFnExactOtherCoinsx4
namespace Go.Proofs.Ytpibdgknmjjolaa.QFnExactOtherCoins
open Go.RowKit Go.Proofs.YtpibdgknmjjolaaW.PrintWords Go.Proofs.YtpibdgknmjjolaaW.PrintLast Go.Proofs.YtpibdgknmjjolaaW.PrintMore
attribute [local go_sem] max2_int min2_int max_two min_two max_three min_three max_four min_four strLss strGtr strLeq strGeq   -- for this text's walks alone
set_option linter.unusedVariables false
set_option linter.unusedSimpArgs false

/-! ### spec_OtherCoins: function 55 -/
mutual
def spec_OtherCoins.j0 : Nat → Int → Int → Int → Bool → Int → List (List Int) → List Int → Option (Int × (List (List Int)) × List Int × Bool)
  | 0, _, _, _, _, _, _, _ => none
  | k + 1, x1, x2, x3, x26, x208000, x208001, x208002 => if x26 = true then (some (0, ([] : List (List Int)), ([] : List Int), false)) else ((spec_l15Way.f k x208000 x208001 x208002 x1 x2).bind fun bt211 => (if bt211.2 = true then ((some (([] : List Int) : List Int)).bind fun y215 => (if y215.length + x208002.length < 17592186044416 then (spec_OtherCoins.l0 k x3 bt211.1 (y215 ++ x208002) x208001 (x208001.length : Int) 0 x208000 ([] : List (List Int))) else (none))) else (some (0, ([] : List (List Int)), ([] : List Int), false))))
def spec_OtherCoins.l0 : Nat → Int → List Int → List Int → List (List Int) → Int → Int → Int → List (List Int) → Option (Int × (List (List Int)) × List Int × Bool)
  | 0, _, _, _, _, _, _, _, _ => none
  | k + 1, x3, x10, x43, x46, x47, x48, x222000, x222001 => if x48 < x47 then (if 0 ≤ x48 then (if x48 < (x46.length : Int) then ((some (([] : List Int) : List Int)).bind fun y223 => (if y223.length + (rd_L1 x46 x48).length < 17592186044416 then (if x222001.length < 5864062014805 then (spec_OtherCoins.l0 k x3 x10 x43 x46 x47 (wrap64 (x48 + 1)) x222000 (x222001 ++ [(y223 ++ (rd_L1 x46 x48))])) else (none)) else (none))) else (none)) else (none)) else (spec_OtherCoins.l1 k x3 x10 (x10.length : Int) 0 x222000 x222001 x43)
def spec_OtherCoins.l1 : Nat → Int → List Int → Int → Int → Int → List (List Int) → List Int → Option (Int × (List (List Int)) × List Int × Bool)
  | 0, _, _, _, _, _, _, _ => none
  | k + 1, x3, x61, x62, x63, x222000, x222001, x222002 => if x63 < x62 then (if 0 ≤ x63 then (if x63 < (x61.length : Int) then (if 0 ≤ (rd x61 x63) then (if (rd x61 x63) < (x222002.length : Int) then (spec_OtherCoins.l1 k x3 x61 x62 (wrap64 (x63 + 1)) x222000 x222001 (x222002.set ((rd x61 x63) : Int).toNat (Go.bits .xor .i64 (rd x222002 (rd x61 x63)) x3))) else (none)) else (none)) else (none)) else (none)) else (some (x222000, x222001, x222002, true))
end
def spec_OtherCoins.f (k : Nat) (a0_0 : Int) (l0_1 : List (List Int)) (l0_2 : List Int) (a1 : Int) (a2 : Int) (a3 : Int) : Option (Int × (List (List Int)) × List Int × Bool) := (spec_l15Two.f k a0_0 l0_1 l0_2 a1 a2).bind fun t209 => (if t209 = true then ((spec_l15Byte.f a3).bind fun t210 => (spec_OtherCoins.j0 k a1 a2 a3 (!t210) a0_0 l0_1 l0_2)) else (spec_OtherCoins.j0 k a1 a2 a3 true a0_0 l0_1 l0_2))
theorem spec_OtherCoins.mono_l : ∀ k, (∀ y0 y1 y2 y3 y4 y5 y6, LeO (spec_OtherCoins.j0 k y0 y1 y2 y3 y4 y5 y6) (spec_OtherCoins.j0 (k + 1) y0 y1 y2 y3 y4 y5 y6)) ∧ (∀ y0 y1 y2 y3 y4 y5 y6 y7, LeO (spec_OtherCoins.l0 k y0 y1 y2 y3 y4 y5 y6 y7) (spec_OtherCoins.l0 (k + 1) y0 y1 y2 y3 y4 y5 y6 y7)) ∧ (∀ y0 y1 y2 y3 y4 y5 y6, LeO (spec_OtherCoins.l1 k y0 y1 y2 y3 y4 y5 y6) (spec_OtherCoins.l1 (k + 1) y0 y1 y2 y3 y4 y5 y6))
 | 0 => ⟨fun _ _ _ _ _ _ _ r h => by simp [spec_OtherCoins.j0] at h, fun _ _ _ _ _ _ _ _ r h => by simp [spec_OtherCoins.l0] at h, fun _ _ _ _ _ _ _ r h => by simp [spec_OtherCoins.l1] at h⟩
 | k + 1 => by
  obtain ⟨ih0, ih1, ih2⟩ := spec_OtherCoins.mono_l k
  refine ⟨?_, ?_, ?_⟩
  ·intro y0 y1 y2 y3 y4 y5 y6
   unfold spec_OtherCoins.j0
   repeat' (first | (with_reducible first | exact ih0 _ _ _ _ _ _ _ | exact ih1 _ _ _ _ _ _ _ _ | exact ih2 _ _ _ _ _ _ _ | exact spec_l15Two.mono _ _ _ _ _ _ | exact spec_l15Way.mono _ _ _ _ _ _ | exact LeO.refl _ | exact LeO.none _ | refine LeO.ite ?_ ?_ | refine LeO.bind ?_ (fun _ => ?_)) | exact ih0 _ _ _ _ _ _ _ | exact ih1 _ _ _ _ _ _ _ _ | exact ih2 _ _ _ _ _ _ _ | exact spec_l15Two.mono _ _ _ _ _ _ | exact spec_l15Way.mono _ _ _ _ _ _ | exact LeO.none _ | refine LeO.ite ?_ ?_ | refine LeO.bind ?_ (fun _ => ?_))
  ·intro y0 y1 y2 y3 y4 y5 y6 y7
   unfold spec_OtherCoins.l0
   repeat' (first | (with_reducible first | exact ih0 _ _ _ _ _ _ _ | exact ih1 _ _ _ _ _ _ _ _ | exact ih2 _ _ _ _ _ _ _ | exact spec_l15Two.mono _ _ _ _ _ _ | exact spec_l15Way.mono _ _ _ _ _ _ | exact LeO.refl _ | exact LeO.none _ | refine LeO.ite ?_ ?_ | refine LeO.bind ?_ (fun _ => ?_)) | exact ih0 _ _ _ _ _ _ _ | exact ih1 _ _ _ _ _ _ _ _ | exact ih2 _ _ _ _ _ _ _ | exact spec_l15Two.mono _ _ _ _ _ _ | exact spec_l15Way.mono _ _ _ _ _ _ | exact LeO.none _ | refine LeO.ite ?_ ?_ | refine LeO.bind ?_ (fun _ => ?_))
  ·intro y0 y1 y2 y3 y4 y5 y6
   unfold spec_OtherCoins.l1
   repeat' (first | (with_reducible first | exact ih0 _ _ _ _ _ _ _ | exact ih1 _ _ _ _ _ _ _ _ | exact ih2 _ _ _ _ _ _ _ | exact spec_l15Two.mono _ _ _ _ _ _ | exact spec_l15Way.mono _ _ _ _ _ _ | exact LeO.refl _ | exact LeO.none _ | refine LeO.ite ?_ ?_ | refine LeO.bind ?_ (fun _ => ?_)) | exact ih0 _ _ _ _ _ _ _ | exact ih1 _ _ _ _ _ _ _ _ | exact ih2 _ _ _ _ _ _ _ | exact spec_l15Two.mono _ _ _ _ _ _ | exact spec_l15Way.mono _ _ _ _ _ _ | exact LeO.none _ | refine LeO.ite ?_ ?_ | refine LeO.bind ?_ (fun _ => ?_))
theorem spec_OtherCoins.mono : ∀ a0 a1 a2 a3 a4 a5 k, LeO (spec_OtherCoins.f k a0 a1 a2 a3 a4 a5) (spec_OtherCoins.f (k + 1) a0 a1 a2 a3 a4 a5) := by
 intro a0 a1 a2 a3 a4 a5 k
 obtain ⟨ih0, ih1, ih2⟩ := spec_OtherCoins.mono_l k
 unfold spec_OtherCoins.f
 repeat' (first | (with_reducible first | exact ih0 _ _ _ _ _ _ _ | exact ih1 _ _ _ _ _ _ _ _ | exact ih2 _ _ _ _ _ _ _ | exact spec_l15Two.mono _ _ _ _ _ _ | exact spec_l15Way.mono _ _ _ _ _ _ | exact LeO.refl _ | exact LeO.none _ | refine LeO.ite ?_ ?_ | refine LeO.bind ?_ (fun _ => ?_)) | exact ih0 _ _ _ _ _ _ _ | exact ih1 _ _ _ _ _ _ _ _ | exact ih2 _ _ _ _ _ _ _ | exact spec_l15Two.mono _ _ _ _ _ _ | exact spec_l15Way.mono _ _ _ _ _ _ | exact LeO.none _ | refine LeO.ite ?_ ?_ | refine LeO.bind ?_ (fun _ => ?_))
def spec_OtherCoins.T6 : Bool × List (List Nat × List Nat) := (true, [([], []), ([0], [0]), ([], []), ([], []), ([3], [3]), ([2, 4], [2, 4]), ([1, 5], [1, 5]), ([], []), ([7, 6, 5, 0, 1, 2, 3, 4, 5, 6, 7], [6, 7])])
def spec_OtherCoins.B6 : List Nat := [0, 1, 0, 0, 8, 28, 63, 0, 255]
theorem spec_OtherCoins.tab6 : rtab .any (opsOf Try.f55 6) = spec_OtherCoins.T6 := by kernel_rfl
theorem spec_OtherCoins.bits6 : waitsOk spec_OtherCoins.T6.2 spec_OtherCoins.B6 = true := by kernel_rfl
def spec_OtherCoins.T10 : Bool × List (List Nat × List Nat) := (true, [([], []), ([0], [0]), ([], []), ([], []), ([2, 3], [2, 3]), ([4], [4]), ([1, 5, 4], [1, 5]), ([0, 1, 2, 3, 4, 5, 6], []), ([7, 6, 6, 0, 1, 2, 3, 4, 5, 6], [6, 7])])
def spec_OtherCoins.B10 : List Nat := [0, 1, 0, 0, 12, 28, 63, 127, 255]
theorem spec_OtherCoins.tab10 : rtab .any (opsOf Try.f55 10) = spec_OtherCoins.T10 := by kernel_rfl
theorem spec_OtherCoins.bits10 : waitsOk spec_OtherCoins.T10.2 spec_OtherCoins.B10 = true := by kernel_rfl
set_option maxHeartbeats 8000000 in
set_option maxRecDepth 100000 in
theorem spec_OtherCoins.calls (k : Nat) (a0_0 : Int) (A0_1 : Option Addr) (c0_1 : Nat) (l0_1 : List (List Int)) (A0_2 : Option Addr) (c0_2 : Nat) (l0_2 : List Int) (a1 : Int) (a2 : Int) (a3 : Int) (r1 : Int) (r2 : List (List Int)) (r3 : List Int) (r4 : Bool) (w : World) (hr0_1 : Kd.C (Kd.slice 3 (Kd.int .i64)) w A0_1 l0_1.length l0_1) (hc0_1 : l0_1.length ≤ c0_1) (hr0_2 : Kd.C (Kd.int .i64) w A0_2 l0_2.length l0_2) (hc0_2 : l0_2.length ≤ c0_2) (h : spec_OtherCoins.f k a0_0 l0_1 l0_2 a1 a2 a3 = some (r1, r2, r3, r4)) :
  Calls Try.prog 55 #[.agg #[.int .i64 a0_0, .slice A0_1 l0_1.length c0_1, .slice A0_2 l0_2.length c0_2], .int .i64 a1, .int .i64 a2, .int .i64 a3] w fun e w' => ∃ v1_ v2_ : Value, e = .returned (.tuple #[.agg #[.int .i64 r1, v1_, v2_], .bool r4]) ∧ Kd.S (Kd.slice 3 (Kd.int .i64)) 22 w' w.heap.size (fun k_ => some k_ ≠ (v2_ : Value).ownBlock) v1_ r2 ∧ Kd.R (Kd.int .i64) 3 w' w.heap.size (fun _ => True) v2_ r3 ∧ Below w.heap.size w w' := by
 have hu38 := Try.underlying38
 have HR0_1 := Aside0.mk hr0_1; have HC0_1 := Aside0.mk hc0_1; clear hr0_1 hc0_1; have HR0_2 := Aside0.mk hr0_2; have HC0_2 := Aside0.mk hc0_2; clear hr0_2 hc0_2
 have HB := Aside0.mk (Below.refl w.heap.size w)
 have H : ((spec_l15Two.f k a0_0 l0_1 l0_2 a1 a2).bind fun t209 => (if t209 = true then ((spec_l15Byte.f a3).bind fun t210 => (spec_OtherCoins.j0 k a1 a2 a3 (!t210) a0_0 l0_1 l0_2)) else (spec_OtherCoins.j0 k a1 a2 a3 true a0_0 l0_1 l0_2))) = some (r1, r2, r3, r4) := h
 clear h; have HC5 := Aside0.mk H; clear H
 go_enter Try.func55, Try.ntmps55
 go_upto_region 1 with (first | ((with_reducible refine gate_dst (N := 4) rfl ?_); refine boxev 4 #[.int .i64 a0_0, .slice A0_1 l0_1.length c0_1, .slice A0_2 l0_2.length c0_2] 38 ?_; intro gb207 hg w6 hbox hb; have BK207 := ak (hbox); have GW207 := ak (hgl hg (belowd HB)); have GE207 := ak (hgl hg (belowd HB)); replace HB := ak (below_step (belowd HB) hb); clear hb hbox hg) | ((with_reducible refine gate_dst (N := 8) rfl ?_); refine boxev 8 #[.int .i64 0, .slice none 0 0, .slice none 0 0] 38 ?_; intro gb208 hg w7 hbox hb; have BK208 := ak (hbox); have GW208 := ak (hgl hg (belowg1 HB GE207)); have GE208 := ak (hgl hg (belowg1 HB GE207)); replace HB := ak (below_step (belowg1 HB GE207) hb); have NB207_208 := ak ((by rw [hg]; exact Nat.ne_of_lt (blk_lt (blkd BK207)) : gb207 ≠ gb208)); have NB208_207 := ak ((by rw [hg]; exact Nat.ne_of_gt (blk_lt (blkd BK207)) : gb208 ≠ gb207)); replace BK207 := ak (blk_below (blkd BK207) hb); clear hb hbox hg))
 (try simp only [Act.put, List.setIfInBounds_toArray, List.set_cons_zero, List.set_cons_succ])
 go_cut [26] (fun v26 wc => ∃ (kq : Nat) (x26_4 : Bool), v26 = .bool x26_4 ∧ Aside0 (spec_OtherCoins.j0 kq a1 a2 a3 x26_4 a0_0 l0_1 l0_2 = some (r1, r2, r3, r4)) ∧ Aside0 (kq ≤ k) ∧ Aside0 (wc.heap[gb207]? = some (.cells #[.int .i64 a0_0, (.slice A0_1 l0_1.length c0_1), (.slice A0_2 l0_2.length c0_2)] 38 (0, 0))) ∧ Aside0 (wc.heap[gb208]? = some (.cells #[.int .i64 0, (.slice none 0 0), (.slice none 0 0)] 38 (0, 0))) ∧ Aside0 (Below w.heap.size w wc))
 case first =>
  have H := HC5.out; clear HC5; replace H := bS H; obtain ⟨t209, A8, H⟩ := H
  replace H : (if t209 = true then ((spec_l15Byte.f a3).bind fun t210 => (spec_OtherCoins.j0 k a1 a2 a3 (!t210) a0_0 l0_1 l0_2)) else (spec_OtherCoins.j0 k a1 a2 a3 true a0_0 l0_1 l0_2)) = some (r1, r2, r3, r4) := H
  by_cases c9 : t209 = true
  ·subst c9
   have H1 : ((spec_l15Byte.f a3).bind fun t210 => (spec_OtherCoins.j0 k a1 a2 a3 (!t210) a0_0 l0_1 l0_2)) = some (r1, r2, r3, r4) := by rw [if_pos rfl] at H; exact H
   clear H
   have H := H1
   clear H1; replace H := bS H; obtain ⟨t210, A10, H⟩ := H
   replace H : (spec_OtherCoins.j0 k a1 a2 a3 (!t210) a0_0 l0_1 l0_2) = some (r1, r2, r3, r4) := H
   have H' := Aside0.mk H
   clear H; have hnb11 := NB207_208.out; have hnc11 := NB208_207.out; obtain ⟨hcz12_0, hcz12_1, hcz12_2, hfz12_0, hfz12_1, hfz12_2⟩ := box3 BK207
   go_wp2_with (first | ((with_reducible refine gate_callee (f := 108) rfl ?_); refine goesLa (some 20) rfl Try.func108 #[.agg #[.int .i64 a0_0, .slice A0_1 l0_1.length c0_1, .slice A0_2 l0_2.length c0_2], .int .i64 a1, .int .i64 a2] rfl ?_; (with_reducible refine (spec_l15Two.calls k a0_0 _ _ l0_1 _ _ l0_2 a1 a2 true _ ?side1 ?side2 ?side3 ?side4 A8.out).mono ?_); (case side1 => exact cd (Kd.C_below HR0_1.out HB.out)); (case side2 => exact HC0_1.out); (case side3 => exact cd (Kd.C_below HR0_2.out HB.out)); (case side4 => exact HC0_2.out); rintro e w13 ⟨rfl, hb⟩; refine ⟨_, rfl, ?_⟩; replace BK207 := ak (blk_below (blkd BK207) hb); replace BK208 := ak (blk_below (blkd BK208) hb); replace HB := ak (below_step (belowg2 HB GE207 GE208) hb); (try clear hb)) | (go_at_call 119; (with_reducible refine (spec_l15Byte.calls a3 t210 _ A10.out).mono ?_); rintro e w' ⟨rfl, ⟨nd, rfl⟩⟩))
   go_meet
   case rel => exact ⟨_, (!t210), er, H', ⟨by first | omega | exact Nat.le_refl _⟩, ⟨blkd BK207⟩, ⟨blkd BK208⟩, ⟨belowg2 HB GE207 GE208⟩⟩
  ·replace c9 := Bool.eq_false_iff.mpr c9
   subst c9
   have H1 : (spec_OtherCoins.j0 k a1 a2 a3 true a0_0 l0_1 l0_2) = some (r1, r2, r3, r4) := by rw [if_neg (show ¬ (false = true) by decide)] at H; exact H
   clear H
   have H := H1
   clear H1
   have H' := Aside0.mk H
   clear H; have hnb14 := NB207_208.out; have hnc14 := NB208_207.out; obtain ⟨hcz15_0, hcz15_1, hcz15_2, hfz15_0, hfz15_1, hfz15_2⟩ := box3 BK207
   go_wp2_with (first | ((with_reducible refine gate_callee (f := 108) rfl ?_); refine goesLa (some 20) rfl Try.func108 #[.agg #[.int .i64 a0_0, .slice A0_1 l0_1.length c0_1, .slice A0_2 l0_2.length c0_2], .int .i64 a1, .int .i64 a2] rfl ?_; (with_reducible refine (spec_l15Two.calls k a0_0 _ _ l0_1 _ _ l0_2 a1 a2 false _ ?side1 ?side2 ?side3 ?side4 A8.out).mono ?_); (case side1 => exact cd (Kd.C_below HR0_1.out HB.out)); (case side2 => exact HC0_1.out); (case side3 => exact cd (Kd.C_below HR0_2.out HB.out)); (case side4 => exact HC0_2.out); rintro e w16 ⟨rfl, hb⟩; refine ⟨_, rfl, ?_⟩; replace BK207 := ak (blk_below (blkd BK207) hb); replace BK208 := ak (blk_below (blkd BK208) hb); replace HB := ak (below_step (belowg2 HB GE207 GE208) hb); (try clear hb)))
   go_meet
   case rel => exact ⟨_, (true), er, H', ⟨by first | omega | exact Nat.le_refl _⟩, ⟨blkd BK207⟩, ⟨blkd BK208⟩, ⟨belowg2 HB GE207 GE208⟩⟩
 case rest =>
  clear HC5
  obtain ⟨kq, x26_4, rfl, HA, HJ4, BK207, BK208, HB⟩ := hcut
  cases kq with
  | zero => exact absurd HA.out (by simp [spec_OtherCoins.j0])
  | succ kj4 =>
   have H := HA.out; clear HA
   simp only [spec_OtherCoins.j0] at H
   by_cases c17 : x26_4 = true
   ·subst c17
    have H1 : (some (0, ([] : List (List Int)), ([] : List Int), false)) = some (r1, r2, r3, r4) := by rw [if_pos rfl] at H; exact H
    clear H
    have H := H1
    clear H1
    simp only [Option.some.injEq, Prod.mk.injEq] at H
    obtain ⟨rfl, rfl, rfl, rfl⟩ := H; have hnb18 := NB208_207.out; have hnc18 := NB207_208.out; obtain ⟨hcz19_0, hcz19_1, hcz19_2, hfz19_0, hfz19_1, hfz19_2⟩ := box3 BK208; go_wp2
    refine bodyPost_ret (results_ct rfl _ _ gb208 38 #[.int .i64 0, .slice none 0 0, .slice none 0 0] (0, 0) _ rfl (by (with_reducible repeat (first | refine blk_drewN ?_ _ | refine blk_drew ?_ | refine blk_alloc ?_ _)); refine blk_put (cs := #[.int .i64 0, .slice none 0 0, .slice none 0 0]) ?_ 2 _ rfl; (with_reducible repeat (first | refine blk_drewN ?_ _ | refine blk_drew ?_ | refine blk_alloc ?_ _)); refine blk_put (cs := #[.int .i64 0, .slice none 0 0, .slice none 0 0]) ?_ 1 _ rfl; (with_reducible repeat (first | refine blk_drewN ?_ _ | refine blk_drew ?_ | refine blk_alloc ?_ _)); refine blk_put (cs := #[.int .i64 0, .slice none 0 0, .slice none 0 0]) ?_ 0 _ rfl; (with_reducible repeat (first | refine blk_drewN ?_ _ | refine blk_drew ?_ | refine blk_alloc ?_ _)); exact BK208.out) Try.underlying38 rfl (by kernel_rfl)) rfl ?_
    exact ⟨_, _, er2, by first | exact Kd.S_nil _ _ _ _ _ | exact Kd.N_nil _ _ _ _ _ | exact Kd.V_nil _ _ _ _ _ | exact Kd.Q_nil _ _ _ _ _ | exact Kd.R_nil _ _ _ _ _, by first | exact Kd.R_nil _ _ _ _ _ | exact Kd.N_nil _ _ _ _ _ | exact Kd.V_nil _ _ _ _ _ | exact Kd.Q_nil _ _ _ _ _ | exact Kd.S_nil _ _ _ _ _, belowg2 HB GE207 GE208⟩
   ·replace c17 := Bool.eq_false_iff.mpr c17
    subst c17
    have H1 : ((spec_l15Way.f kj4 a0_0 l0_1 l0_2 a1 a2).bind fun bt211 => (if bt211.2 = true then ((some (([] : List Int) : List Int)).bind fun y215 => (if y215.length + l0_2.length < 17592186044416 then (spec_OtherCoins.l0 kj4 a3 bt211.1 (y215 ++ l0_2) l0_1 (l0_1.length : Int) 0 a0_0 ([] : List (List Int))) else (none))) else (some (0, ([] : List (List Int)), ([] : List Int), false)))) = some (r1, r2, r3, r4) := by rw [if_neg (show ¬ (false = true) by decide)] at H; exact H
    clear H
    have H := H1
    clear H1; replace H := bS H; obtain ⟨⟨t211, t214⟩, A20, H⟩ := H
    replace H : (if t214 = true then ((some (([] : List Int) : List Int)).bind fun y215 => (if y215.length + l0_2.length < 17592186044416 then (spec_OtherCoins.l0 kj4 a3 t211 (y215 ++ l0_2) l0_1 (l0_1.length : Int) 0 a0_0 ([] : List (List Int))) else (none))) else (some (0, ([] : List (List Int)), ([] : List Int), false))) = some (r1, r2, r3, r4) := H
    by_cases c21 : t214 = true
    ·subst c21
     have H1 : ((some (([] : List Int) : List Int)).bind fun y215 => (if y215.length + l0_2.length < 17592186044416 then (spec_OtherCoins.l0 kj4 a3 t211 (y215 ++ l0_2) l0_1 (l0_1.length : Int) 0 a0_0 ([] : List (List Int))) else (none))) = some (r1, r2, r3, r4) := by rw [if_pos rfl] at H; exact H
     clear H
     have H := H1
     clear H1
     obtain ⟨y215, hy_⟩ : ∃ y_ : List Int, y_ = (([] : List Int)) := ⟨_, rfl⟩
     replace H : (if y215.length + l0_2.length < 17592186044416 then (spec_OtherCoins.l0 kj4 a3 t211 (y215 ++ l0_2) l0_1 (l0_1.length : Int) 0 a0_0 ([] : List (List Int))) else (none)) = some (r1, r2, r3, r4) := yH
     have Ny215 := ak hy_; clear hy_; replace H := ifS H; obtain ⟨c22, H⟩ := H; have LMc22 := Aside0.mk c22; clear c22
     obtain ⟨y218, hy_⟩ : ∃ y_ : List Int, y_ = (y215 ++ l0_2) := ⟨_, rfl⟩
     replace H : (spec_OtherCoins.l0 kj4 a3 t211 y218 l0_1 (l0_1.length : Int) 0 a0_0 ([] : List (List Int))) = some (r1, r2, r3, r4) := yH
     have Ny218 := ak hy_; clear hy_
     have H' := Aside0.mk H
     clear H; have hnb23 := NB207_208.out; have hnc23 := NB208_207.out; obtain ⟨hcz24_0, hcz24_1, hcz24_2, hfz24_0, hfz24_1, hfz24_2⟩ := box3 BK207
     try go_wp2_with (first | ((with_reducible refine gate_callee (f := 109) rfl ?_); refine goesLa (some 32) rfl Try.func109 #[.agg #[.int .i64 a0_0, .slice A0_1 l0_1.length c0_1, .slice A0_2 l0_2.length c0_2], .int .i64 a1, .int .i64 a2] rfl ?_; (with_reducible refine (spec_l15Way.calls kj4 a0_0 _ _ l0_1 _ _ l0_2 a1 a2 t211 true _ ?side1 ?side2 ?side3 ?side4 A20.out).mono ?_); (case side1 => exact cd (Kd.C_below HR0_1.out HB.out)); (case side2 => exact HC0_1.out); (case side3 => exact cd (Kd.C_below HR0_2.out HB.out)); (case side4 => exact HC0_2.out); rintro e w25 ⟨v212, rfl, ho0, hb⟩; refine ⟨_, rfl, ?_⟩; have HO213 := ak (Kd.R_lower ho0 (below_size (belowg2 HB GE207 GE208))); replace BK207 := ak (blk_below (blkd BK207) hb); replace BK208 := ak (blk_below (blkd BK208) hb); replace HB := ak (below_step (belowg2 HB GE207 GE208) hb); (try clear hb); (try clear ho0)))
     replace HO213 := ak (Kd.R_drew HO213.out)
     replace BK207 := ak (blk_drew BK207.out)
     replace BK208 := ak (blk_drew BK208.out)
     replace HB := ak (below_drew1 HB.out)
     refine start_ (n := 9) (S := fun w' => w'.cell? ⟨gb207, 0, none⟩ = some (.int .i64 a0_0) ∧ w'.cell? ⟨gb207, 1, none⟩ = some (.slice A0_1 l0_1.length c0_1) ∧ w'.cell? ⟨gb207, 2, none⟩ = some (.slice A0_2 l0_2.length c0_2)) (ds := []) (bl 9 0) (by kernel_rfl) rfl rfl ⟨bq BK207 0, bq BK207 1, bq BK207 2⟩ (fun hHeld => ?_); refine with_tabW spec_OtherCoins.tab6 spec_OtherCoins.bits6 (fun HT_ HW_ => ?_)
     generalize w25.drew = w26 at HO213 BK207 BK208 HB hHeld ⊢
     refine pureA 0 (some 38) 9 1 HT_ ?_
     refine pureA 3 (some 41) 9 9 HT_ ?_
     refine takeA 1 (some 39) 9 11 HT_ HW_ hHeld ?_ (hy := by rintro w' ⟨s0, s1, s2⟩; go_simp; with_reducible rfl)
     refine takeA 4 (some 42) 9 27 HT_ HW_ hHeld ?_ (hy := by rintro w' ⟨s0, s1, s2⟩; go_simp; with_reducible rfl)
     refine join_ (σ := Value × Value × Nat) 1 (bl 9 255) (fun s_ => [(40, s_.1), (43, s_.2.1), (12, .pointer (some ⟨s_.2.2, 0, none⟩)), (44, .agg #[.int .i64 a0_0, .slice none 0 0, s_.2.1])]) (fun s_ w' => (w'.cell? ⟨gb207, 0, none⟩ = some (.int .i64 a0_0) ∧ w'.cell? ⟨gb207, 1, none⟩ = some (.slice A0_1 l0_1.length c0_1) ∧ w'.cell? ⟨gb207, 2, none⟩ = some (.slice A0_2 l0_2.length c0_2)) ∧ (Kd.R (Kd.int .i64) 3 w' w.heap.size (fun k_ => some k_ ≠ (s_.2.1 : Value).ownBlock) v212 t211) ∧ (Kd.R (Kd.int .i64) 3 w' w.heap.size (fun k_ => some k_ ≠ (v212 : Value).ownBlock) s_.2.1 y218) ∧ (w'.heap[gb207]? = some (.cells #[.int .i64 a0_0, .slice A0_1 l0_1.length c0_1, .slice A0_2 l0_2.length c0_2] 38 (0, 0))) ∧ (w'.heap[gb208]? = some (.cells #[.int .i64 0, .slice none 0 0, .slice none 0 0] 38 (0, 0))) ∧ (w'.heap[s_.2.2]? = some (.cells #[.int .i64 0, .slice none 0 0, .slice none 0 0] 38 (0, 0))) ∧ (w.heap.size ≤ s_.2.2) ∧ (w.heap.size ≤ s_.2.2) ∧ (gb207 ≠ s_.2.2) ∧ (s_.2.2 ≠ gb207) ∧ (gb208 ≠ s_.2.2) ∧ (s_.2.2 ≠ gb208) ∧ (Below w.heap.size w w')) ?_ ?_
     rotate_left
     ·intro hCont
      refine two_ (i := 2) (j := 7) (Ni := some 40) (Nj := some 12) (bl 9 31) (bl 9 155) rfl rfl rfl rfl (two_of HT_.out (by kernel_rfl)) (by decide) (by decide) (fun K hK => ?_) (fun K hK => ?_)
      ·skip
       refine Kd.R_lit_step (Kd.int .i64) _ 3 ?hg (N := 40) ?hd (xs := ([] : List Int)) (inner := []) (ok := fun _ => True) (okp := fun _ => True) ?hr ?hp (fun _ hk => hk) trivial (Below.refl _ _) (Nat.le_refl _) (by simp) ?_; (case hd => rfl); (case hg => rfl); (case hr => first | (go_simp; done) | (go_simp; rfl)); (case hp => exact (Reps.none _ _))
       intro v216 w27 ho28 hb hg_ hnew_
       clear hg_ hnew_
       (first | rw [← Ny215.out] at ho28 | (simp only [Int.reduceToNat] at ho28; rw [← Ny215.out] at ho28))
       have HO217 := ak (Kd.R_lower (Kd.R_new' ho28 (Kd.R_lt (rdl HO213))) (below_size (belowg2 HB GE207 GE208)))
       replace HO213 := ak (Kd.R_elder' (rdl HO213) (Kd.R_base ho28) hb)
       replace BK207 := ak (blk_below (blkd BK207) hb)
       replace BK208 := ak (blk_below (blkd BK208) hb)
       replace HB := ak (below_step (belowg2 HB GE207 GE208) hb)
       clear hb ho28
       refine hK.out _ _ ⟨bq BK207 0, bq BK207 1, bq BK207 2⟩ (fun hHeld => ?_)
       clear hK K
       refine norm_ (a' := ?_) ?_ ?_
       rotate_left
       ·show Act.put _ (some 40) _ = _
        simp only [Act.put, List.setIfInBounds_toArray, List.set_cons_zero, List.set_cons_succ, i64_w, i32_w]
        rfl
       refine two_ (i := 5) (j := 7) (Ni := some 43) (Nj := some 12) (bl 9 63) (bl 9 159) rfl rfl rfl rfl (two_of HT_.out (by kernel_rfl)) (by decide) (by decide) (fun K hK => ?_) (fun K hK => ?_)
       ·skip
        refine Kd.R_append_rows_step (Kd.int .i64) (w0 := w) w.heap.size (by rfl) (.tmp 40) (.tmp 42) 22 3 (.int .i64 0) 8 rfl Try.underlying22 info3 rfl (by decide) (by omega) v216 y215 l0_2 _ _ _ (fun k_ => some k_ ≠ (v212 : Value).ownBlock) (fun _ => False) rfl rfl ?aO ?aR (fun _ _ h => h) (fun _ h => h.elim) ?aF ?aB ?aS ?aL ?_
        (case aR => exact cd (Kd.C_below HR0_2.out HB.out))
        (case aB => exact (belowg2 HB GE207 GE208))
        (case aF => exact (fun k_ hk => Kd.fresh' (Kd.R_lt (rdl HO213)) k_ hk))
        (case aO => exact (by (with_reducible repeat (first | apply Kd.R_alloc | apply Kd.R_drewN | apply Kd.R_drew)); exact Kd.R_mono HO217.out (fun _ hk => hk.2)))
        (case aS => exact (below_size (belowg2 HB GE207 GE208)))
        (case aL => have := LMc22.out; omega)
        intro v219 w29 ho hb hg hat
        rw [← Ny218.out] at ho
        replace BK207 := ak (blk_grown (blkd BK207) hg (Kd.R_ne HO217.out BK207.out (by decide)))
        replace BK208 := ak (blk_grown (blkd BK208) hg (Kd.R_ne HO217.out BK208.out (by decide)))
        replace HO213 := ak (Kd.R_after (ok := (fun _ => True)) (rdl HO213) hg hat)
        replace HB := ak (hb)
        have HO220 := ak (ho); clear HO217; clear ho hb hg hat
        obtain ⟨Ao30, co30, eo30⟩ := Kd.R_slice HO220.out
        (first | subst eo30 | (injection eo30 with f1_ f2_ f3_; have f4_ := f1_.symm; have f5_ := f3_.symm; clear f1_ f2_ f3_; subst f4_; subst f5_))
        refine hK.out _ _ ⟨bq BK207 0, bq BK207 1, bq BK207 2⟩ (fun hHeld => ?_)
        clear hK K
        refine norm_ (a' := ?_) ?_ ?_
        rotate_left
        ·show Act.put _ (some 43) _ = _
         simp only [Act.put, List.setIfInBounds_toArray, List.set_cons_zero, List.set_cons_succ, i64_w, i32_w]
         rfl
        refine pureA 6 (some 44) 9 127 HT_ ?_
        refine oneA 7 (some 12) 9 255 HT_ (fun K hK => ?_)
        refine box_step ?hg (N := 12) ?hd (cs := #[.int .i64 0, .slice none 0 0, .slice none 0 0]) (t := 38) ?hr ?_; (case hd => rfl); (case hg => rfl); (case hr => first | (go_simp; done) | (go_simp; rfl))
        intro gb221 hg w31 hbox hb
        replace HO213 := ak (Kd.R_below (rdl HO213) hb)
        replace HO220 := ak (Kd.R_below (rdl HO220) hb)
        have BK221 := ak (hbox)
        have GW221 := ak (hgl hg (belowg2 HB GE207 GE208))
        have GE221 := ak (hgl hg (belowg2 HB GE207 GE208))
        replace HB := ak (below_step (belowg2 HB GE207 GE208) hb)
        have NB207_221 := ak ((by rw [hg]; exact Nat.ne_of_lt (blk_lt (blkd BK207)) : gb207 ≠ gb221))
        have NB221_207 := ak ((by rw [hg]; exact Nat.ne_of_gt (blk_lt (blkd BK207)) : gb221 ≠ gb207))
        replace BK207 := ak (blk_below (blkd BK207) hb)
        have NB208_221 := ak ((by rw [hg]; exact Nat.ne_of_lt (blk_lt (blkd BK208)) : gb208 ≠ gb221))
        have NB221_208 := ak ((by rw [hg]; exact Nat.ne_of_gt (blk_lt (blkd BK208)) : gb221 ≠ gb208))
        replace BK208 := ak (blk_below (blkd BK208) hb)
        clear hb hbox hg
        refine hK.out _ _ ⟨bq BK207 0, bq BK207 1, bq BK207 2⟩ (fun hHeld => ?_)
        clear hK K
        refine norm_ (a' := ?_) ?_ ?_
        rotate_left
        ·show Act.put _ (some 12) _ = _
         simp only [Act.put, List.setIfInBounds_toArray, List.set_cons_zero, List.set_cons_succ, i64_w, i32_w]
         rfl
        exact norm_ (by simp only [putAll, Act.put, List.setIfInBounds_toArray, List.set_cons_zero, List.set_cons_succ]) (hCont (v216, .slice Ao30 y218.length co30, gb221) _ ⟨hHeld, (by (with_reducible repeat (first | apply Kd.R_alloc | apply Kd.R_drewN | apply Kd.R_drew)); exact Kd.R_mono HO213.out (fun _ hk => hk.2)), (rdl HO220), (blkd BK207), (blkd BK208), (blkd BK221), GW221.out, GE221.out, NB207_221.out, NB221_207.out, NB208_221.out, NB221_208.out, (belowg3 HB GE207 GE208 GE221)⟩)
       ·skip
        refine box_step ?hg (N := 12) ?hd (cs := #[.int .i64 0, .slice none 0 0, .slice none 0 0]) (t := 38) ?hr ?_; (case hd => rfl); (case hg => rfl); (case hr => first | (go_simp; done) | (go_simp; rfl))
        intro gb221 hg w29 hbox hb
        replace HO213 := ak (Kd.R_below (rdl HO213) hb)
        replace HO217 := ak (Kd.R_below (rdl HO217) hb)
        have BK221 := ak (hbox)
        have GW221 := ak (hgl hg (belowg2 HB GE207 GE208))
        have GE221 := ak (hgl hg (belowg2 HB GE207 GE208))
        replace HB := ak (below_step (belowg2 HB GE207 GE208) hb)
        have NB207_221 := ak ((by rw [hg]; exact Nat.ne_of_lt (blk_lt (blkd BK207)) : gb207 ≠ gb221))
        have NB221_207 := ak ((by rw [hg]; exact Nat.ne_of_gt (blk_lt (blkd BK207)) : gb221 ≠ gb207))
        replace BK207 := ak (blk_below (blkd BK207) hb)
        have NB208_221 := ak ((by rw [hg]; exact Nat.ne_of_lt (blk_lt (blkd BK208)) : gb208 ≠ gb221))
        have NB221_208 := ak ((by rw [hg]; exact Nat.ne_of_gt (blk_lt (blkd BK208)) : gb221 ≠ gb208))
        replace BK208 := ak (blk_below (blkd BK208) hb)
        clear hb hbox hg
        refine hK.out _ _ ⟨bq BK207 0, bq BK207 1, bq BK207 2⟩ (fun hHeld => ?_)
        clear hK K
        refine norm_ (a' := ?_) ?_ ?_
        rotate_left
        ·show Act.put _ (some 12) _ = _
         simp only [Act.put, List.setIfInBounds_toArray, List.set_cons_zero, List.set_cons_succ, i64_w, i32_w]
         rfl
        refine oneA 5 (some 43) 9 191 HT_ (fun K hK => ?_)
        refine Kd.R_append_rows_step (Kd.int .i64) (w0 := w) w.heap.size (by rfl) (.tmp 40) (.tmp 42) 22 3 (.int .i64 0) 8 rfl Try.underlying22 info3 rfl (by decide) (by omega) v216 y215 l0_2 _ _ _ (fun k_ => some k_ ≠ (v212 : Value).ownBlock) (fun _ => False) rfl rfl ?aO ?aR (fun _ _ h => h) (fun _ h => h.elim) ?aF ?aB ?aS ?aL ?_
        (case aR => exact cd (Kd.C_below HR0_2.out HB.out))
        (case aB => exact (belowg3 HB GE207 GE208 GE221))
        (case aF => exact (fun k_ hk => Kd.fresh' (Kd.R_lt (rdl HO213)) k_ hk))
        (case aO => exact (by (with_reducible repeat (first | apply Kd.R_alloc | apply Kd.R_drewN | apply Kd.R_drew)); exact Kd.R_mono HO217.out (fun _ hk => hk.2)))
        (case aS => exact (below_size (belowg3 HB GE207 GE208 GE221)))
        (case aL => have := LMc22.out; omega)
        intro v219 w30 ho hb hg hat
        rw [← Ny218.out] at ho
        replace BK207 := ak (blk_grown (blkd BK207) hg (Kd.R_ne HO217.out BK207.out (by decide)))
        replace BK208 := ak (blk_grown (blkd BK208) hg (Kd.R_ne HO217.out BK208.out (by decide)))
        replace HO213 := ak (Kd.R_after (ok := (fun _ => True)) (rdl HO213) hg hat)
        replace BK221 := ak (blk_grown (blkd BK221) hg (Kd.R_ne HO217.out BK221.out (by decide)))
        replace HB := ak (hb)
        have HO220 := ak (ho); clear HO217; clear ho hb hg hat
        obtain ⟨Ao31, co31, eo31⟩ := Kd.R_slice HO220.out
        (first | subst eo31 | (injection eo31 with f1_ f2_ f3_; have f4_ := f1_.symm; have f5_ := f3_.symm; clear f1_ f2_ f3_; subst f4_; subst f5_))
        refine hK.out _ _ ⟨bq BK207 0, bq BK207 1, bq BK207 2⟩ (fun hHeld => ?_)
        clear hK K
        refine norm_ (a' := ?_) ?_ ?_
        rotate_left
        ·show Act.put _ (some 43) _ = _
         simp only [Act.put, List.setIfInBounds_toArray, List.set_cons_zero, List.set_cons_succ, i64_w, i32_w]
         rfl
        refine pureA 6 (some 44) 9 255 HT_ ?_
        exact norm_ (by simp only [putAll, Act.put, List.setIfInBounds_toArray, List.set_cons_zero, List.set_cons_succ]) (hCont (v216, .slice Ao31 y218.length co31, gb221) _ ⟨hHeld, (by (with_reducible repeat (first | apply Kd.R_alloc | apply Kd.R_drewN | apply Kd.R_drew)); exact Kd.R_mono HO213.out (fun _ hk => hk.2)), (rdl HO220), (blkd BK207), (blkd BK208), (blkd BK221), GW221.out, GE221.out, NB207_221.out, NB221_207.out, NB208_221.out, NB221_208.out, (belowg3 HB GE207 GE208 GE221)⟩)
      ·skip
       refine box_step ?hg (N := 12) ?hd (cs := #[.int .i64 0, .slice none 0 0, .slice none 0 0]) (t := 38) ?hr ?_; (case hd => rfl); (case hg => rfl); (case hr => first | (go_simp; done) | (go_simp; rfl))
       intro gb221 hg w27 hbox hb
       replace HO213 := ak (Kd.R_below (rdl HO213) hb)
       have BK221 := ak (hbox)
       have GW221 := ak (hgl hg (belowg2 HB GE207 GE208))
       have GE221 := ak (hgl hg (belowg2 HB GE207 GE208))
       replace HB := ak (below_step (belowg2 HB GE207 GE208) hb)
       have NB207_221 := ak ((by rw [hg]; exact Nat.ne_of_lt (blk_lt (blkd BK207)) : gb207 ≠ gb221))
       have NB221_207 := ak ((by rw [hg]; exact Nat.ne_of_gt (blk_lt (blkd BK207)) : gb221 ≠ gb207))
       replace BK207 := ak (blk_below (blkd BK207) hb)
       have NB208_221 := ak ((by rw [hg]; exact Nat.ne_of_lt (blk_lt (blkd BK208)) : gb208 ≠ gb221))
       have NB221_208 := ak ((by rw [hg]; exact Nat.ne_of_gt (blk_lt (blkd BK208)) : gb221 ≠ gb208))
       replace BK208 := ak (blk_below (blkd BK208) hb)
       clear hb hbox hg
       refine hK.out _ _ ⟨bq BK207 0, bq BK207 1, bq BK207 2⟩ (fun hHeld => ?_)
       clear hK K
       refine norm_ (a' := ?_) ?_ ?_
       rotate_left
       ·show Act.put _ (some 12) _ = _
        simp only [Act.put, List.setIfInBounds_toArray, List.set_cons_zero, List.set_cons_succ, i64_w, i32_w]
        rfl
       refine oneA 2 (some 40) 9 159 HT_ (fun K hK => ?_)
       refine Kd.R_lit_step (Kd.int .i64) _ 3 ?hg (N := 40) ?hd (xs := ([] : List Int)) (inner := []) (ok := fun _ => True) (okp := fun _ => True) ?hr ?hp (fun _ hk => hk) trivial (Below.refl _ _) (Nat.le_refl _) (by simp) ?_; (case hd => rfl); (case hg => rfl); (case hr => first | (go_simp; done) | (go_simp; rfl)); (case hp => exact (Reps.none _ _))
       intro v216 w28 ho29 hb hg_ hnew_
       clear hg_ hnew_
       (first | rw [← Ny215.out] at ho29 | (simp only [Int.reduceToNat] at ho29; rw [← Ny215.out] at ho29))
       have HO217 := ak (Kd.R_lower (Kd.R_new' ho29 (Kd.R_lt (rdl HO213))) (below_size (belowg3 HB GE207 GE208 GE221)))
       replace HO213 := ak (Kd.R_elder' (rdl HO213) (Kd.R_base ho29) hb)
       replace BK207 := ak (blk_below (blkd BK207) hb)
       replace BK208 := ak (blk_below (blkd BK208) hb)
       replace BK221 := ak (blk_below (blkd BK221) hb)
       replace HB := ak (below_step (belowg3 HB GE207 GE208 GE221) hb)
       clear hb ho29
       refine hK.out _ _ ⟨bq BK207 0, bq BK207 1, bq BK207 2⟩ (fun hHeld => ?_)
       clear hK K
       refine norm_ (a' := ?_) ?_ ?_
       rotate_left
       ·show Act.put _ (some 40) _ = _
        simp only [Act.put, List.setIfInBounds_toArray, List.set_cons_zero, List.set_cons_succ, i64_w, i32_w]
        rfl
       refine oneA 5 (some 43) 9 191 HT_ (fun K hK => ?_)
       refine Kd.R_append_rows_step (Kd.int .i64) (w0 := w) w.heap.size (by rfl) (.tmp 40) (.tmp 42) 22 3 (.int .i64 0) 8 rfl Try.underlying22 info3 rfl (by decide) (by omega) v216 y215 l0_2 _ _ _ (fun k_ => some k_ ≠ (v212 : Value).ownBlock) (fun _ => False) rfl rfl ?aO ?aR (fun _ _ h => h) (fun _ h => h.elim) ?aF ?aB ?aS ?aL ?_
       (case aR => exact cd (Kd.C_below HR0_2.out HB.out))
       (case aB => exact (belowg3 HB GE207 GE208 GE221))
       (case aF => exact (fun k_ hk => Kd.fresh' (Kd.R_lt (rdl HO213)) k_ hk))
       (case aO => exact (by (with_reducible repeat (first | apply Kd.R_alloc | apply Kd.R_drewN | apply Kd.R_drew)); exact Kd.R_mono HO217.out (fun _ hk => hk.2)))
       (case aS => exact (below_size (belowg3 HB GE207 GE208 GE221)))
       (case aL => have := LMc22.out; omega)
       intro v219 w30 ho hb hg hat
       rw [← Ny218.out] at ho
       replace BK207 := ak (blk_grown (blkd BK207) hg (Kd.R_ne HO217.out BK207.out (by decide)))
       replace BK208 := ak (blk_grown (blkd BK208) hg (Kd.R_ne HO217.out BK208.out (by decide)))
       replace HO213 := ak (Kd.R_after (ok := (fun _ => True)) (rdl HO213) hg hat)
       replace BK221 := ak (blk_grown (blkd BK221) hg (Kd.R_ne HO217.out BK221.out (by decide)))
       replace HB := ak (hb)
       have HO220 := ak (ho); clear HO217; clear ho hb hg hat
       obtain ⟨Ao31, co31, eo31⟩ := Kd.R_slice HO220.out
       (first | subst eo31 | (injection eo31 with f1_ f2_ f3_; have f4_ := f1_.symm; have f5_ := f3_.symm; clear f1_ f2_ f3_; subst f4_; subst f5_))
       refine hK.out _ _ ⟨bq BK207 0, bq BK207 1, bq BK207 2⟩ (fun hHeld => ?_)
       clear hK K
       refine norm_ (a' := ?_) ?_ ?_
       rotate_left
       ·show Act.put _ (some 43) _ = _
        simp only [Act.put, List.setIfInBounds_toArray, List.set_cons_zero, List.set_cons_succ, i64_w, i32_w]
        rfl
       refine pureA 6 (some 44) 9 255 HT_ ?_
       exact norm_ (by simp only [putAll, Act.put, List.setIfInBounds_toArray, List.set_cons_zero, List.set_cons_succ]) (hCont (v216, .slice Ao31 y218.length co31, gb221) _ ⟨hHeld, (by (with_reducible repeat (first | apply Kd.R_alloc | apply Kd.R_drewN | apply Kd.R_drew)); exact Kd.R_mono HO213.out (fun _ hk => hk.2)), (rdl HO220), (blkd BK207), (blkd BK208), (blkd BK221), GW221.out, GE221.out, NB207_221.out, NB221_207.out, NB208_221.out, NB221_208.out, (belowg3 HB GE207 GE208 GE221)⟩)
     rintro ⟨v216, v219, gb221⟩ w32 ⟨hS_, h0_, h1_, h2_, h3_, h4_, h5_, h6_, h7_, h8_, h9_, h10_, h11_⟩
     have n0_ : Aside0 (Kd.R (Kd.int .i64) 3 w32 w.heap.size (fun k_ => some k_ ≠ (v219 : Value).ownBlock) v212 t211) := ⟨h0_⟩
     have n1_ : Aside0 (Kd.R (Kd.int .i64) 3 w32 w.heap.size (fun k_ => some k_ ≠ (v212 : Value).ownBlock) v219 y218) := ⟨h1_⟩
     have n2_ : Aside0 (w32.heap[gb207]? = some (.cells #[.int .i64 a0_0, .slice A0_1 l0_1.length c0_1, .slice A0_2 l0_2.length c0_2] 38 (0, 0))) := ⟨h2_⟩
     have n3_ : Aside0 (w32.heap[gb208]? = some (.cells #[.int .i64 0, .slice none 0 0, .slice none 0 0] 38 (0, 0))) := ⟨h3_⟩
     have n4_ : Aside0 (w32.heap[gb221]? = some (.cells #[.int .i64 0, .slice none 0 0, .slice none 0 0] 38 (0, 0))) := ⟨h4_⟩
     have n5_ : Aside0 (w.heap.size ≤ gb221) := ⟨h5_⟩
     have n6_ : Aside0 (w.heap.size ≤ gb221) := ⟨h6_⟩
     have n7_ : Aside0 (gb207 ≠ gb221) := ⟨h7_⟩
     have n8_ : Aside0 (gb221 ≠ gb207) := ⟨h8_⟩
     have n9_ : Aside0 (gb208 ≠ gb221) := ⟨h9_⟩
     have n10_ : Aside0 (gb221 ≠ gb208) := ⟨h10_⟩
     have n11_ : Aside0 (Below w.heap.size w w32) := ⟨h11_⟩
     clear HO213; clear BK207; clear BK208; clear HB; clear h0_ h1_ h2_ h3_ h4_ h5_ h6_ h7_ h8_ h9_ h10_ h11_
     have HO213 := n0_
     have HO220 := n1_
     have BK207 := n2_
     have BK208 := n3_
     have BK221 := n4_
     have GW221 := n5_
     have GE221 := n6_
     have NB207_221 := n7_
     have NB221_207 := n8_
     have NB208_221 := n9_
     have NB221_208 := n10_
     have HB := n11_
     clear n0_ n1_ n2_ n3_ n4_ n5_ n6_ n7_ n8_ n9_ n10_ n11_
     have hHeld : w32.cell? ⟨gb207, 0, none⟩ = some (.int .i64 a0_0) ∧ w32.cell? ⟨gb207, 1, none⟩ = some (.slice A0_1 l0_1.length c0_1) ∧ w32.cell? ⟨gb207, 2, none⟩ = some (.slice A0_2 l0_2.length c0_2) := hS_
     obtain ⟨Ao33, co33, eo33⟩ := Kd.R_slice HO220.out
     (first | subst eo33 | (injection eo33 with f1_ f2_ f3_; have f4_ := f1_.symm; have f5_ := f3_.symm; clear f1_ f2_ f3_; subst f4_; subst f5_))
     refine norm_ (a' := ?_) ?_ ?_
     rotate_left
     ·simp only [putAll, Act.put, List.setIfInBounds_toArray, List.set_cons_zero, List.set_cons_succ]
      rfl
     refine oneA 8 none 9 511 HT_ (fun K hK => ?_)
     have hs34 : w32.cell? ⟨gb221, 0, none⟩ = some (.int .i64 0) := bq BK221 0
     have hfs34 := blk_frozen BK221.out 0
     have hns34_0 := NB207_221.out; have hns34_1 := NB208_221.out; have hms34_0 := NB221_207.out; have hms34_1 := NB221_208.out
     have hs35 : w32.cell? ⟨gb221, 1, none⟩ = some (.slice none 0 0) := bq BK221 1
     have hfs35 := blk_frozen BK221.out 1
     have hns35_0 := NB207_221.out; have hns35_1 := NB208_221.out; have hms35_0 := NB221_207.out; have hms35_1 := NB221_208.out
     have hs36 : w32.cell? ⟨gb221, 2, none⟩ = some (.slice none 0 0) := bq BK221 2
     have hfs36 := blk_frozen BK221.out 2
     have hns36_0 := NB207_221.out; have hns36_1 := NB208_221.out; have hms36_0 := NB221_207.out; have hms36_1 := NB221_208.out
     refine skip_ (w1 := ?_) (by rfl) rfl ?_ ?_
     rotate_left
     ·go_simp
      rfl
     refine hK.out _ _ ⟨((cell_far (p := ⟨gb221, _, none⟩) NB207_221.out _).trans (((cell_far (p := ⟨gb221, _, none⟩) NB207_221.out _).trans (((cell_far (p := ⟨gb221, _, none⟩) NB207_221.out _).trans (hHeld.1)))))), ((cell_far (p := ⟨gb221, _, none⟩) NB207_221.out _).trans (((cell_far (p := ⟨gb221, _, none⟩) NB207_221.out _).trans (((cell_far (p := ⟨gb221, _, none⟩) NB207_221.out _).trans (hHeld.2.1)))))), ((cell_far (p := ⟨gb221, _, none⟩) NB207_221.out _).trans (((cell_far (p := ⟨gb221, _, none⟩) NB207_221.out _).trans (((cell_far (p := ⟨gb221, _, none⟩) NB207_221.out _).trans (hHeld.2.2))))))⟩ (fun hHeld => ?_)
     clear hK K
     refine done_ (done_of HT_.out (by kernel_rfl)) ?_
     have hnb37 := NB207_221.out; have hnc37 := NB221_207.out; obtain ⟨hcz38_0, hcz38_1, hcz38_2, hfz38_0, hfz38_1, hfz38_2⟩ := box3 BK207
     try go_wp2
     go_loopg [48] kj4 (fun kq v48 w' => ∃ (x48_2 : Int) (x222001_2 : List (List Int)) (u222001 : Value), v48 = .int .i64 x48_2 ∧ Aside0 (spec_OtherCoins.l0 kq a3 t211 y218 l0_1 (l0_1.length : Int) x48_2 a0_0 x222001_2 = some (r1, r2, r3, r4)) ∧ Aside0 (kq ≤ kj4) ∧ Aside0 (Kd.R (Kd.int .i64) 3 w' w.heap.size (fun k_ => some k_ ≠ ((.slice Ao33 y218.length co33) : Value).ownBlock) v212 t211) ∧ Aside0 (Kd.R (Kd.int .i64) 3 w' w.heap.size (fun k_ => some k_ ≠ (v212 : Value).ownBlock) (.slice Ao33 y218.length co33) y218) ∧ Aside0 (Kd.S (Kd.slice 3 (Kd.int .i64)) 22 w' w.heap.size (fun k_ => some k_ ≠ (v212 : Value).ownBlock ∧ some k_ ≠ ((.slice Ao33 y218.length co33) : Value).ownBlock) u222001 x222001_2) ∧ Aside0 (w'.heap[gb207]? = some (.cells #[.int .i64 a0_0, (.slice A0_1 l0_1.length c0_1), (.slice A0_2 l0_2.length c0_2)] 38 (0, 0))) ∧ Aside0 (w'.heap[gb208]? = some (.cells #[.int .i64 0, (.slice none 0 0), (.slice none 0 0)] 38 (0, 0))) ∧ Aside0 (w'.heap[gb221]? = some (.cells #[.int .i64 a0_0, u222001, (.slice Ao33 y218.length co33)] 38 (0, 0))) ∧ Aside0 (Below w.heap.size w w'))
     case atStart => exact ⟨(0), (([] : List (List Int))), (.slice none 0 0), er, H', ⟨Nat.le_refl _⟩, ⟨by (with_reducible repeat (first | apply Kd.R_alloc | apply Kd.R_drewN | apply Kd.R_drew)); exact Kd.R_mono (Kd.R_far (p := ⟨gb221, 2, none⟩) (Kd.R_far (p := ⟨gb221, 1, none⟩) (Kd.R_far (p := ⟨gb221, 0, none⟩) (Kd.R_types HO213.out BK221.out (by decide)) (fun _ hk => hk.2) (.int .i64 a0_0)) (fun _ hk => hk.2) (.slice none 0 0)) (fun _ hk => hk.2) (.slice Ao33 y218.length co33)) (fun _ hk => hk.1)⟩, ⟨by (with_reducible repeat (first | apply Kd.R_alloc | apply Kd.R_drewN | apply Kd.R_drew)); exact Kd.R_mono (Kd.R_far (p := ⟨gb221, 2, none⟩) (Kd.R_far (p := ⟨gb221, 1, none⟩) (Kd.R_far (p := ⟨gb221, 0, none⟩) (Kd.R_types HO220.out BK221.out (by decide)) (fun _ hk => hk.2) (.int .i64 a0_0)) (fun _ hk => hk.2) (.slice none 0 0)) (fun _ hk => hk.2) (.slice Ao33 y218.length co33)) (fun _ hk => hk.1)⟩, ⟨by first | exact Kd.S_nil _ _ _ _ _ | exact Kd.N_nil _ _ _ _ _ | exact Kd.V_nil _ _ _ _ _ | exact Kd.Q_nil _ _ _ _ _ | exact Kd.R_nil _ _ _ _ _⟩, ⟨by (with_reducible repeat (first | refine blk_drewN ?_ _ | refine blk_drew ?_ | refine blk_alloc ?_ _)); refine blk_far ?_ NB207_221.out _; (with_reducible repeat (first | refine blk_drewN ?_ _ | refine blk_drew ?_ | refine blk_alloc ?_ _)); refine blk_far ?_ NB207_221.out _; (with_reducible repeat (first | refine blk_drewN ?_ _ | refine blk_drew ?_ | refine blk_alloc ?_ _)); refine blk_far ?_ NB207_221.out _; (with_reducible repeat (first | refine blk_drewN ?_ _ | refine blk_drew ?_ | refine blk_alloc ?_ _)); exact BK207.out⟩, ⟨by (with_reducible repeat (first | refine blk_drewN ?_ _ | refine blk_drew ?_ | refine blk_alloc ?_ _)); refine blk_far ?_ NB208_221.out _; (with_reducible repeat (first | refine blk_drewN ?_ _ | refine blk_drew ?_ | refine blk_alloc ?_ _)); refine blk_far ?_ NB208_221.out _; (with_reducible repeat (first | refine blk_drewN ?_ _ | refine blk_drew ?_ | refine blk_alloc ?_ _)); refine blk_far ?_ NB208_221.out _; (with_reducible repeat (first | refine blk_drewN ?_ _ | refine blk_drew ?_ | refine blk_alloc ?_ _)); exact BK208.out⟩, ⟨by (with_reducible repeat (first | refine blk_drewN ?_ _ | refine blk_drew ?_ | refine blk_alloc ?_ _)); refine blk_put (cs := #[.int .i64 a0_0, .slice none 0 0, .slice none 0 0]) ?_ 2 _ rfl; (with_reducible repeat (first | refine blk_drewN ?_ _ | refine blk_drew ?_ | refine blk_alloc ?_ _)); refine blk_put (cs := #[.int .i64 a0_0, .slice none 0 0, .slice none 0 0]) ?_ 1 _ rfl; (with_reducible repeat (first | refine blk_drewN ?_ _ | refine blk_drew ?_ | refine blk_alloc ?_ _)); refine blk_put (cs := #[.int .i64 0, .slice none 0 0, .slice none 0 0]) ?_ 0 _ rfl; (with_reducible repeat (first | refine blk_drewN ?_ _ | refine blk_drew ?_ | refine blk_alloc ?_ _)); exact BK221.out⟩, ⟨belowg3 HB GE207 GE208 GE221⟩⟩
     case round =>
      clear H'
      (try clear c17); (try clear c21); (try clear hcz24_0); (try clear hcz24_1); (try clear hcz24_2); (try clear hcz38_0); (try clear hcz38_1); (try clear hcz38_2); (try clear hfz24_0); (try clear hfz24_1); (try clear hfz24_2); (try clear hfz38_0); (try clear hfz38_1); (try clear hfz38_2)
      obtain ⟨x48_2, x222001_2, u222001, rfl, HA, HK2, HO_10, HO_43, HO_222001, BK207, BK208, BK221, HB⟩ := hrel
      cases gk with
      | zero => exact absurd HA.out (by simp [spec_OtherCoins.l0])
      | succ k2 =>
       have H := HA.out; clear HA
       simp only [spec_OtherCoins.l0] at H
       by_cases c39 : x48_2 < (l0_1.length : Int)
       ·rw [if_pos c39] at H
        have c39b0 : decide (x48_2 < (l0_1.length : Int)) = true := decide_eq_true c39
        clear c39; replace H := ifS H; obtain ⟨c40, H⟩ := H; have c40b0 := decide_eq_true c40; clear c40; replace H := ifS H; obtain ⟨c41, H⟩ := H; have c41b0 := decide_eq_true c41; clear c41
        obtain ⟨y223, hy_⟩ : ∃ y_ : List Int, y_ = (([] : List Int)) := ⟨_, rfl⟩
        replace H : (if y223.length + (rd_L1 l0_1 x48_2).length < 17592186044416 then (if x222001_2.length < 5864062014805 then (spec_OtherCoins.l0 k2 a3 t211 y218 l0_1 (l0_1.length : Int) (wrap64 (x48_2 + 1)) a0_0 (x222001_2 ++ [(y223 ++ (rd_L1 l0_1 x48_2))])) else (none)) else (none)) = some (r1, r2, r3, r4) := yH
        have Ny223 := ak hy_; clear hy_; replace H := ifS H; obtain ⟨c42, H⟩ := H; have LMc42 := Aside0.mk c42; clear c42
        obtain ⟨y226, hy_⟩ : ∃ y_ : List Int, y_ = (y223 ++ (rd_L1 l0_1 x48_2)) := ⟨_, rfl⟩
        replace H : (if x222001_2.length < 5864062014805 then (spec_OtherCoins.l0 k2 a3 t211 y218 l0_1 (l0_1.length : Int) (wrap64 (x48_2 + 1)) a0_0 (x222001_2 ++ [y226])) else (none)) = some (r1, r2, r3, r4) := yH
        have Ny226 := ak hy_; clear hy_; replace H := ifS H; obtain ⟨c43, H⟩ := H; have LMc43 := Aside0.mk c43; clear c43
        obtain ⟨y229, hy_⟩ : ∃ y_ : List (List Int), y_ = (x222001_2 ++ [y226]) := ⟨_, rfl⟩
        replace H : (spec_OtherCoins.l0 k2 a3 t211 y218 l0_1 (l0_1.length : Int) (wrap64 (x48_2 + 1)) a0_0 y229) = some (r1, r2, r3, r4) := yH
        have Ny229 := ak hy_; clear hy_
        have H' := Aside0.mk H
        clear H
        have p222 : 0 ≤ (x48_2 : Int) := da
        have q222 : x48_2 < (l0_1.length : Int) := da
        obtain ⟨ad222, A222_0, c222_0, e222, hx222_0, hl222_0, hi222_0⟩ := at_L1 HR0_1.out x48_2 p222 q222
        cases e222
        replace hx222_0 := (HB.out.cell (World.block_lt_of_cell? w _ hx222_0)).trans hx222_0
        have HR222_0 := Aside0.mk hi222_0; have HC222_0 := Aside0.mk hl222_0; clear hi222_0 hl222_0; replace p222 := eq_true p222; replace q222 := eq_true q222
        try go_wp2
        replace HO_10 := ak (Kd.R_drew HO_10.out)
        replace HO_43 := ak (Kd.R_drew HO_43.out)
        replace HO_222001 := ak (Kd.S_drew HO_222001.out)
        replace BK207 := ak (blk_drew BK207.out)
        replace BK208 := ak (blk_drew BK208.out)
        replace BK221 := ak (blk_drew BK221.out)
        replace HB := ak (below_drew1 HB.out)
        refine start_ (n := 9) (S := fun w' => w'.cell? ⟨gb221, 0, none⟩ = some (.int .i64 a0_0) ∧ w'.cell? ⟨gb221, 1, none⟩ = some (u222001) ∧ w'.cell? ⟨gb221, 2, none⟩ = some (.slice Ao33 y218.length co33)) (ds := [8]) (bl 9 0) (by kernel_rfl) rfl rfl ⟨bq BK221 0, bq BK221 1, bq BK221 2⟩ (fun hHeld => ?_); refine with_tabW spec_OtherCoins.tab10 spec_OtherCoins.bits10 (fun HT_ HW_ => ?_)
        generalize wr.drew = w44 at HO_10 HO_43 HO_222001 BK207 BK208 BK221 HB hHeld ⊢
        refine pureA 0 (some 52) 9 1 HT_ ?_
        refine pureA 3 (some 55) 9 9 HT_ ?_
        refine takeA 1 (some 53) 9 11 HT_ HW_ hHeld ?_ (hy := by rintro w' ⟨s0, s1, s2⟩; go_simp; with_reducible rfl)
        refine oneA 2 (some 54) 9 15 HT_ (fun K hK => ?_)
        refine Kd.R_lit_step (Kd.int .i64) _ 3 ?hg (N := 54) ?hd (xs := ([] : List Int)) (inner := []) (ok := fun _ => True) (okp := fun _ => True) ?hr ?hp (fun _ hk => hk) trivial (Below.refl _ _) (Nat.le_refl _) (by simp) ?_; (case hd => rfl); (case hg => rfl); (case hr => first | (go_simp; done) | (go_simp; rfl)); (case hp => exact (Reps.none _ _))
        intro v224 w45 ho46 hb hg_ hnew_
        clear hg_ hnew_
        (first | rw [← Ny223.out] at ho46 | (simp only [Int.reduceToNat] at ho46; rw [← Ny223.out] at ho46))
        replace HO_222001 := ak (Kd.S_elder' (sd HO_222001) (Kd.R_base ho46) hb)
        have HO225 := ak (Kd.R_lower (Kd.R_new' (Kd.R_new' ho46 (Kd.R_lt (rdl HO_10))) (Kd.R_lt (rdl HO_43))) (below_size (belowg3 HB GE207 GE208 GE221)))
        replace HO_10 := ak (Kd.R_elder' (rdl HO_10) (Kd.R_base ho46) hb)
        replace HO_43 := ak (Kd.R_elder' (rdl HO_43) (Kd.R_base ho46) hb)
        replace BK207 := ak (blk_below (blkd BK207) hb)
        replace BK208 := ak (blk_below (blkd BK208) hb)
        replace BK221 := ak (blk_below (blkd BK221) hb)
        replace HB := ak (below_step (belowg3 HB GE207 GE208 GE221) hb)
        clear hb ho46
        refine hK.out _ _ ⟨bq BK221 0, bq BK221 1, bq BK221 2⟩ (fun hHeld => ?_)
        clear hK K
        refine norm_ (a' := ?_) ?_ ?_
        rotate_left
        ·show Act.put _ (some 54) _ = _
         simp only [Act.put, List.setIfInBounds_toArray, List.set_cons_zero, List.set_cons_succ, i64_w, i32_w]
         rfl
        refine oneA 4 (some 56) 9 31 HT_ (fun K hK => ?_)
        refine Kd.R_append_rows_step (Kd.int .i64) (w0 := w) w.heap.size (by rfl) (.tmp 54) (.tmp 55) 22 3 (.int .i64 0) 8 rfl Try.underlying22 info3 rfl (by decide) (by omega) v224 y223 (rd_L1 l0_1 x48_2) _ _ _ (fun k_ => some k_ ≠ (v212 : Value).ownBlock ∧ some k_ ≠ (.slice Ao33 y218.length co33 : Value).ownBlock) (fun _ => False) rfl rfl ?aO ?aR (fun _ _ h => h) (fun _ h => h.elim) ?aF ?aB ?aS ?aL ?_
        (case aR => exact cd (Kd.C_below HR222_0.out HB.out))
        (case aB => exact (belowg3 HB GE207 GE208 GE221))
        (case aF => exact (fun k_ hk => ⟨Kd.fresh' (Kd.R_lt (rdl HO_10)) k_ hk, Kd.fresh' (Kd.R_lt (rdl HO_43)) k_ hk⟩))
        (case aO => exact (by (with_reducible repeat (first | apply Kd.R_alloc | apply Kd.R_drewN | apply Kd.R_drew)); exact Kd.R_mono HO225.out (fun _ hk => ⟨hk.1.2, hk.2⟩)))
        (case aS => exact (below_size (belowg3 HB GE207 GE208 GE221)))
        (case aL => have := LMc42.out; omega)
        intro v227 w47 ho hb hg hat
        rw [← Ny226.out] at ho
        replace HO_10 := ak (Kd.R_after (ok := (fun k_ => some k_ ≠ (.slice Ao33 y218.length co33 : Value).ownBlock)) (rdl HO_10) hg hat)
        replace HO_43 := ak (Kd.R_after (ok := (fun k_ => some k_ ≠ (v212 : Value).ownBlock)) (rdl HO_43) hg hat)
        replace HO_222001 := ak (Kd.S_after (ok := (fun k_ => some k_ ≠ (v212 : Value).ownBlock ∧ some k_ ≠ (.slice Ao33 y218.length co33 : Value).ownBlock)) (sd HO_222001) hg hat)
        replace BK207 := ak (blk_grown (blkd BK207) hg (Kd.R_ne HO225.out BK207.out (by decide)))
        replace BK208 := ak (blk_grown (blkd BK208) hg (Kd.R_ne HO225.out BK208.out (by decide)))
        replace BK221 := ak (blk_grown (blkd BK221) hg (Kd.R_ne HO225.out BK221.out (by decide)))
        replace HB := ak (hb)
        have HO228 := ak (ho); clear HO225; clear ho hb hg hat
        obtain ⟨Ao49, co49, eo49⟩ := Kd.R_slice HO228.out
        (first | subst eo49 | (injection eo49 with f1_ f2_ f3_; have f4_ := f1_.symm; have f5_ := f3_.symm; clear f1_ f2_ f3_; subst f4_; subst f5_))
        refine hK.out _ _ ⟨bq BK221 0, bq BK221 1, bq BK221 2⟩ (fun hHeld => ?_)
        clear hK K
        refine norm_ (a' := ?_) ?_ ?_
        rotate_left
        ·show Act.put _ (some 56) _ = _
         simp only [Act.put, List.setIfInBounds_toArray, List.set_cons_zero, List.set_cons_succ, i64_w, i32_w]
         rfl
        refine oneA 5 (some 57) 9 63 HT_ (fun K hK => ?_)
        refine value_ (w1 := ?_) (v := ?_) (by rfl) rfl ?_ ?_
        rotate_left 2
        ·go_simp
         constructor
         ·rfl
         ·rfl
        refine hK.out _ _ ⟨(blk_cell (blk_alloc BK221.out _) 0).trans rfl, (blk_cell (blk_alloc BK221.out _) 1).trans rfl, (blk_cell (blk_alloc BK221.out _) 2).trans rfl⟩ (fun hHeld => ?_)
        clear hK K
        refine norm_ (a' := ?_) ?_ ?_
        rotate_left
        ·show Act.put _ (some 57) _ = _
         simp only [Act.put, List.setIfInBounds_toArray, List.set_cons_zero, List.set_cons_succ, i64_w, i32_w]
         rfl
        refine oneA 6 (some 58) 9 127 HT_ (fun K hK => ?_)
        refine Kd.S_append_step (Kd.slice 3 (Kd.int .i64)) (w0 := w) w.heap.size (by rfl) (.tmp 53) (.tmp 57) 32 22 (.slice none 0 0) 24 rfl Try.underlying32 info22 rfl (by decide) (by omega) u222001 x222001_2 y226 [.slice Ao49 y226.length co49] (fun k_ => some k_ ≠ (v212 : Value).ownBlock ∧ some k_ ≠ (.slice Ao33 y218.length co33 : Value).ownBlock) (fun k_ => some k_ = (.slice Ao49 y226.length co49 : Value).ownBlock) rfl rfl ?aP (fun k_ hk_ => ((Kd.R_mono (ok' := fun k_ => ((fun k_ => some k_ ≠ (v212 : Value).ownBlock ∧ some k_ ≠ (.slice Ao33 y218.length co33 : Value).ownBlock)) k_ ∧ some k_ ≠ (u222001 : Value).ownBlock) (Kd.R_apart' (HO228.out) (Kd.S_typed HO_222001.out) (by decide)) (fun k_ hk => ⟨⟨hk.1.1, hk.1.2⟩, hk.2⟩))).1 k_ hk_.symm) ?aF ?aO ?aB ?aS ?aL ?_
        (case aP => exact Kd.M_row (Kd.R_mono (Kd.R_tight rfl (Kd.R_mono (ok' := fun k_ => ((fun k_ => some k_ ≠ (v212 : Value).ownBlock ∧ some k_ ≠ (.slice Ao33 y218.length co33 : Value).ownBlock)) k_ ∧ some k_ ≠ (u222001 : Value).ownBlock) (Kd.R_apart' (HO228.out) (Kd.S_typed HO_222001.out) (by decide)) (fun k_ hk => ⟨⟨hk.1.1, hk.1.2⟩, hk.2⟩))) (fun _ h_ => h_)))
        (case aB => exact (belowg3 HB GE207 GE208 GE221))
        (case aF => exact (fun k_ hk => ⟨Kd.fresh' (Kd.R_lt (rdl HO_10)) k_ hk, Kd.fresh' (Kd.R_lt (rdl HO_43)) k_ hk⟩))
        (case aO => exact (by (with_reducible repeat (first | apply Kd.S_alloc | apply Kd.S_drewN | apply Kd.S_drew)); exact Kd.S_mono HO_222001.out (fun k_ hk => ⟨⟨hk.1.1, hk.1.2⟩, fun e_ => hk.2 e_⟩)))
        (case aS => exact (below_size (belowg3 HB GE207 GE208 GE221)))
        (case aL => have := LMc43.out; omega)
        intro v230 w48 ho hb hg hat
        rw [← Ny229.out] at ho
        replace HO_10 := ak (Kd.R_over' (rdl HO_10) (Kd.S_typed (sd HO_222001)) (by decide) hg)
        replace HO_43 := ak (Kd.R_over' (rdl HO_43) (Kd.S_typed (sd HO_222001)) (by decide) hg)
        replace BK207 := ak (blk_grown (blkd BK207) hg (Kd.S_ne HO_222001.out BK207.out (by decide)))
        replace BK208 := ak (blk_grown (blkd BK208) hg (Kd.S_ne HO_222001.out BK208.out (by decide)))
        replace BK221 := ak (blk_grown (blkd BK221) hg (Kd.S_ne HO_222001.out BK221.out (by decide)))
        replace HB := ak (hb)
        have HO231 := ak (ho); clear HO_222001 HO228; clear ho hb hg hat
        obtain ⟨Ao50, co50, eo50⟩ := Kd.S_slice HO231.out
        (first | subst eo50 | (injection eo50 with f1_ f2_ f3_; have f4_ := f1_.symm; have f5_ := f3_.symm; clear f1_ f2_ f3_; subst f4_; subst f5_))
        refine hK.out _ _ ⟨bq BK221 0, bq BK221 1, bq BK221 2⟩ (fun hHeld => ?_)
        clear hK K
        refine norm_ (a' := ?_) ?_ ?_
        rotate_left
        ·show Act.put _ (some 58) _ = _
         simp only [Act.put, List.setIfInBounds_toArray, List.set_cons_zero, List.set_cons_succ, i64_w, i32_w]
         rfl
        refine pureA 7 (some 59) 9 255 HT_ ?_
        refine last_ (i := 8) (N := none) (bl 9 511) rfl rfl (one_of HT_.out (by kernel_rfl)) (by decide) (fun K hK => ?_)
        have hs51 : w48.cell? ⟨gb221, 1, none⟩ = some (u222001) := bq BK221 1
        have hfs51 := blk_frozen BK221.out 1
        have hns51_0 := NB207_221.out; have hns51_1 := NB208_221.out; have hms51_0 := NB221_207.out; have hms51_1 := NB221_208.out
        refine skip_ (w1 := ?_) (by rfl) rfl ?_ ?_
        rotate_left
        ·go_simp
         rfl
        refine hK.out _ _ ?_
        clear hK K
        refine done_ (done_of HT_.out (by kernel_rfl)) ?_
        try go_wp2
        go_roundg k2
        case measure => have := HJ4.out; have := HK2.out; omega
        case rel => exact ⟨(wrap64 (x48_2 + 1)), (y229), (.slice Ao50 y229.length co50), er, H', ⟨by have := HJ4.out; have := HK2.out; omega⟩, ⟨by (with_reducible repeat (first | apply Kd.R_alloc | apply Kd.R_drewN | apply Kd.R_drew)); exact Kd.R_mono (Kd.R_far (p := ⟨gb221, 1, none⟩) (Kd.R_types HO_10.out BK221.out (by decide)) (fun _ hk => hk.2) (.slice Ao50 y229.length co50)) (fun _ hk => hk.1.1)⟩, ⟨by (with_reducible repeat (first | apply Kd.R_alloc | apply Kd.R_drewN | apply Kd.R_drew)); exact Kd.R_mono (Kd.R_far (p := ⟨gb221, 1, none⟩) (Kd.R_types HO_43.out BK221.out (by decide)) (fun _ hk => hk.2) (.slice Ao50 y229.length co50)) (fun _ hk => hk.1.1)⟩, ⟨by (with_reducible repeat (first | apply Kd.S_alloc | apply Kd.S_drewN | apply Kd.S_drew)); exact Kd.S_mono (Kd.S_far (p := ⟨gb221, 1, none⟩) (Kd.S_types HO231.out BK221.out (by decide)) (fun _ hk => hk.2) (.slice Ao50 y229.length co50)) (fun _ hk => ⟨hk.1.1, hk.1.2⟩)⟩, ⟨by (with_reducible repeat (first | refine blk_drewN ?_ _ | refine blk_drew ?_ | refine blk_alloc ?_ _)); refine blk_far ?_ NB207_221.out _; (with_reducible repeat (first | refine blk_drewN ?_ _ | refine blk_drew ?_ | refine blk_alloc ?_ _)); exact BK207.out⟩, ⟨by (with_reducible repeat (first | refine blk_drewN ?_ _ | refine blk_drew ?_ | refine blk_alloc ?_ _)); refine blk_far ?_ NB208_221.out _; (with_reducible repeat (first | refine blk_drewN ?_ _ | refine blk_drew ?_ | refine blk_alloc ?_ _)); exact BK208.out⟩, ⟨by (with_reducible repeat (first | refine blk_drewN ?_ _ | refine blk_drew ?_ | refine blk_alloc ?_ _)); refine blk_put (cs := #[.int .i64 a0_0, u222001, .slice Ao33 y218.length co33]) ?_ 1 _ rfl; (with_reducible repeat (first | refine blk_drewN ?_ _ | refine blk_drew ?_ | refine blk_alloc ?_ _)); exact BK221.out⟩, ⟨belowg3 HB GE207 GE208 GE221⟩⟩
       ·rw [if_neg c39] at H
        have c39b0 : decide (x48_2 < (l0_1.length : Int)) = false := decide_eq_false c39
        clear c39
        have H' := Aside0.mk H
        clear H
        obtain ⟨Ao52, co52, eo52⟩ := Kd.R_slice HO_10.out
        subst eo52; go_wp2
        go_loopg [63] k2 (fun kq v63 w' => ∃ (x61_3 : List Int) (x63_3 : Int) (x222002_3 : List Int) (u222002 : Value), v63 = .int .i64 x63_3 ∧ Aside0 (spec_OtherCoins.l1 kq a3 x61_3 (t211.length : Int) x63_3 a0_0 x222001_2 x222002_3 = some (r1, r2, r3, r4)) ∧ Aside0 (kq ≤ k2) ∧ Aside0 (Kd.R (Kd.int .i64) 3 w' w.heap.size (fun k_ => some k_ ≠ (u222002 : Value).ownBlock) (.slice Ao52 t211.length co52) x61_3) ∧ Aside0 (Kd.S (Kd.slice 3 (Kd.int .i64)) 22 w' w.heap.size (fun k_ => some k_ ≠ ((.slice Ao52 t211.length co52) : Value).ownBlock ∧ some k_ ≠ (u222002 : Value).ownBlock) u222001 x222001_2) ∧ Aside0 (Kd.R (Kd.int .i64) 3 w' w.heap.size (fun k_ => some k_ ≠ ((.slice Ao52 t211.length co52) : Value).ownBlock) u222002 x222002_3) ∧ Aside0 (w'.heap[gb207]? = some (.cells #[.int .i64 a0_0, (.slice A0_1 l0_1.length c0_1), (.slice A0_2 l0_2.length c0_2)] 38 (0, 0))) ∧ Aside0 (w'.heap[gb208]? = some (.cells #[.int .i64 0, (.slice none 0 0), (.slice none 0 0)] 38 (0, 0))) ∧ Aside0 (w'.heap[gb221]? = some (.cells #[.int .i64 a0_0, u222001, u222002] 38 (0, 0))) ∧ Aside0 (Below w.heap.size w w'))
        case atStart => exact ⟨(t211), (0), (y218), (.slice Ao33 y218.length co33), er, H', ⟨Nat.le_refl _⟩, ⟨rdl HO_10⟩, ⟨sd HO_222001⟩, ⟨rdl HO_43⟩, ⟨blkd BK207⟩, ⟨blkd BK208⟩, ⟨blkd BK221⟩, ⟨belowg3 HB GE207 GE208 GE221⟩⟩
        case round =>
         clear H'
         (try clear c39b0)
         obtain ⟨x61_3, x63_3, x222002_3, u222002, rfl, HA, HK3, HO_61, HO_222001, HO_222002, BK207, BK208, BK221, HB⟩ := hrel
         have hl61_3 := (Kd.R_reads' HO_61.out).1
         rw [hl61_3] at HO_61
         (try simp only [hl61_3])
         (try simp only [hl61_3] at BK207)
         (try simp only [hl61_3] at BK208)
         (try simp only [hl61_3] at BK221)
         (try simp only [hl61_3] at HO_222001)
         (try simp only [hl61_3] at HO_222002)
         cases gk with
         | zero => exact absurd HA.out (by simp [spec_OtherCoins.l1])
         | succ k3 =>
          have H := HA.out; clear HA
          simp only [spec_OtherCoins.l1] at H
          by_cases c53 : x63_3 < (t211.length : Int)
          ·rw [if_pos c53] at H
           have c53b0 : decide (x63_3 < (t211.length : Int)) = true := decide_eq_true c53
           clear c53; replace H := ifS H; obtain ⟨c54, H⟩ := H; have c54b0 := decide_eq_true c54; clear c54; replace H := ifS H; obtain ⟨c55, H⟩ := H; have c55b0 := decide_eq_true c55; clear c55; replace H := ifS H; obtain ⟨c56, H⟩ := H; have c56b0 := decide_eq_true c56; clear c56; replace H := ifS H; obtain ⟨c57, H⟩ := H; have c57b0 := decide_eq_true c57; clear c57
           obtain ⟨y234, hy_⟩ : ∃ y_ : List Int, y_ = (x222002_3.set ((rd x61_3 x63_3) : Int).toNat (Go.bits .xor .i64 (rd x222002_3 (rd x61_3 x63_3)) a3)) := ⟨_, rfl⟩
           replace H : (spec_OtherCoins.l1 k3 a3 x61_3 (t211.length : Int) (wrap64 (x63_3 + 1)) a0_0 x222001_2 y234) = some (r1, r2, r3, r4) := yH
           have Ny234 := ak hy_; clear hy_
           have H' := Aside0.mk H
           clear H
           have p232 : 0 ≤ (x63_3 : Int) := da
           have q232 : x63_3 < (x61_3.length : Int) := da
           obtain ⟨ad232, e232, hx232_0⟩ := Kd.at_int (Kd.R_reads' HO_61.out).2.2 x63_3 p232 q232
           cases e232
           replace p232 := eq_true p232; replace q232 := eq_true q232; have hnb59 := NB221_207.out; have hnc59 := NB207_221.out; have hnb60 := NB221_208.out; have hnc60 := NB208_221.out; obtain ⟨hcz61_0, hcz61_1, hcz61_2, hfz61_0, hfz61_1, hfz61_2⟩ := box3 BK221
           obtain ⟨Ao62, co62, eo62⟩ := Kd.R_slice HO_222002.out
           subst eo62
           have p233 : 0 ≤ ((rd x61_3 x63_3) : Int) := da
           have q233 : (rd x61_3 x63_3) < (x222002_3.length : Int) := da
           obtain ⟨ad233, e233, hx233_0⟩ := Kd.at_int (Kd.R_reads' HO_222002.out).2.2 (rd x61_3 x63_3) p233 q233
           cases e233
           replace p233 := eq_true p233; replace q233 := eq_true q233
           have p58 : 0 ≤ ((rd x61_3 x63_3) : Int) := da
           have q58 : ((rd x61_3 x63_3) : Int) < ((x222002_3.length : Int) : Int) := da
           obtain ⟨go58, co58, eo58, gb58, gl58, cl58, HG58⟩ := Kd.R_form HO_222002.out (by omega)
           (first | cases eo58 | (injection eo58 with ea_ en_ ec_; (first | subst ea_ | (injection ea_ with ea_; subst ea_)); subst ec_; clear en_))
           have GB58 := Aside0.mk gb58; have GG58 := Aside0.mk HG58; clear gb58 gl58 HG58
           (first | simp only [add_plain] at hx233_0 | skip)
           obtain ⟨hx58_0, hf58_0⟩ := Kd.R_celln 0 HO_222002.out ((rd x61_3 x63_3) : Int) p58 q58
           replace p58 := eq_true p58; replace q58 := eq_true q58
           have HP63 := Kd.R_putg HO_222002.out ((rd x61_3 x63_3) : Int) (Go.bits .xor .i64 (rd x222002_3 (rd x61_3 x63_3)) a3)
           go_wp2_with (first | ((with_reducible refine gate_store (t := 3) (p := 74) rfl ?_); refine store_event (t := 3) (p := 74) (v := ?vo_w64) (w1 := (wr.setCell ⟨go58, ((rd x61_3 x63_3) : Int).toNat, none⟩ (.int .i64 (Go.bits .xor .i64 (rd x222002_3 (rd x61_3 x63_3)) a3)))) ?hg ?ho ?hn ?hr ?_; (case ho => rfl); (case hg => rfl); (case hn => rfl); (case hr => first | (go_simp; done) | (go_simp; rfl)); intro w64 hw; have hg : wr.grownBy w64 (some go58) := (by rw [hw]; exact HP63.2); have hp_ : Kd.R (Kd.int .i64) 3 w64 w.heap.size (fun k_ => some k_ ≠ (.slice (some ad232) x61_3.length co52 : Value).ownBlock) (.slice (some ⟨go58, 0, none⟩) x222002_3.length co62) y234 := (by rw [hw, Ny234.out]; exact HP63.1); clear HP63; replace HO_61 := ak (Kd.R_after (v := (.slice (some ⟨go58, 0, none⟩) x222002_3.length co62)) (v1 := (.slice (some ⟨go58, 0, none⟩) x222002_3.length co62)) (ok := (fun _ => True)) (by (with_reducible repeat (first | apply Kd.R_alloc | apply Kd.R_drewN | apply Kd.R_drew)); exact Kd.R_mono HO_61.out (fun _ hk => ⟨trivial, hk⟩)) hg (.inl rfl)); replace HO_222001 := ak (Kd.S_after (v := (.slice (some ⟨go58, 0, none⟩) x222002_3.length co62)) (v1 := (.slice (some ⟨go58, 0, none⟩) x222002_3.length co62)) (ok := (fun k_ => some k_ ≠ (.slice (some ad232) x61_3.length co52 : Value).ownBlock)) (sd HO_222001) hg (.inl rfl)); replace BK207 := ak (blk_grown (blkd BK207) hg (Kd.R_ne HO_222002.out BK207.out (by decide))); replace BK208 := ak (blk_grown (blkd BK208) hg (Kd.R_ne HO_222002.out BK208.out (by decide))); replace BK221 := ak (blk_grown (blkd BK221) hg (Kd.R_ne HO_222002.out BK221.out (by decide))); replace HO_222002 := ak (hp_); replace HB := ak ((by rw [hw]; exact below_set (HB.out) GB58.out : Below w.heap.size w w64)); clear hg hw hp_))
           (try simp only [← hl61_3])
           (first | go_roundg k3 | ((try rw [← add_plain go58 ((rd x61_3 x63_3) : Int).toNat]); go_roundg k3))
           case measure => have := HJ4.out; have := HK2.out; have := HK3.out; omega
           case rel => exact ⟨(x61_3), (wrap64 (x63_3 + 1)), (y234), (.slice (some ⟨go58, 0, none⟩) x222002_3.length co62), er, H', ⟨by have := HJ4.out; have := HK2.out; have := HK3.out; omega⟩, ⟨by (try simp only [hl61_3]); (with_reducible repeat (first | apply Kd.R_alloc | apply Kd.R_drewN | apply Kd.R_drew)); exact Kd.R_mono HO_61.out (fun _ hk => hk.2)⟩, ⟨by (try simp only [hl61_3]); (with_reducible repeat (first | apply Kd.S_alloc | apply Kd.S_drewN | apply Kd.S_drew)); exact HO_222001.out⟩, ⟨by (try simp only [hl61_3]); (with_reducible repeat (first | apply Kd.R_alloc | apply Kd.R_drewN | apply Kd.R_drew)); exact HO_222002.out⟩, ⟨by (try simp only [hl61_3]); (with_reducible repeat (first | refine blk_drewN ?_ _ | refine blk_drew ?_ | refine blk_alloc ?_ _)); exact BK207.out⟩, ⟨by (try simp only [hl61_3]); (with_reducible repeat (first | refine blk_drewN ?_ _ | refine blk_drew ?_ | refine blk_alloc ?_ _)); exact BK208.out⟩, ⟨by (try simp only [hl61_3]); (with_reducible repeat (first | refine blk_drewN ?_ _ | refine blk_drew ?_ | refine blk_alloc ?_ _)); exact BK221.out⟩, ⟨belowg3 HB GE207 GE208 GE221⟩⟩
          ·rw [if_neg c53] at H
           have c53b0 : decide (x63_3 < (t211.length : Int)) = false := decide_eq_false c53
           have c53b0s := c53b0
           (try simp only [hl61_3] at c53b0s)
           clear c53
           simp only [Option.some.injEq, Prod.mk.injEq] at H
           obtain ⟨rfl, rfl, rfl, rfl⟩ := H; have hnb65 := NB221_207.out; have hnc65 := NB207_221.out; have hnb66 := NB221_208.out; have hnc66 := NB208_221.out; obtain ⟨hcz67_0, hcz67_1, hcz67_2, hfz67_0, hfz67_1, hfz67_2⟩ := box3 BK221; have hnb68 := NB208_207.out; have hnc68 := NB207_208.out; obtain ⟨hcz69_0, hcz69_1, hcz69_2, hfz69_0, hfz69_1, hfz69_2⟩ := box3 BK208
           obtain ⟨Ao70, co70, eo70⟩ := Kd.S_slice HO_222001.out
           subst eo70
           obtain ⟨Ao71, co71, eo71⟩ := Kd.R_slice HO_222002.out
           subst eo71; go_wp2
           refine bodyPost_ret (results_ct rfl _ _ gb208 38 #[.int .i64 a0_0, .slice Ao70 x222001_2.length co70, .slice Ao71 x222002_3.length co71] (0, 0) _ rfl (by (with_reducible repeat (first | refine blk_drewN ?_ _ | refine blk_drew ?_ | refine blk_alloc ?_ _)); refine blk_put (cs := #[.int .i64 a0_0, .slice Ao70 x222001_2.length co70, .slice none 0 0]) ?_ 2 _ rfl; (with_reducible repeat (first | refine blk_drewN ?_ _ | refine blk_drew ?_ | refine blk_alloc ?_ _)); refine blk_put (cs := #[.int .i64 a0_0, .slice none 0 0, .slice none 0 0]) ?_ 1 _ rfl; (with_reducible repeat (first | refine blk_drewN ?_ _ | refine blk_drew ?_ | refine blk_alloc ?_ _)); refine blk_put (cs := #[.int .i64 0, .slice none 0 0, .slice none 0 0]) ?_ 0 _ rfl; (with_reducible repeat (first | refine blk_drewN ?_ _ | refine blk_drew ?_ | refine blk_alloc ?_ _)); exact BK208.out) Try.underlying38 rfl (by kernel_rfl)) rfl ?_
           exact ⟨_, _, er2, by (with_reducible repeat (first | apply Kd.S_alloc | apply Kd.S_drewN | apply Kd.S_drew)); exact Kd.S_mono (Kd.S_far (p := ⟨gb208, 2, none⟩) (Kd.S_far (p := ⟨gb208, 1, none⟩) (Kd.S_far (p := ⟨gb208, 0, none⟩) (Kd.S_types HO_222001.out BK208.out (by decide)) (fun _ hk => hk.2) (.int .i64 a0_0)) (fun _ hk => hk.2) (.slice Ao70 x222001_2.length co70)) (fun _ hk => hk.2) (.slice Ao71 x222002_3.length co71)) (fun _ hk => hk.1.2), by (with_reducible repeat (first | apply Kd.R_alloc | apply Kd.R_drewN | apply Kd.R_drew)); exact Kd.R_mono (Kd.R_far (p := ⟨gb208, 2, none⟩) (Kd.R_far (p := ⟨gb208, 1, none⟩) (Kd.R_far (p := ⟨gb208, 0, none⟩) (Kd.R_types HO_222002.out BK208.out (by decide)) (fun _ hk => hk.2) (.int .i64 a0_0)) (fun _ hk => hk.2) (.slice Ao70 x222001_2.length co70)) (fun _ hk => hk.2) (.slice Ao71 x222002_3.length co71)) (fun _ hk => trivial), belowg3 HB GE207 GE208 GE221⟩
    ·replace c21 := Bool.eq_false_iff.mpr c21
     subst c21
     have H1 : (some (0, ([] : List (List Int)), ([] : List Int), false)) = some (r1, r2, r3, r4) := by rw [if_neg (show ¬ (false = true) by decide)] at H; exact H
     clear H
     have H := H1
     clear H1
     simp only [Option.some.injEq, Prod.mk.injEq] at H
     obtain ⟨rfl, rfl, rfl, rfl⟩ := H; have hnb72 := NB207_208.out; have hnc72 := NB208_207.out; obtain ⟨hcz73_0, hcz73_1, hcz73_2, hfz73_0, hfz73_1, hfz73_2⟩ := box3 BK207
     go_wp2_with (first | ((with_reducible refine gate_callee (f := 109) rfl ?_); refine goesLa (some 32) rfl Try.func109 #[.agg #[.int .i64 a0_0, .slice A0_1 l0_1.length c0_1, .slice A0_2 l0_2.length c0_2], .int .i64 a1, .int .i64 a2] rfl ?_; (with_reducible refine (spec_l15Way.calls kj4 a0_0 _ _ l0_1 _ _ l0_2 a1 a2 t211 false _ ?side1 ?side2 ?side3 ?side4 A20.out).mono ?_); (case side1 => exact cd (Kd.C_below HR0_1.out HB.out)); (case side2 => exact HC0_1.out); (case side3 => exact cd (Kd.C_below HR0_2.out HB.out)); (case side4 => exact HC0_2.out); rintro e w74 ⟨v212, rfl, ho0, hb⟩; refine ⟨_, rfl, ?_⟩; have HO213 := ak (Kd.R_lower ho0 (below_size (belowg2 HB GE207 GE208))); replace BK207 := ak (blk_below (blkd BK207) hb); replace BK208 := ak (blk_below (blkd BK208) hb); replace HB := ak (below_step (belowg2 HB GE207 GE208) hb); (try clear hb); (try clear ho0); obtain ⟨hcz75_0, hcz75_1, hcz75_2, hfz75_0, hfz75_1, hfz75_2⟩ := box3 BK208))
     refine bodyPost_ret (results_ct rfl _ _ gb208 38 #[.int .i64 0, .slice none 0 0, .slice none 0 0] (0, 0) _ rfl (by (with_reducible repeat (first | refine blk_drewN ?_ _ | refine blk_drew ?_ | refine blk_alloc ?_ _)); refine blk_put (cs := #[.int .i64 0, .slice none 0 0, .slice none 0 0]) ?_ 2 _ rfl; (with_reducible repeat (first | refine blk_drewN ?_ _ | refine blk_drew ?_ | refine blk_alloc ?_ _)); refine blk_put (cs := #[.int .i64 0, .slice none 0 0, .slice none 0 0]) ?_ 1 _ rfl; (with_reducible repeat (first | refine blk_drewN ?_ _ | refine blk_drew ?_ | refine blk_alloc ?_ _)); refine blk_put (cs := #[.int .i64 0, .slice none 0 0, .slice none 0 0]) ?_ 0 _ rfl; (with_reducible repeat (first | refine blk_drewN ?_ _ | refine blk_drew ?_ | refine blk_alloc ?_ _)); exact BK208.out) Try.underlying38 rfl (by kernel_rfl)) rfl ?_
     exact ⟨_, _, er2, by first | exact Kd.S_nil _ _ _ _ _ | exact Kd.N_nil _ _ _ _ _ | exact Kd.V_nil _ _ _ _ _ | exact Kd.Q_nil _ _ _ _ _ | exact Kd.R_nil _ _ _ _ _, by first | exact Kd.R_nil _ _ _ _ _ | exact Kd.N_nil _ _ _ _ _ | exact Kd.V_nil _ _ _ _ _ | exact Kd.Q_nil _ _ _ _ _ | exact Kd.S_nil _ _ _ _ _, belowg2 HB GE207 GE208⟩

/-! ### impl_within: function 87 -/
def impl_within.f (a0 : Int) (a1 : Int) (a2 : Int) : Option (Bool) := if a0 ≥ a1 then (some (decide (a0 ≤ a2))) else (some false)
set_option maxHeartbeats 8000000 in
set_option maxRecDepth 100000 in
theorem impl_within.calls (a0 : Int) (a1 : Int) (a2 : Int) (r : Bool) (w : World) (h : impl_within.f a0 a1 a2 = some r) :
  Calls Try.prog 87 #[.int .i64 a0, .int .i64 a1, .int .i64 a2] w fun e w' => e = .returned (.bool r) ∧ Drawn0 w w' := by
 have H : (if a0 ≥ a1 then (some (decide (a0 ≤ a2))) else (some false)) = some r := h
 clear h
 by_cases c4 : a0 ≥ a1
 ·rw [if_pos c4] at H
  have c4b0 : decide (a1 ≤ a0) = true := decide_eq_true c4
  clear c4
  obtain rfl := Option.some.inj H
  go_enter Try.func87, Try.ntmps87
  go_wp2
  go_ret
  exact ⟨er, drw⟩
 ·rw [if_neg c4] at H
  have c4b0 : decide (a1 ≤ a0) = false := decide_eq_false c4
  clear c4
  obtain rfl := Option.some.inj H
  go_enter Try.func87, Try.ntmps87
  go_wp2
  go_ret
  exact ⟨er, drw⟩

/-! ### impl_allWithin: function 124 -/
def impl_allWithin.l0 : Nat → Int → Int → List Int → Int → Int → Option (Bool)
  | 0, _, _, _, _, _ => none
  | k + 1, x1, x2, x9, x10, x11 => if x11 < x10 then (if 0 ≤ x11 then (if x11 < (x9.length : Int) then ((impl_within.f (rd x9 x11) x1 x2).bind fun t236 => (if t236 = true then (impl_allWithin.l0 k x1 x2 x9 x10 (wrap64 (x11 + 1))) else (some false))) else (none)) else (none)) else (some true)
def impl_allWithin.f (k : Nat) (l0 : List Int) (a1 : Int) (a2 : Int) : Option (Bool) := impl_allWithin.l0 k a1 a2 l0 (l0.length : Int) 0
theorem impl_allWithin.mono_l : ∀ k, (∀ y0 y1 y2 y3 y4, LeO (impl_allWithin.l0 k y0 y1 y2 y3 y4) (impl_allWithin.l0 (k + 1) y0 y1 y2 y3 y4))
 | 0 => fun _ _ _ _ _ r h => by simp [impl_allWithin.l0] at h
 | k + 1 => by
  have ih0 := impl_allWithin.mono_l k
  ·intro y0 y1 y2 y3 y4
   unfold impl_allWithin.l0
   repeat' (first | (with_reducible first | exact ih0 _ _ _ _ _ | exact LeO.refl _ | exact LeO.none _ | refine LeO.ite ?_ ?_ | refine LeO.bind ?_ (fun _ => ?_)) | exact ih0 _ _ _ _ _ | exact LeO.none _ | refine LeO.ite ?_ ?_ | refine LeO.bind ?_ (fun _ => ?_))
theorem impl_allWithin.mono : ∀ a0 a1 a2 k, LeO (impl_allWithin.f k a0 a1 a2) (impl_allWithin.f (k + 1) a0 a1 a2) := by
 intro a0 a1 a2 k
 have ih0 := impl_allWithin.mono_l k
 unfold impl_allWithin.f
 repeat' (first | (with_reducible first | exact ih0 _ _ _ _ _ | exact LeO.refl _ | exact LeO.none _ | refine LeO.ite ?_ ?_ | refine LeO.bind ?_ (fun _ => ?_)) | exact ih0 _ _ _ _ _ | exact LeO.none _ | refine LeO.ite ?_ ?_ | refine LeO.bind ?_ (fun _ => ?_))
set_option maxHeartbeats 8000000 in
set_option maxRecDepth 100000 in
theorem impl_allWithin.calls (k : Nat) (A0 : Option Addr) (c0 : Nat) (l0 : List Int) (a1 : Int) (a2 : Int) (r : Bool) (w : World) (hr0 : Kd.C (Kd.int .i64) w A0 l0.length l0) (hc0 : l0.length ≤ c0) (h : impl_allWithin.f k l0 a1 a2 = some r) :
  Calls Try.prog 124 #[.slice A0 l0.length c0, .int .i64 a1, .int .i64 a2] w fun e w' => e = .returned (.bool r) ∧ Drawn0 w w' := by
 have HR0 := Aside0.mk hr0; have HC0 := Aside0.mk hc0; clear hr0 hc0
 have H : (impl_allWithin.l0 k a1 a2 l0 (l0.length : Int) 0) = some r := h
 clear h
 have H' := Aside0.mk H
 clear H
 go_enter Try.func124, Try.ntmps124
 go_wp2
 go_loopg [11] k (fun kq v11 w' => ∃ (x11_1 : Int), v11 = .int .i64 x11_1 ∧ Aside0 (impl_allWithin.l0 kq a1 a2 l0 (l0.length : Int) x11_1 = some r) ∧ Aside0 (kq ≤ k) ∧ Drawn0 w w')
 case atStart => exact ⟨(0), er, H', ⟨Nat.le_refl _⟩, drw⟩
 case round =>
  clear H'
  obtain ⟨x11_1, rfl, HA, HK1, ⟨m1, rfl⟩⟩ := hrel
  cases gk with
  | zero => exact absurd HA.out (by simp [impl_allWithin.l0])
  | succ k1 =>
   have H := HA.out; clear HA
   simp only [impl_allWithin.l0] at H
   by_cases c4 : x11_1 < (l0.length : Int)
   ·rw [if_pos c4] at H
    have c4b0 : decide (x11_1 < (l0.length : Int)) = true := decide_eq_true c4
    clear c4; replace H := ifS H; obtain ⟨c5, H⟩ := H; have c5b0 := decide_eq_true c5; clear c5; replace H := ifS H; obtain ⟨c6, H⟩ := H; have c6b0 := decide_eq_true c6; clear c6; replace H := bS H; obtain ⟨t236, A7, H⟩ := H
    replace H : (if t236 = true then (impl_allWithin.l0 k1 a1 a2 l0 (l0.length : Int) (wrap64 (x11_1 + 1))) else (some false)) = some r := H
    by_cases c8 : t236 = true
    ·subst c8
     have H1 : (impl_allWithin.l0 k1 a1 a2 l0 (l0.length : Int) (wrap64 (x11_1 + 1))) = some r := by rw [if_pos rfl] at H; exact H
     clear H
     have H := H1
     clear H1
     have H' := Aside0.mk H
     clear H
     have p235 : 0 ≤ (x11_1 : Int) := da
     have q235 : x11_1 < (l0.length : Int) := da
     obtain ⟨ad235, e235, hx235_0⟩ := Kd.at_int HR0.out x11_1 p235 q235
     cases e235
     replace p235 := eq_true p235; replace q235 := eq_true q235
     go_wp2_with (first | ((with_reducible refine gate_callee (f := 87) rfl ?_); refine goesLa (some 18) rfl Try.func87 #[.int .i64 (rd l0 x11_1), .int .i64 a1, .int .i64 a2] rfl ?_; (with_reducible refine (impl_within.calls (rd l0 x11_1) a1 a2 true _ A7.out).mono ?_); rintro e w' ⟨rfl, ⟨nd, rfl⟩⟩; refine ⟨_, rfl, ?_⟩))
     go_roundg k1
     case measure => have := HK1.out; omega
     case rel => exact ⟨(wrap64 (x11_1 + 1)), er, H', ⟨by have := HK1.out; omega⟩, drw⟩
    ·replace c8 := Bool.eq_false_iff.mpr c8
     subst c8
     have H1 : (some false) = some r := by rw [if_neg (show ¬ (false = true) by decide)] at H; exact H
     clear H
     have H := H1
     clear H1
     obtain rfl := Option.some.inj H
     have p235 : 0 ≤ (x11_1 : Int) := da
     have q235 : x11_1 < (l0.length : Int) := da
     obtain ⟨ad235, e235, hx235_0⟩ := Kd.at_int HR0.out x11_1 p235 q235
     cases e235
     replace p235 := eq_true p235; replace q235 := eq_true q235
     go_wp2_with (first | ((with_reducible refine gate_callee (f := 87) rfl ?_); refine goesLa (some 18) rfl Try.func87 #[.int .i64 (rd l0 x11_1), .int .i64 a1, .int .i64 a2] rfl ?_; (with_reducible refine (impl_within.calls (rd l0 x11_1) a1 a2 false _ A7.out).mono ?_); rintro e w' ⟨rfl, ⟨nd, rfl⟩⟩; refine ⟨_, rfl, ?_⟩))
     go_ret
     exact ⟨er, drw⟩
   ·rw [if_neg c4] at H
    have c4b0 : decide (x11_1 < (l0.length : Int)) = false := decide_eq_false c4
    clear c4
    obtain rfl := Option.some.inj H
    go_wp2
    go_ret
    exact ⟨er, drw⟩

-- NOT PRINTED: function 147 (slices_IndexFunc_int_int)

-- NOT PRINTED: function 125 (slices_ContainsFunc_int_int)

/-! ### slices_Equal_int_int: function 127 -/
def slices_Equal_int_int.l0 : Nat → List Int → List Int → Int → Int → Option (Bool)
  | 0, _, _, _, _ => none
  | k + 1, x0, x1, x12, x13 => if x13 < x12 then (if 0 ≤ x13 then (if x13 < (x0.length : Int) then (if x13 < (x1.length : Int) then (if (rd x0 x13) = (rd x1 x13) then (slices_Equal_int_int.l0 k x0 x1 x12 (wrap64 (x13 + 1))) else (some false)) else (none)) else (none)) else (none)) else (some true)
def slices_Equal_int_int.f (k : Nat) (l0 : List Int) (l1 : List Int) : Option (Bool) := if (l0.length : Int) = (l1.length : Int) then (slices_Equal_int_int.l0 k l0 l1 (l0.length : Int) 0) else (some false)
theorem slices_Equal_int_int.mono_l : ∀ k, (∀ y0 y1 y2 y3, LeO (slices_Equal_int_int.l0 k y0 y1 y2 y3) (slices_Equal_int_int.l0 (k + 1) y0 y1 y2 y3))
 | 0 => fun _ _ _ _ r h => by simp [slices_Equal_int_int.l0] at h
 | k + 1 => by
  have ih0 := slices_Equal_int_int.mono_l k
  ·intro y0 y1 y2 y3
   unfold slices_Equal_int_int.l0
   repeat' (first | (with_reducible first | exact ih0 _ _ _ _ | exact LeO.refl _ | exact LeO.none _ | refine LeO.ite ?_ ?_ | refine LeO.bind ?_ (fun _ => ?_)) | exact ih0 _ _ _ _ | exact LeO.none _ | refine LeO.ite ?_ ?_ | refine LeO.bind ?_ (fun _ => ?_))
theorem slices_Equal_int_int.mono : ∀ a0 a1 k, LeO (slices_Equal_int_int.f k a0 a1) (slices_Equal_int_int.f (k + 1) a0 a1) := by
 intro a0 a1 k
 have ih0 := slices_Equal_int_int.mono_l k
 unfold slices_Equal_int_int.f
 repeat' (first | (with_reducible first | exact ih0 _ _ _ _ | exact LeO.refl _ | exact LeO.none _ | refine LeO.ite ?_ ?_ | refine LeO.bind ?_ (fun _ => ?_)) | exact ih0 _ _ _ _ | exact LeO.none _ | refine LeO.ite ?_ ?_ | refine LeO.bind ?_ (fun _ => ?_))
set_option maxHeartbeats 8000000 in
set_option maxRecDepth 100000 in
theorem slices_Equal_int_int.calls (k : Nat) (A0 : Option Addr) (c0 : Nat) (l0 : List Int) (A1 : Option Addr) (c1 : Nat) (l1 : List Int) (r : Bool) (w : World) (hr0 : Kd.C (Kd.int .i64) w A0 l0.length l0) (hc0 : l0.length ≤ c0) (hr1 : Kd.C (Kd.int .i64) w A1 l1.length l1) (hc1 : l1.length ≤ c1) (h : slices_Equal_int_int.f k l0 l1 = some r) :
  Calls Try.prog 127 #[.slice A0 l0.length c0, .slice A1 l1.length c1] w fun e w' => e = .returned (.bool r) ∧ Drawn0 w w' := by
 have HR0 := Aside0.mk hr0; have HC0 := Aside0.mk hc0; clear hr0 hc0; have HR1 := Aside0.mk hr1; have HC1 := Aside0.mk hc1; clear hr1 hc1
 have H : (if (l0.length : Int) = (l1.length : Int) then (slices_Equal_int_int.l0 k l0 l1 (l0.length : Int) 0) else (some false)) = some r := h
 clear h
 by_cases c3 : (l0.length : Int) = (l1.length : Int)
 ·rw [if_pos c3] at H
  have c3b0 : ((l0.length : Int) == (l1.length : Int)) = true := beq_iff_eq.mpr c3
  have c3b1 : ((l0.length : Int) != (l1.length : Int)) = false := bne_eq_false_iff_eq.mpr c3
  have c3b2 : (l0.length == l1.length) = true := by first | simpa using c3 | (simp at c3 ⊢; omega)
  clear c3
  have H' := Aside0.mk H
  clear H
  go_enter Try.func127, Try.ntmps127
  go_wp2
  repeat (go_quiet (fail); try go_wp2)
  go_loopg [13] k (fun kq v13 w' => ∃ (x13_1 : Int), v13 = .int .i64 x13_1 ∧ Aside0 (slices_Equal_int_int.l0 kq l0 l1 (l0.length : Int) x13_1 = some r) ∧ Aside0 (kq ≤ k) ∧ Drawn0 w w')
  case atStart => exact ⟨(0), er, H', ⟨Nat.le_refl _⟩, drw⟩
  case round =>
   clear H'
   (try clear c1); (try clear c3b0); (try clear c3b1); (try clear c3b2)
   obtain ⟨x13_1, rfl, HA, HK1, ⟨m1, rfl⟩⟩ := hrel
   cases gk with
   | zero => exact absurd HA.out (by simp [slices_Equal_int_int.l0])
   | succ k1 =>
    have H := HA.out; clear HA
    simp only [slices_Equal_int_int.l0] at H
    by_cases c4 : x13_1 < (l0.length : Int)
    ·rw [if_pos c4] at H
     have c4b0 : decide (x13_1 < (l0.length : Int)) = true := decide_eq_true c4
     clear c4; replace H := ifS H; obtain ⟨c5, H⟩ := H; have c5b0 := decide_eq_true c5; clear c5; replace H := ifS H; obtain ⟨c6, H⟩ := H; have c6b0 := decide_eq_true c6; clear c6; replace H := ifS H; obtain ⟨c7, H⟩ := H; have c7b0 := decide_eq_true c7; clear c7
     by_cases c8 : (rd l0 x13_1) = (rd l1 x13_1)
     ·rw [if_pos c8] at H
      have c8b0 : ((rd l0 x13_1) == (rd l1 x13_1)) = true := beq_iff_eq.mpr c8
      have c8b1 : ((rd l0 x13_1) != (rd l1 x13_1)) = false := bne_eq_false_iff_eq.mpr c8
      clear c8
      have H' := Aside0.mk H
      clear H
      have p237 : 0 ≤ (x13_1 : Int) := da
      have q237 : x13_1 < (l0.length : Int) := da
      obtain ⟨ad237, e237, hx237_0⟩ := Kd.at_int HR0.out x13_1 p237 q237
      cases e237
      replace p237 := eq_true p237; replace q237 := eq_true q237
      have p238 : 0 ≤ (x13_1 : Int) := da
      have q238 : x13_1 < (l1.length : Int) := da
      obtain ⟨ad238, e238, hx238_0⟩ := Kd.at_int HR1.out x13_1 p238 q238
      cases e238
      replace p238 := eq_true p238; replace q238 := eq_true q238; go_wp2
      repeat (go_quiet (fail); try go_wp2)
      go_roundg k1
      case measure => have := HK1.out; omega
      case rel => exact ⟨(wrap64 (x13_1 + 1)), er, H', ⟨by have := HK1.out; omega⟩, drw⟩
     ·rw [if_neg c8] at H
      have c8b0 : ((rd l0 x13_1) == (rd l1 x13_1)) = false := beq_eq_false_iff_ne.mpr c8
      have c8b1 : ((rd l0 x13_1) != (rd l1 x13_1)) = true := bne_iff_ne.mpr c8
      obtain rfl := Option.some.inj H
      have p237 : 0 ≤ (x13_1 : Int) := da
      have q237 : x13_1 < (l0.length : Int) := da
      obtain ⟨ad237, e237, hx237_0⟩ := Kd.at_int HR0.out x13_1 p237 q237
      cases e237
      replace p237 := eq_true p237; replace q237 := eq_true q237
      have p238 : 0 ≤ (x13_1 : Int) := da
      have q238 : x13_1 < (l1.length : Int) := da
      obtain ⟨ad238, e238, hx238_0⟩ := Kd.at_int HR1.out x13_1 p238 q238
      cases e238
      replace p238 := eq_true p238; replace q238 := eq_true q238; go_wp2
      repeat (go_quiet (fail); try go_wp2)
      go_ret
      exact ⟨er, drw⟩
    ·rw [if_neg c4] at H
     have c4b0 : decide (x13_1 < (l0.length : Int)) = false := decide_eq_false c4
     clear c4
     obtain rfl := Option.some.inj H
     go_wp2
     repeat (go_quiet (fail); try go_wp2)
     go_ret
     exact ⟨er, drw⟩
 ·rw [if_neg c3] at H
  have c3b0 : ((l0.length : Int) == (l1.length : Int)) = false := beq_eq_false_iff_ne.mpr c3
  have c3b1 : ((l0.length : Int) != (l1.length : Int)) = true := bne_iff_ne.mpr c3
  have c3b2 : (l0.length == l1.length) = false := by first | simpa using c3 | (simp at c3 ⊢; omega)
  obtain rfl := Option.some.inj H
  go_enter Try.func127, Try.ntmps127
  go_wp2
  repeat (go_quiet (fail); try go_wp2)
  go_ret
  exact ⟨er, drw⟩

/-! ### impl_GoodTable_1: function 126 -/
def impl_GoodTable_1.f (k : Nat) (l0 : List Int) (l1_0 : List Int) : Option (Bool) := (slices_Equal_int_int.f k l0 l1_0).bind fun t239 => (some t239)
theorem impl_GoodTable_1.mono : ∀ a0 a1 k, LeO (impl_GoodTable_1.f k a0 a1) (impl_GoodTable_1.f (k + 1) a0 a1) := by
 intro a0 a1 k
 unfold impl_GoodTable_1.f
 repeat' (first | (with_reducible first | exact slices_Equal_int_int.mono _ _ _ | exact LeO.refl _ | exact LeO.none _ | refine LeO.ite ?_ ?_ | refine LeO.bind ?_ (fun _ => ?_)) | exact slices_Equal_int_int.mono _ _ _ | exact LeO.none _ | refine LeO.ite ?_ ?_ | refine LeO.bind ?_ (fun _ => ?_))
set_option maxHeartbeats 8000000 in
set_option maxRecDepth 100000 in
theorem impl_GoodTable_1.calls (k : Nat) (A0 : Option Addr) (c0 : Nat) (l0 : List Int) (g1_ : Nat) (A1_0 : Option Addr) (c1_0 : Nat) (l1_0 : List Int) (r : Bool) (w : World) (hr0 : Kd.C (Kd.int .i64) w A0 l0.length l0) (hc0 : l0.length ≤ c0) (hr1_0 : Kd.C (Kd.int .i64) w A1_0 l1_0.length l1_0) (hc1_0 : l1_0.length ≤ c1_0) (hq1_0 : w.heap[g1_]? = some (.cells #[.slice A1_0 l1_0.length c1_0] 22 (0, 0))) (h : impl_GoodTable_1.f k l0 l1_0 = some r) :
  Calls Try.prog 126 #[.slice A0 l0.length c0, .pointer (some ⟨g1_, 0, none⟩)] w fun e w' => e = .returned (.bool r) ∧ Drawn0 w w' := by
 have HR0 := Aside0.mk hr0; have HC0 := Aside0.mk hc0; clear hr0 hc0; have HR1_0 := Aside0.mk hr1_0; have HC1_0 := Aside0.mk hc1_0; clear hr1_0 hc1_0
 have hcq1_0_0 : w.cell? ⟨g1_, 0, none⟩ = some (.slice A1_0 l1_0.length c1_0) := (blk_cell hq1_0 0).trans rfl
 have H : ((slices_Equal_int_int.f k l0 l1_0).bind fun t239 => (some t239)) = some r := h
 clear h; replace H := bS H; obtain ⟨t239, A3, H⟩ := H
 replace H : (some t239) = some r := H
 obtain rfl := Option.some.inj H
 go_enter Try.func126, Try.ntmps126
 go_wp2_with (first | ((with_reducible refine gate_callee (f := 127) rfl ?_); refine goesLa (some 6) rfl Try.func127 #[.slice A0 l0.length c0, .slice A1_0 l1_0.length c1_0] rfl ?_; (with_reducible refine (slices_Equal_int_int.calls k _ _ l0 _ _ l1_0 t239 _ ?side1 ?side2 ?side3 ?side4 A3.out).mono ?_); (case side1 => exact cd HR0.out); (case side2 => exact HC0.out); (case side3 => exact cd HR1_0.out); (case side4 => exact HC1_0.out); rintro e w' ⟨rfl, ⟨nd, rfl⟩⟩; refine ⟨_, rfl, ?_⟩))
 go_ret
 exact ⟨er, drw⟩

end Go.Proofs.Ytpibdgknmjjolaa.QFnExactOtherCoins
