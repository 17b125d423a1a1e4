-- printed by this session's own program (wip/tools/pp.py: the kit's print.py with changes); Lean checks it
import Derived.Test.YtpibdgknmjjolaaQFnExactOtherCoinsx0
import Derived.Test.YtpibdgknmjjolaaQFnExactOtherCoinsx7
namespace Go.Proofs.Ytpibdgknmjjolaa.QFnExactOtherCoins
open Go.RowKit Go.Proofs.YtpibdgknmjjolaaW.PrintWords Go.Proofs.YtpibdgknmjjolaaW.PrintLast Go.Proofs.YtpibdgknmjjolaaW.PrintMore
attribute [local go_sem] max2_int min2_int max_two min_two max_three min_three max_four min_four strLss strGtr strLeq strGeq   -- for this text's walks alone
set_option linter.unusedVariables false
set_option linter.unusedSimpArgs false

/-! ### impl_OtherCoins: function 56 -/
mutual
def impl_OtherCoins.j0 : Nat → Int → List Int → Bool → Int → List (List Int) → List Int → Option (Int × (List (List Int)) × List Int × Bool)
  | 0, _, _, _, _, _, _ => none
  | k + 1, x3, x10, x30, x321000, x321001, x321002 => if x30 = true then (some (0, ([] : List (List Int)), ([] : List Int), false)) else ((slices_Clone_int_int.f x321002).bind fun t327 => (impl_OtherCoins.l0 k x3 x10 t327 x321001 (x321001.length : Int) 0 x321000 ([] : List (List Int))))
def impl_OtherCoins.l0 : Nat → Int → List Int → List Int → List (List Int) → Int → Int → Int → List (List Int) → Option (Int × (List (List Int)) × List Int × Bool)
  | 0, _, _, _, _, _, _, _, _ => none
  | k + 1, x3, x10, x36, x39, x40, x41, x331000, x331001 => if x41 < x40 then (if 0 ≤ x41 then (if x41 < (x39.length : Int) then ((slices_Clone_int_int.f (rd_L1 x39 x41)).bind fun t332 => (if x331001.length < 5864062014805 then (impl_OtherCoins.l0 k x3 x10 x36 x39 x40 (wrap64 (x41 + 1)) x331000 (x331001 ++ [t332])) else (none))) else (none)) else (none)) else (impl_OtherCoins.l1 k x3 x10 (x10.length : Int) 0 x331000 x331001 x36)
def impl_OtherCoins.l1 : Nat → Int → List Int → Int → Int → Int → List (List Int) → List Int → Option (Int × (List (List Int)) × List Int × Bool)
  | 0, _, _, _, _, _, _, _ => none
  | k + 1, x3, x53, x54, x55, x331000, x331001, x331002 => if x55 < x54 then (if 0 ≤ x55 then (if x55 < (x53.length : Int) then (if 0 ≤ (rd x53 x55) then (if (rd x53 x55) < (x331002.length : Int) then (impl_OtherCoins.l1 k x3 x53 x54 (wrap64 (x55 + 1)) x331000 x331001 (x331002.set ((rd x53 x55) : Int).toNat (Go.bits .xor .i64 (rd x331002 (rd x53 x55)) x3))) else (none)) else (none)) else (none)) else (none)) else (some (x331000, x331001, x331002, true))
end
def impl_OtherCoins.f (k : Nat) (a0_0 : Int) (l0_1 : List (List Int)) (l0_2 : List Int) (a1 : Int) (a2 : Int) (a3 : Int) : Option (Int × (List (List Int)) × List Int × Bool) := (impl_WayBetween.f k a0_0 l0_1 l0_2 a1 a2).bind fun bt322 => (if bt322.2 = true then ((impl_isByte.f a3).bind fun t326 => (impl_OtherCoins.j0 k a3 bt322.1 (!t326) a0_0 l0_1 l0_2)) else (impl_OtherCoins.j0 k a3 bt322.1 true a0_0 l0_1 l0_2))
theorem impl_OtherCoins.mono_l : ∀ k, (∀ y0 y1 y2 y3 y4 y5, LeO (impl_OtherCoins.j0 k y0 y1 y2 y3 y4 y5) (impl_OtherCoins.j0 (k + 1) y0 y1 y2 y3 y4 y5)) ∧ (∀ y0 y1 y2 y3 y4 y5 y6 y7, LeO (impl_OtherCoins.l0 k y0 y1 y2 y3 y4 y5 y6 y7) (impl_OtherCoins.l0 (k + 1) y0 y1 y2 y3 y4 y5 y6 y7)) ∧ (∀ y0 y1 y2 y3 y4 y5 y6, LeO (impl_OtherCoins.l1 k y0 y1 y2 y3 y4 y5 y6) (impl_OtherCoins.l1 (k + 1) y0 y1 y2 y3 y4 y5 y6))
 | 0 => ⟨fun _ _ _ _ _ _ r h => by simp [impl_OtherCoins.j0] at h, fun _ _ _ _ _ _ _ _ r h => by simp [impl_OtherCoins.l0] at h, fun _ _ _ _ _ _ _ r h => by simp [impl_OtherCoins.l1] at h⟩
 | k + 1 => by
  obtain ⟨ih0, ih1, ih2⟩ := impl_OtherCoins.mono_l k
  refine ⟨?_, ?_, ?_⟩
  ·intro y0 y1 y2 y3 y4 y5
   unfold impl_OtherCoins.j0
   repeat' (first | (with_reducible first | exact ih0 _ _ _ _ _ _ | exact ih1 _ _ _ _ _ _ _ _ | exact ih2 _ _ _ _ _ _ _ | exact impl_WayBetween.mono _ _ _ _ _ _ | exact LeO.refl _ | exact LeO.none _ | refine LeO.ite ?_ ?_ | refine LeO.bind ?_ (fun _ => ?_)) | exact ih0 _ _ _ _ _ _ | exact ih1 _ _ _ _ _ _ _ _ | exact ih2 _ _ _ _ _ _ _ | exact impl_WayBetween.mono _ _ _ _ _ _ | exact LeO.none _ | refine LeO.ite ?_ ?_ | refine LeO.bind ?_ (fun _ => ?_))
  ·intro y0 y1 y2 y3 y4 y5 y6 y7
   unfold impl_OtherCoins.l0
   repeat' (first | (with_reducible first | exact ih0 _ _ _ _ _ _ | exact ih1 _ _ _ _ _ _ _ _ | exact ih2 _ _ _ _ _ _ _ | exact impl_WayBetween.mono _ _ _ _ _ _ | exact LeO.refl _ | exact LeO.none _ | refine LeO.ite ?_ ?_ | refine LeO.bind ?_ (fun _ => ?_)) | exact ih0 _ _ _ _ _ _ | exact ih1 _ _ _ _ _ _ _ _ | exact ih2 _ _ _ _ _ _ _ | exact impl_WayBetween.mono _ _ _ _ _ _ | exact LeO.none _ | refine LeO.ite ?_ ?_ | refine LeO.bind ?_ (fun _ => ?_))
  ·intro y0 y1 y2 y3 y4 y5 y6
   unfold impl_OtherCoins.l1
   repeat' (first | (with_reducible first | exact ih0 _ _ _ _ _ _ | exact ih1 _ _ _ _ _ _ _ _ | exact ih2 _ _ _ _ _ _ _ | exact impl_WayBetween.mono _ _ _ _ _ _ | exact LeO.refl _ | exact LeO.none _ | refine LeO.ite ?_ ?_ | refine LeO.bind ?_ (fun _ => ?_)) | exact ih0 _ _ _ _ _ _ | exact ih1 _ _ _ _ _ _ _ _ | exact ih2 _ _ _ _ _ _ _ | exact impl_WayBetween.mono _ _ _ _ _ _ | exact LeO.none _ | refine LeO.ite ?_ ?_ | refine LeO.bind ?_ (fun _ => ?_))
theorem impl_OtherCoins.mono : ∀ a0 a1 a2 a3 a4 a5 k, LeO (impl_OtherCoins.f k a0 a1 a2 a3 a4 a5) (impl_OtherCoins.f (k + 1) a0 a1 a2 a3 a4 a5) := by
 intro a0 a1 a2 a3 a4 a5 k
 obtain ⟨ih0, ih1, ih2⟩ := impl_OtherCoins.mono_l k
 unfold impl_OtherCoins.f
 repeat' (first | (with_reducible first | exact ih0 _ _ _ _ _ _ | exact ih1 _ _ _ _ _ _ _ _ | exact ih2 _ _ _ _ _ _ _ | exact impl_WayBetween.mono _ _ _ _ _ _ | exact LeO.refl _ | exact LeO.none _ | refine LeO.ite ?_ ?_ | refine LeO.bind ?_ (fun _ => ?_)) | exact ih0 _ _ _ _ _ _ | exact ih1 _ _ _ _ _ _ _ _ | exact ih2 _ _ _ _ _ _ _ | exact impl_WayBetween.mono _ _ _ _ _ _ | exact LeO.none _ | refine LeO.ite ?_ ?_ | refine LeO.bind ?_ (fun _ => ?_))
def impl_OtherCoins.T4 : Bool × List (List Nat × List Nat) := (true, [([], []), ([0], [0]), ([], []), ([2], [2]), ([3], [3]), ([1, 4], [1, 4]), ([], []), ([6, 5, 4, 0, 1, 2, 3, 4, 5, 6], [5, 6])])
def impl_OtherCoins.B4 : List Nat := [0, 1, 0, 4, 12, 31, 0, 127]
theorem impl_OtherCoins.tab4 : rtab .any (opsOf Try.f56 4) = impl_OtherCoins.T4 := by kernel_rfl
theorem impl_OtherCoins.bits4 : waitsOk impl_OtherCoins.T4.2 impl_OtherCoins.B4 = true := by kernel_rfl
def impl_OtherCoins.T8 : Bool × List (List Nat × List Nat) := (true, [([], []), ([0], [0]), ([], []), ([2], [2]), ([3], [3]), ([1, 4, 3], [1, 4]), ([0, 1, 2, 3, 4, 5], []), ([6, 5, 5, 0, 1, 2, 3, 4, 5], [5, 6])])
def impl_OtherCoins.B8 : List Nat := [0, 1, 0, 4, 12, 31, 63, 127]
theorem impl_OtherCoins.tab8 : rtab .any (opsOf Try.f56 8) = impl_OtherCoins.T8 := by kernel_rfl
theorem impl_OtherCoins.bits8 : waitsOk impl_OtherCoins.T8.2 impl_OtherCoins.B8 = true := by kernel_rfl
set_option maxHeartbeats 8000000 in
set_option maxRecDepth 100000 in
theorem impl_OtherCoins.calls (k : Nat) (a0_0 : Int) (A0_1 : Option Addr) (c0_1 : Nat) (l0_1 : List (List Int)) (A0_2 : Option Addr) (c0_2 : Nat) (l0_2 : List Int) (a1 : Int) (a2 : Int) (a3 : Int) (r1 : Int) (r2 : List (List Int)) (r3 : List Int) (r4 : Bool) (w : World) (hr0_1 : Kd.C (Kd.slice 3 (Kd.int .i64)) w A0_1 l0_1.length l0_1) (hc0_1 : l0_1.length ≤ c0_1) (hr0_2 : Kd.C (Kd.int .i64) w A0_2 l0_2.length l0_2) (hc0_2 : l0_2.length ≤ c0_2) (h : impl_OtherCoins.f k a0_0 l0_1 l0_2 a1 a2 a3 = some (r1, r2, r3, r4)) :
  Calls Try.prog 56 #[.agg #[.int .i64 a0_0, .slice A0_1 l0_1.length c0_1, .slice A0_2 l0_2.length c0_2], .int .i64 a1, .int .i64 a2, .int .i64 a3] w fun e w' => ∃ v1_ v2_ : Value, e = .returned (.tuple #[.agg #[.int .i64 r1, v1_, v2_], .bool r4]) ∧ Kd.S (Kd.slice 3 (Kd.int .i64)) 22 w' w.heap.size (fun k_ => some k_ ≠ (v2_ : Value).ownBlock) v1_ r2 ∧ Kd.R (Kd.int .i64) 3 w' w.heap.size (fun _ => True) v2_ r3 ∧ Below w.heap.size w w' := by
 have hu38 := Try.underlying38
 have HR0_1 := Aside0.mk hr0_1; have HC0_1 := Aside0.mk hc0_1; clear hr0_1 hc0_1; have HR0_2 := Aside0.mk hr0_2; have HC0_2 := Aside0.mk hc0_2; clear hr0_2 hc0_2
 have HB := Aside0.mk (Below.refl w.heap.size w)
 have H : ((impl_WayBetween.f k a0_0 l0_1 l0_2 a1 a2).bind fun bt322 => (if bt322.2 = true then ((impl_isByte.f a3).bind fun t326 => (impl_OtherCoins.j0 k a3 bt322.1 (!t326) a0_0 l0_1 l0_2)) else (impl_OtherCoins.j0 k a3 bt322.1 true a0_0 l0_1 l0_2))) = some (r1, r2, r3, r4) := h
 clear h; replace H := bS H; obtain ⟨⟨t322, t325⟩, A5, H⟩ := H
 replace H : (if t325 = true then ((impl_isByte.f a3).bind fun t326 => (impl_OtherCoins.j0 k a3 t322 (!t326) a0_0 l0_1 l0_2)) else (impl_OtherCoins.j0 k a3 t322 true a0_0 l0_1 l0_2)) = some (r1, r2, r3, r4) := H
 have HC6 := Aside0.mk H; clear H
 go_enter Try.func56, Try.ntmps56
 go_upto_region 2 with (first | ((with_reducible refine gate_dst (N := 4) rfl ?_); refine boxev 4 #[.int .i64 a0_0, .slice A0_1 l0_1.length c0_1, .slice A0_2 l0_2.length c0_2] 38 ?_; intro gb320 hg w7 hbox hb; have BK320 := ak (hbox); have GW320 := ak (hgl hg (belowd HB)); have GE320 := ak (hgl hg (belowd HB)); replace HB := ak (below_step (belowd HB) hb); clear hb hbox hg) | ((with_reducible refine gate_dst (N := 8) rfl ?_); refine boxev 8 #[.int .i64 0, .slice none 0 0, .slice none 0 0] 38 ?_; intro gb321 hg w8 hbox hb; have BK321 := ak (hbox); have GW321 := ak (hgl hg (belowg1 HB GE320)); have GE321 := ak (hgl hg (belowg1 HB GE320)); replace HB := ak (below_step (belowg1 HB GE320) hb); have NB320_321 := ak ((by rw [hg]; exact Nat.ne_of_lt (blk_lt (blkd BK320)) : gb320 ≠ gb321)); have NB321_320 := ak ((by rw [hg]; exact Nat.ne_of_gt (blk_lt (blkd BK320)) : gb321 ≠ gb320)); replace BK320 := ak (blk_below (blkd BK320) hb); clear hb hbox hg; have hnb9 := NB320_321.out; have hnc9 := NB321_320.out; obtain ⟨hcz10_0, hcz10_1, hcz10_2, hfz10_0, hfz10_1, hfz10_2⟩ := box3 BK320) | ((with_reducible refine gate_callee (f := 43) rfl ?_); refine goesLa (some 21) rfl Try.func43 #[.agg #[.int .i64 a0_0, .slice A0_1 l0_1.length c0_1, .slice A0_2 l0_2.length c0_2], .int .i64 a1, .int .i64 a2] rfl ?_; (with_reducible refine (impl_WayBetween.calls k a0_0 _ _ l0_1 _ _ l0_2 a1 a2 t322 t325 _ ?side1 ?side2 ?side3 ?side4 A5.out).mono ?_); (case side1 => exact cd (Kd.C_below HR0_1.out HB.out)); (case side2 => exact HC0_1.out); (case side3 => exact cd (Kd.C_below HR0_2.out HB.out)); (case side4 => exact HC0_2.out); rintro e w11 ⟨v323, rfl, ho0, hb⟩; refine ⟨_, rfl, ?_⟩; have HO324 := ak (Kd.R_lower ho0 (below_size (belowg2 HB GE320 GE321))); replace BK320 := ak (blk_below (blkd BK320) hb); replace BK321 := ak (blk_below (blkd BK321) hb); replace HB := ak (below_step (belowg2 HB GE320 GE321) hb); (try clear hb); (try clear ho0)))
 (try simp only [Act.put, List.setIfInBounds_toArray, List.set_cons_zero, List.set_cons_succ])
 go_cut [30] (fun v30 wc => ∃ (kq : Nat) (x30_5 : Bool), v30 = .bool x30_5 ∧ Aside0 (impl_OtherCoins.j0 kq a3 t322 x30_5 a0_0 l0_1 l0_2 = some (r1, r2, r3, r4)) ∧ Aside0 (kq ≤ k) ∧ Aside0 (Kd.R (Kd.int .i64) 3 wc w.heap.size (fun _ => True) v323 t322) ∧ Aside0 (wc.heap[gb320]? = some (.cells #[.int .i64 a0_0, (.slice A0_1 l0_1.length c0_1), (.slice A0_2 l0_2.length c0_2)] 38 (0, 0))) ∧ Aside0 (wc.heap[gb321]? = some (.cells #[.int .i64 0, (.slice none 0 0), (.slice none 0 0)] 38 (0, 0))) ∧ Aside0 (Below w.heap.size w wc))
 case first =>
  have H := HC6.out; clear HC6
  by_cases c12 : t325 = true
  ·subst c12
   have H1 : ((impl_isByte.f a3).bind fun t326 => (impl_OtherCoins.j0 k a3 t322 (!t326) a0_0 l0_1 l0_2)) = some (r1, r2, r3, r4) := by rw [if_pos rfl] at H; exact H
   clear H
   have H := H1
   clear H1; replace H := bS H; obtain ⟨t326, A13, H⟩ := H
   replace H : (impl_OtherCoins.j0 k a3 t322 (!t326) a0_0 l0_1 l0_2) = some (r1, r2, r3, r4) := H
   have H' := Aside0.mk H
   clear H
   go_wp2_with (first | (go_at_call 120; (with_reducible refine (impl_isByte.calls a3 t326 _ A13.out).mono ?_); rintro e w' ⟨rfl, ⟨nd, rfl⟩⟩))
   go_meet
   case rel => exact ⟨_, (!t326), er, H', ⟨by first | omega | exact Nat.le_refl _⟩, ⟨rdl HO324⟩, ⟨blkd BK320⟩, ⟨blkd BK321⟩, ⟨belowg2 HB GE320 GE321⟩⟩
  ·replace c12 := Bool.eq_false_iff.mpr c12
   subst c12
   have H1 : (impl_OtherCoins.j0 k a3 t322 true a0_0 l0_1 l0_2) = some (r1, r2, r3, r4) := by rw [if_neg (show ¬ (false = true) by decide)] at H; exact H
   clear H
   have H := H1
   clear H1
   have H' := Aside0.mk H
   clear H; go_wp2
   go_meet
   case rel => exact ⟨_, (true), er, H', ⟨by first | omega | exact Nat.le_refl _⟩, ⟨rdl HO324⟩, ⟨blkd BK320⟩, ⟨blkd BK321⟩, ⟨belowg2 HB GE320 GE321⟩⟩
 case rest =>
  clear HC6; (try clear hcz10_0); (try clear hcz10_1); (try clear hcz10_2); (try clear hfz10_0); (try clear hfz10_1); (try clear hfz10_2)
  obtain ⟨kq, x30_5, rfl, HA, HJ5, HO_10, BK320, BK321, HB⟩ := hcut
  cases kq with
  | zero => exact absurd HA.out (by simp [impl_OtherCoins.j0])
  | succ kj5 =>
   have H := HA.out; clear HA
   simp only [impl_OtherCoins.j0] at H
   by_cases c14 : x30_5 = true
   ·subst c14
    have H1 : (some (0, ([] : List (List Int)), ([] : List Int), false)) = some (r1, r2, r3, r4) := by rw [if_pos rfl] at H; exact H
    clear H
    have H := H1
    clear H1
    simp only [Option.some.injEq, Prod.mk.injEq] at H
    obtain ⟨rfl, rfl, rfl, rfl⟩ := H; have hnb15 := NB321_320.out; have hnc15 := NB320_321.out; obtain ⟨hcz16_0, hcz16_1, hcz16_2, hfz16_0, hfz16_1, hfz16_2⟩ := box3 BK321; go_wp2
    refine bodyPost_ret (results_ct rfl _ _ gb321 38 #[.int .i64 0, .slice none 0 0, .slice none 0 0] (0, 0) _ rfl (by (with_reducible repeat (first | refine blk_drewN ?_ _ | refine blk_drew ?_ | refine blk_alloc ?_ _)); refine blk_put (cs := #[.int .i64 0, .slice none 0 0, .slice none 0 0]) ?_ 2 _ rfl; (with_reducible repeat (first | refine blk_drewN ?_ _ | refine blk_drew ?_ | refine blk_alloc ?_ _)); refine blk_put (cs := #[.int .i64 0, .slice none 0 0, .slice none 0 0]) ?_ 1 _ rfl; (with_reducible repeat (first | refine blk_drewN ?_ _ | refine blk_drew ?_ | refine blk_alloc ?_ _)); refine blk_put (cs := #[.int .i64 0, .slice none 0 0, .slice none 0 0]) ?_ 0 _ rfl; (with_reducible repeat (first | refine blk_drewN ?_ _ | refine blk_drew ?_ | refine blk_alloc ?_ _)); exact BK321.out) Try.underlying38 rfl (by kernel_rfl)) rfl ?_
    exact ⟨_, _, er2, by first | exact Kd.S_nil _ _ _ _ _ | exact Kd.N_nil _ _ _ _ _ | exact Kd.V_nil _ _ _ _ _ | exact Kd.Q_nil _ _ _ _ _ | exact Kd.R_nil _ _ _ _ _, by first | exact Kd.R_nil _ _ _ _ _ | exact Kd.N_nil _ _ _ _ _ | exact Kd.V_nil _ _ _ _ _ | exact Kd.Q_nil _ _ _ _ _ | exact Kd.S_nil _ _ _ _ _, belowg2 HB GE320 GE321⟩
   ·replace c14 := Bool.eq_false_iff.mpr c14
    subst c14
    have H1 : ((slices_Clone_int_int.f l0_2).bind fun t327 => (impl_OtherCoins.l0 kj5 a3 t322 t327 l0_1 (l0_1.length : Int) 0 a0_0 ([] : List (List Int)))) = some (r1, r2, r3, r4) := by rw [if_neg (show ¬ (false = true) by decide)] at H; exact H
    clear H
    have H := H1
    clear H1; replace H := bS H; obtain ⟨t327, A17, H⟩ := H
    replace H : (impl_OtherCoins.l0 kj5 a3 t322 t327 l0_1 (l0_1.length : Int) 0 a0_0 ([] : List (List Int))) = some (r1, r2, r3, r4) := H
    have H' := Aside0.mk H
    clear H
    try go_wp2
    replace HO_10 := ak (Kd.R_drew HO_10.out)
    replace BK320 := ak (blk_drew BK320.out)
    replace BK321 := ak (blk_drew BK321.out)
    replace HB := ak (below_drew1 HB.out)
    refine start_ (n := 8) (S := fun w' => w'.cell? ⟨gb320, 0, none⟩ = some (.int .i64 a0_0) ∧ w'.cell? ⟨gb320, 1, none⟩ = some (.slice A0_1 l0_1.length c0_1) ∧ w'.cell? ⟨gb320, 2, none⟩ = some (.slice A0_2 l0_2.length c0_2)) (ds := []) (bl 8 0) (by kernel_rfl) rfl rfl ⟨bq BK320 0, bq BK320 1, bq BK320 2⟩ (fun hHeld => ?_); refine with_tabW impl_OtherCoins.tab4 impl_OtherCoins.bits4 (fun HT_ HW_ => ?_)
    generalize wc.drew = w18 at HO_10 BK320 BK321 HB hHeld ⊢
    refine pureA 0 (some 32) 8 1 HT_ ?_
    refine pureA 2 (some 34) 8 5 HT_ ?_
    refine takeA 1 (some 33) 8 7 HT_ HW_ hHeld ?_ (hy := by rintro w' ⟨s0, s1, s2⟩; go_simp; with_reducible rfl)
    refine takeA 3 (some 35) 8 15 HT_ HW_ hHeld ?_ (hy := by rintro w' ⟨s0, s1, s2⟩; go_simp; with_reducible rfl)
    refine join_ (σ := Value × Nat) 1 (bl 8 127) (fun s_ => [(36, s_.1), (12, .pointer (some ⟨s_.2, 0, none⟩)), (37, .agg #[.int .i64 a0_0, .slice none 0 0, s_.1])]) (fun s_ w' => (w'.cell? ⟨gb320, 0, none⟩ = some (.int .i64 a0_0) ∧ w'.cell? ⟨gb320, 1, none⟩ = some (.slice A0_1 l0_1.length c0_1) ∧ w'.cell? ⟨gb320, 2, none⟩ = some (.slice A0_2 l0_2.length c0_2)) ∧ (Kd.R (Kd.int .i64) 3 w' w.heap.size (fun k_ => some k_ ≠ (v323 : Value).ownBlock) s_.1 t327) ∧ (Kd.R (Kd.int .i64) 3 w' w.heap.size (fun k_ => some k_ ≠ (s_.1 : Value).ownBlock) v323 t322) ∧ (w'.heap[gb320]? = some (.cells #[.int .i64 a0_0, .slice A0_1 l0_1.length c0_1, .slice A0_2 l0_2.length c0_2] 38 (0, 0))) ∧ (w'.heap[gb321]? = some (.cells #[.int .i64 0, .slice none 0 0, .slice none 0 0] 38 (0, 0))) ∧ (w'.heap[s_.2]? = some (.cells #[.int .i64 0, .slice none 0 0, .slice none 0 0] 38 (0, 0))) ∧ (w.heap.size ≤ s_.2) ∧ (w.heap.size ≤ s_.2) ∧ (gb320 ≠ s_.2) ∧ (s_.2 ≠ gb320) ∧ (gb321 ≠ s_.2) ∧ (s_.2 ≠ gb321) ∧ (Below w.heap.size w w')) ?_ ?_
    rotate_left
    ·intro hCont
     refine two_ (i := 4) (j := 6) (Ni := some 36) (Nj := some 12) (bl 8 31) (bl 8 79) rfl rfl rfl rfl (two_of HT_.out (by kernel_rfl)) (by decide) (by decide) (fun K hK => ?_) (fun K hK => ?_)
     ·skip
      refine goes_ Try.func121 (by kernel_rfl) rfl #[.slice A0_2 l0_2.length c0_2] (by rfl) rfl rfl (by (try simp only [List.map_toArray, List.map_cons, List.map_nil]); first | done | rfl | (simp only [List.length_drop, List.length_take]; rfl)) ?_
      with_reducible refine (slices_Clone_int_int.calls _ _ l0_2 t327 _ ?side1 ?side2 A17.out).mono ?_
      (case side1 => exact cd (Kd.C_below HR0_2.out HB.out))
      (case side2 => exact HC0_2.out)
      rintro e w19 ⟨v328, rfl, ho0, hb⟩
      refine ⟨_, rfl, ?_⟩
      have HO329 := ak (Kd.R_lower (Kd.R_new' ho0 (Kd.R_lt (rdl HO_10))) (below_size (belowg2 HB GE320 GE321)))
      replace HO_10 := ak (Kd.R_elder' (rdl HO_10) (Kd.R_base ho0) hb)
      replace BK320 := ak (blk_below (blkd BK320) hb)
      replace BK321 := ak (blk_below (blkd BK321) hb)
      replace HB := ak (below_step (belowg2 HB GE320 GE321) hb)
      (try clear hb); (try clear hb2); (try clear hk); (try clear hi); (try clear ho0)
      obtain ⟨Ao20, co20, eo20⟩ := Kd.R_slice HO329.out
      (first | subst eo20 | (injection eo20 with f1_ f2_ f3_; have f4_ := f1_.symm; have f5_ := f3_.symm; clear f1_ f2_ f3_; subst f4_; subst f5_))
      refine hK.out _ _ ⟨bq BK320 0, bq BK320 1, bq BK320 2⟩ (fun hHeld => ?_)
      clear hK K
      refine norm_ (a' := ?_) ?_ ?_
      rotate_left
      ·show Act.put _ (some 36) _ = _
       simp only [Act.put, List.setIfInBounds_toArray, List.set_cons_zero, List.set_cons_succ, i64_w, i32_w]
       rfl
      refine pureA 5 (some 37) 8 63 HT_ ?_
      refine oneA 6 (some 12) 8 127 HT_ (fun K hK => ?_)
      refine box_step ?hg (N := 12) ?hd (cs := #[.int .i64 0, .slice none 0 0, .slice none 0 0]) (t := 38) ?hr ?_; (case hd => rfl); (case hg => rfl); (case hr => first | (go_simp; done) | (go_simp; rfl))
      intro gb330 hg w21 hbox hb
      replace HO_10 := ak (Kd.R_below (rdl HO_10) hb)
      replace HO329 := ak (Kd.R_below (rdl HO329) hb)
      have BK330 := ak (hbox)
      have GW330 := ak (hgl hg (belowg2 HB GE320 GE321))
      have GE330 := ak (hgl hg (belowg2 HB GE320 GE321))
      replace HB := ak (below_step (belowg2 HB GE320 GE321) hb)
      have NB320_330 := ak ((by rw [hg]; exact Nat.ne_of_lt (blk_lt (blkd BK320)) : gb320 ≠ gb330))
      have NB330_320 := ak ((by rw [hg]; exact Nat.ne_of_gt (blk_lt (blkd BK320)) : gb330 ≠ gb320))
      replace BK320 := ak (blk_below (blkd BK320) hb)
      have NB321_330 := ak ((by rw [hg]; exact Nat.ne_of_lt (blk_lt (blkd BK321)) : gb321 ≠ gb330))
      have NB330_321 := ak ((by rw [hg]; exact Nat.ne_of_gt (blk_lt (blkd BK321)) : gb330 ≠ gb321))
      replace BK321 := ak (blk_below (blkd BK321) hb)
      clear hb hbox hg
      refine hK.out _ _ ⟨bq BK320 0, bq BK320 1, bq BK320 2⟩ (fun hHeld => ?_)
      clear hK K
      refine norm_ (a' := ?_) ?_ ?_
      rotate_left
      ·show Act.put _ (some 12) _ = _
       simp only [Act.put, List.setIfInBounds_toArray, List.set_cons_zero, List.set_cons_succ, i64_w, i32_w]
       rfl
      exact norm_ (by simp only [putAll, Act.put, List.setIfInBounds_toArray, List.set_cons_zero, List.set_cons_succ]) (hCont (.slice Ao20 t327.length co20, gb330) _ ⟨hHeld, (by (with_reducible repeat (first | apply Kd.R_alloc | apply Kd.R_drewN | apply Kd.R_drew)); exact Kd.R_mono HO329.out (fun _ hk => hk.2)), (by (with_reducible repeat (first | apply Kd.R_alloc | apply Kd.R_drewN | apply Kd.R_drew)); exact Kd.R_mono HO_10.out (fun _ hk => hk.2)), (blkd BK320), (blkd BK321), (blkd BK330), GW330.out, GE330.out, NB320_330.out, NB330_320.out, NB321_330.out, NB330_321.out, (belowg3 HB GE320 GE321 GE330)⟩)
     ·skip
      refine box_step ?hg (N := 12) ?hd (cs := #[.int .i64 0, .slice none 0 0, .slice none 0 0]) (t := 38) ?hr ?_; (case hd => rfl); (case hg => rfl); (case hr => first | (go_simp; done) | (go_simp; rfl))
      intro gb330 hg w19 hbox hb
      replace HO_10 := ak (Kd.R_below (rdl HO_10) hb)
      have BK330 := ak (hbox)
      have GW330 := ak (hgl hg (belowg2 HB GE320 GE321))
      have GE330 := ak (hgl hg (belowg2 HB GE320 GE321))
      replace HB := ak (below_step (belowg2 HB GE320 GE321) hb)
      have NB320_330 := ak ((by rw [hg]; exact Nat.ne_of_lt (blk_lt (blkd BK320)) : gb320 ≠ gb330))
      have NB330_320 := ak ((by rw [hg]; exact Nat.ne_of_gt (blk_lt (blkd BK320)) : gb330 ≠ gb320))
      replace BK320 := ak (blk_below (blkd BK320) hb)
      have NB321_330 := ak ((by rw [hg]; exact Nat.ne_of_lt (blk_lt (blkd BK321)) : gb321 ≠ gb330))
      have NB330_321 := ak ((by rw [hg]; exact Nat.ne_of_gt (blk_lt (blkd BK321)) : gb330 ≠ gb321))
      replace BK321 := ak (blk_below (blkd BK321) hb)
      clear hb hbox hg
      refine hK.out _ _ ⟨bq BK320 0, bq BK320 1, bq BK320 2⟩ (fun hHeld => ?_)
      clear hK K
      refine norm_ (a' := ?_) ?_ ?_
      rotate_left
      ·show Act.put _ (some 12) _ = _
       simp only [Act.put, List.setIfInBounds_toArray, List.set_cons_zero, List.set_cons_succ, i64_w, i32_w]
       rfl
      refine oneA 4 (some 36) 8 95 HT_ (fun K hK => ?_)
      refine goes_ Try.func121 (by kernel_rfl) rfl #[.slice A0_2 l0_2.length c0_2] (by rfl) rfl rfl (by (try simp only [List.map_toArray, List.map_cons, List.map_nil]); first | done | rfl | (simp only [List.length_drop, List.length_take]; rfl)) ?_
      with_reducible refine (slices_Clone_int_int.calls _ _ l0_2 t327 _ ?side1 ?side2 A17.out).mono ?_
      (case side1 => exact cd (Kd.C_below HR0_2.out HB.out))
      (case side2 => exact HC0_2.out)
      rintro e w20 ⟨v328, rfl, ho0, hb⟩
      refine ⟨_, rfl, ?_⟩
      have HO329 := ak (Kd.R_lower (Kd.R_new' ho0 (Kd.R_lt (rdl HO_10))) (below_size (belowg3 HB GE320 GE321 GE330)))
      replace HO_10 := ak (Kd.R_elder' (rdl HO_10) (Kd.R_base ho0) hb)
      replace BK320 := ak (blk_below (blkd BK320) hb)
      replace BK321 := ak (blk_below (blkd BK321) hb)
      replace BK330 := ak (blk_below (blkd BK330) hb)
      replace HB := ak (below_step (belowg3 HB GE320 GE321 GE330) hb)
      (try clear hb); (try clear hb2); (try clear hk); (try clear hi); (try clear ho0)
      obtain ⟨Ao21, co21, eo21⟩ := Kd.R_slice HO329.out
      (first | subst eo21 | (injection eo21 with f1_ f2_ f3_; have f4_ := f1_.symm; have f5_ := f3_.symm; clear f1_ f2_ f3_; subst f4_; subst f5_))
      refine hK.out _ _ ⟨bq BK320 0, bq BK320 1, bq BK320 2⟩ (fun hHeld => ?_)
      clear hK K
      refine norm_ (a' := ?_) ?_ ?_
      rotate_left
      ·show Act.put _ (some 36) _ = _
       simp only [Act.put, List.setIfInBounds_toArray, List.set_cons_zero, List.set_cons_succ, i64_w, i32_w]
       rfl
      refine pureA 5 (some 37) 8 127 HT_ ?_
      exact norm_ (by simp only [putAll, Act.put, List.setIfInBounds_toArray, List.set_cons_zero, List.set_cons_succ]) (hCont (.slice Ao21 t327.length co21, gb330) _ ⟨hHeld, (by (with_reducible repeat (first | apply Kd.R_alloc | apply Kd.R_drewN | apply Kd.R_drew)); exact Kd.R_mono HO329.out (fun _ hk => hk.2)), (by (with_reducible repeat (first | apply Kd.R_alloc | apply Kd.R_drewN | apply Kd.R_drew)); exact Kd.R_mono HO_10.out (fun _ hk => hk.2)), (blkd BK320), (blkd BK321), (blkd BK330), GW330.out, GE330.out, NB320_330.out, NB330_320.out, NB321_330.out, NB330_321.out, (belowg3 HB GE320 GE321 GE330)⟩)
    rintro ⟨v328, gb330⟩ w22 ⟨hS_, h0_, h1_, h2_, h3_, h4_, h5_, h6_, h7_, h8_, h9_, h10_, h11_⟩
    have n0_ : Aside0 (Kd.R (Kd.int .i64) 3 w22 w.heap.size (fun k_ => some k_ ≠ (v323 : Value).ownBlock) v328 t327) := ⟨h0_⟩
    have n1_ : Aside0 (Kd.R (Kd.int .i64) 3 w22 w.heap.size (fun k_ => some k_ ≠ (v328 : Value).ownBlock) v323 t322) := ⟨h1_⟩
    have n2_ : Aside0 (w22.heap[gb320]? = some (.cells #[.int .i64 a0_0, .slice A0_1 l0_1.length c0_1, .slice A0_2 l0_2.length c0_2] 38 (0, 0))) := ⟨h2_⟩
    have n3_ : Aside0 (w22.heap[gb321]? = some (.cells #[.int .i64 0, .slice none 0 0, .slice none 0 0] 38 (0, 0))) := ⟨h3_⟩
    have n4_ : Aside0 (w22.heap[gb330]? = some (.cells #[.int .i64 0, .slice none 0 0, .slice none 0 0] 38 (0, 0))) := ⟨h4_⟩
    have n5_ : Aside0 (w.heap.size ≤ gb330) := ⟨h5_⟩
    have n6_ : Aside0 (w.heap.size ≤ gb330) := ⟨h6_⟩
    have n7_ : Aside0 (gb320 ≠ gb330) := ⟨h7_⟩
    have n8_ : Aside0 (gb330 ≠ gb320) := ⟨h8_⟩
    have n9_ : Aside0 (gb321 ≠ gb330) := ⟨h9_⟩
    have n10_ : Aside0 (gb330 ≠ gb321) := ⟨h10_⟩
    have n11_ : Aside0 (Below w.heap.size w w22) := ⟨h11_⟩
    clear HO_10; clear BK320; clear BK321; clear HB; clear h0_ h1_ h2_ h3_ h4_ h5_ h6_ h7_ h8_ h9_ h10_ h11_
    have HO329 := n0_
    have HO_10 := n1_
    have BK320 := n2_
    have BK321 := n3_
    have BK330 := n4_
    have GW330 := n5_
    have GE330 := n6_
    have NB320_330 := n7_
    have NB330_320 := n8_
    have NB321_330 := n9_
    have NB330_321 := n10_
    have HB := n11_
    clear n0_ n1_ n2_ n3_ n4_ n5_ n6_ n7_ n8_ n9_ n10_ n11_
    have hHeld : w22.cell? ⟨gb320, 0, none⟩ = some (.int .i64 a0_0) ∧ w22.cell? ⟨gb320, 1, none⟩ = some (.slice A0_1 l0_1.length c0_1) ∧ w22.cell? ⟨gb320, 2, none⟩ = some (.slice A0_2 l0_2.length c0_2) := hS_
    obtain ⟨Ao23, co23, eo23⟩ := Kd.R_slice HO329.out
    (first | subst eo23 | (injection eo23 with f1_ f2_ f3_; have f4_ := f1_.symm; have f5_ := f3_.symm; clear f1_ f2_ f3_; subst f4_; subst f5_))
    refine norm_ (a' := ?_) ?_ ?_
    rotate_left
    ·simp only [putAll, Act.put, List.setIfInBounds_toArray, List.set_cons_zero, List.set_cons_succ]
     rfl
    refine oneA 7 none 8 255 HT_ (fun K hK => ?_)
    have hs24 : w22.cell? ⟨gb330, 0, none⟩ = some (.int .i64 0) := bq BK330 0
    have hfs24 := blk_frozen BK330.out 0
    have hns24_0 := NB320_330.out; have hns24_1 := NB321_330.out; have hms24_0 := NB330_320.out; have hms24_1 := NB330_321.out
    have hs25 : w22.cell? ⟨gb330, 1, none⟩ = some (.slice none 0 0) := bq BK330 1
    have hfs25 := blk_frozen BK330.out 1
    have hns25_0 := NB320_330.out; have hns25_1 := NB321_330.out; have hms25_0 := NB330_320.out; have hms25_1 := NB330_321.out
    have hs26 : w22.cell? ⟨gb330, 2, none⟩ = some (.slice none 0 0) := bq BK330 2
    have hfs26 := blk_frozen BK330.out 2
    have hns26_0 := NB320_330.out; have hns26_1 := NB321_330.out; have hms26_0 := NB330_320.out; have hms26_1 := NB330_321.out
    refine skip_ (w1 := ?_) (by rfl) rfl ?_ ?_
    rotate_left
    ·go_simp
     rfl
    refine hK.out _ _ ⟨((cell_far (p := ⟨gb330, _, none⟩) NB320_330.out _).trans (((cell_far (p := ⟨gb330, _, none⟩) NB320_330.out _).trans (((cell_far (p := ⟨gb330, _, none⟩) NB320_330.out _).trans (hHeld.1)))))), ((cell_far (p := ⟨gb330, _, none⟩) NB320_330.out _).trans (((cell_far (p := ⟨gb330, _, none⟩) NB320_330.out _).trans (((cell_far (p := ⟨gb330, _, none⟩) NB320_330.out _).trans (hHeld.2.1)))))), ((cell_far (p := ⟨gb330, _, none⟩) NB320_330.out _).trans (((cell_far (p := ⟨gb330, _, none⟩) NB320_330.out _).trans (((cell_far (p := ⟨gb330, _, none⟩) NB320_330.out _).trans (hHeld.2.2))))))⟩ (fun hHeld => ?_)
    clear hK K
    refine done_ (done_of HT_.out (by kernel_rfl)) ?_
    have hnb27 := NB320_321.out; have hnc27 := NB321_320.out; have hnb28 := NB320_330.out; have hnc28 := NB330_320.out; obtain ⟨hcz29_0, hcz29_1, hcz29_2, hfz29_0, hfz29_1, hfz29_2⟩ := box3 BK320
    try go_wp2
    go_loopg [41] kj5 (fun kq v41 w' => ∃ (x41_2 : Int) (x331001_2 : List (List Int)) (u331001 : Value), v41 = .int .i64 x41_2 ∧ Aside0 (impl_OtherCoins.l0 kq a3 t322 t327 l0_1 (l0_1.length : Int) x41_2 a0_0 x331001_2 = some (r1, r2, r3, r4)) ∧ Aside0 (kq ≤ kj5) ∧ Aside0 (Kd.R (Kd.int .i64) 3 w' w.heap.size (fun k_ => some k_ ≠ ((.slice Ao23 t327.length co23) : Value).ownBlock) v323 t322) ∧ Aside0 (Kd.R (Kd.int .i64) 3 w' w.heap.size (fun k_ => some k_ ≠ (v323 : Value).ownBlock) (.slice Ao23 t327.length co23) t327) ∧ Aside0 (Kd.S (Kd.slice 3 (Kd.int .i64)) 22 w' w.heap.size (fun k_ => some k_ ≠ (v323 : Value).ownBlock ∧ some k_ ≠ ((.slice Ao23 t327.length co23) : Value).ownBlock) u331001 x331001_2) ∧ Aside0 (w'.heap[gb320]? = some (.cells #[.int .i64 a0_0, (.slice A0_1 l0_1.length c0_1), (.slice A0_2 l0_2.length c0_2)] 38 (0, 0))) ∧ Aside0 (w'.heap[gb321]? = some (.cells #[.int .i64 0, (.slice none 0 0), (.slice none 0 0)] 38 (0, 0))) ∧ Aside0 (w'.heap[gb330]? = some (.cells #[.int .i64 a0_0, u331001, (.slice Ao23 t327.length co23)] 38 (0, 0))) ∧ Aside0 (Below w.heap.size w w'))
    case atStart => exact ⟨(0), (([] : List (List Int))), (.slice none 0 0), er, H', ⟨Nat.le_refl _⟩, ⟨by (with_reducible repeat (first | apply Kd.R_alloc | apply Kd.R_drewN | apply Kd.R_drew)); exact Kd.R_mono (Kd.R_far (p := ⟨gb330, 2, none⟩) (Kd.R_far (p := ⟨gb330, 1, none⟩) (Kd.R_far (p := ⟨gb330, 0, none⟩) (Kd.R_types HO_10.out BK330.out (by decide)) (fun _ hk => hk.2) (.int .i64 a0_0)) (fun _ hk => hk.2) (.slice none 0 0)) (fun _ hk => hk.2) (.slice Ao23 t327.length co23)) (fun _ hk => hk.1)⟩, ⟨by (with_reducible repeat (first | apply Kd.R_alloc | apply Kd.R_drewN | apply Kd.R_drew)); exact Kd.R_mono (Kd.R_far (p := ⟨gb330, 2, none⟩) (Kd.R_far (p := ⟨gb330, 1, none⟩) (Kd.R_far (p := ⟨gb330, 0, none⟩) (Kd.R_types HO329.out BK330.out (by decide)) (fun _ hk => hk.2) (.int .i64 a0_0)) (fun _ hk => hk.2) (.slice none 0 0)) (fun _ hk => hk.2) (.slice Ao23 t327.length co23)) (fun _ hk => hk.1)⟩, ⟨by first | exact Kd.S_nil _ _ _ _ _ | exact Kd.N_nil _ _ _ _ _ | exact Kd.V_nil _ _ _ _ _ | exact Kd.Q_nil _ _ _ _ _ | exact Kd.R_nil _ _ _ _ _⟩, ⟨by (with_reducible repeat (first | refine blk_drewN ?_ _ | refine blk_drew ?_ | refine blk_alloc ?_ _)); refine blk_far ?_ NB320_330.out _; (with_reducible repeat (first | refine blk_drewN ?_ _ | refine blk_drew ?_ | refine blk_alloc ?_ _)); refine blk_far ?_ NB320_330.out _; (with_reducible repeat (first | refine blk_drewN ?_ _ | refine blk_drew ?_ | refine blk_alloc ?_ _)); refine blk_far ?_ NB320_330.out _; (with_reducible repeat (first | refine blk_drewN ?_ _ | refine blk_drew ?_ | refine blk_alloc ?_ _)); exact BK320.out⟩, ⟨by (with_reducible repeat (first | refine blk_drewN ?_ _ | refine blk_drew ?_ | refine blk_alloc ?_ _)); refine blk_far ?_ NB321_330.out _; (with_reducible repeat (first | refine blk_drewN ?_ _ | refine blk_drew ?_ | refine blk_alloc ?_ _)); refine blk_far ?_ NB321_330.out _; (with_reducible repeat (first | refine blk_drewN ?_ _ | refine blk_drew ?_ | refine blk_alloc ?_ _)); refine blk_far ?_ NB321_330.out _; (with_reducible repeat (first | refine blk_drewN ?_ _ | refine blk_drew ?_ | refine blk_alloc ?_ _)); exact BK321.out⟩, ⟨by (with_reducible repeat (first | refine blk_drewN ?_ _ | refine blk_drew ?_ | refine blk_alloc ?_ _)); refine blk_put (cs := #[.int .i64 a0_0, .slice none 0 0, .slice none 0 0]) ?_ 2 _ rfl; (with_reducible repeat (first | refine blk_drewN ?_ _ | refine blk_drew ?_ | refine blk_alloc ?_ _)); refine blk_put (cs := #[.int .i64 a0_0, .slice none 0 0, .slice none 0 0]) ?_ 1 _ rfl; (with_reducible repeat (first | refine blk_drewN ?_ _ | refine blk_drew ?_ | refine blk_alloc ?_ _)); refine blk_put (cs := #[.int .i64 0, .slice none 0 0, .slice none 0 0]) ?_ 0 _ rfl; (with_reducible repeat (first | refine blk_drewN ?_ _ | refine blk_drew ?_ | refine blk_alloc ?_ _)); exact BK330.out⟩, ⟨belowg3 HB GE320 GE321 GE330⟩⟩
    case round =>
     clear H'
     (try clear c14); (try clear hcz29_0); (try clear hcz29_1); (try clear hcz29_2); (try clear hfz29_0); (try clear hfz29_1); (try clear hfz29_2)
     obtain ⟨x41_2, x331001_2, u331001, rfl, HA, HK2, HO_10, HO_36, HO_331001, BK320, BK321, BK330, HB⟩ := hrel
     cases gk with
     | zero => exact absurd HA.out (by simp [impl_OtherCoins.l0])
     | succ k2 =>
      have H := HA.out; clear HA
      simp only [impl_OtherCoins.l0] at H
      by_cases c30 : x41_2 < (l0_1.length : Int)
      ·rw [if_pos c30] at H
       have c30b0 : decide (x41_2 < (l0_1.length : Int)) = true := decide_eq_true c30
       clear c30; replace H := ifS H; obtain ⟨c31, H⟩ := H; have c31b0 := decide_eq_true c31; clear c31; replace H := ifS H; obtain ⟨c32, H⟩ := H; have c32b0 := decide_eq_true c32; clear c32; replace H := bS H; obtain ⟨t332, A33, H⟩ := H
       replace H : (if x331001_2.length < 5864062014805 then (impl_OtherCoins.l0 k2 a3 t322 t327 l0_1 (l0_1.length : Int) (wrap64 (x41_2 + 1)) a0_0 (x331001_2 ++ [t332])) else (none)) = some (r1, r2, r3, r4) := H
       replace H := ifS H; obtain ⟨c34, H⟩ := H; have LMc34 := Aside0.mk c34; clear c34
       obtain ⟨y335, hy_⟩ : ∃ y_ : List (List Int), y_ = (x331001_2 ++ [t332]) := ⟨_, rfl⟩
       replace H : (impl_OtherCoins.l0 k2 a3 t322 t327 l0_1 (l0_1.length : Int) (wrap64 (x41_2 + 1)) a0_0 y335) = some (r1, r2, r3, r4) := yH
       have Ny335 := ak hy_; clear hy_
       have H' := Aside0.mk H
       clear H
       have p331 : 0 ≤ (x41_2 : Int) := da
       have q331 : x41_2 < (l0_1.length : Int) := da
       obtain ⟨ad331, A331_0, c331_0, e331, hx331_0, hl331_0, hi331_0⟩ := at_L1 HR0_1.out x41_2 p331 q331
       cases e331
       replace hx331_0 := (HB.out.cell (World.block_lt_of_cell? w _ hx331_0)).trans hx331_0
       have HR331_0 := Aside0.mk hi331_0; have HC331_0 := Aside0.mk hl331_0; clear hi331_0 hl331_0; replace p331 := eq_true p331; replace q331 := eq_true q331
       try go_wp2
       replace HO_10 := ak (Kd.R_drew HO_10.out)
       replace HO_36 := ak (Kd.R_drew HO_36.out)
       replace HO_331001 := ak (Kd.S_drew HO_331001.out)
       replace BK320 := ak (blk_drew BK320.out)
       replace BK321 := ak (blk_drew BK321.out)
       replace BK330 := ak (blk_drew BK330.out)
       replace HB := ak (below_drew1 HB.out)
       refine start_ (n := 8) (S := fun w' => w'.cell? ⟨gb330, 0, none⟩ = some (.int .i64 a0_0) ∧ w'.cell? ⟨gb330, 1, none⟩ = some (u331001) ∧ w'.cell? ⟨gb330, 2, none⟩ = some (.slice Ao23 t327.length co23)) (ds := [7]) (bl 8 0) (by kernel_rfl) rfl rfl ⟨bq BK330 0, bq BK330 1, bq BK330 2⟩ (fun hHeld => ?_); refine with_tabW impl_OtherCoins.tab8 impl_OtherCoins.bits8 (fun HT_ HW_ => ?_)
       generalize wr.drew = w35 at HO_10 HO_36 HO_331001 BK320 BK321 BK330 HB hHeld ⊢
       refine pureA 0 (some 45) 8 1 HT_ ?_
       refine pureA 2 (some 47) 8 5 HT_ ?_
       refine takeA 1 (some 46) 8 7 HT_ HW_ hHeld ?_ (hy := by rintro w' ⟨s0, s1, s2⟩; go_simp; with_reducible rfl)
       refine oneA 3 (some 48) 8 15 HT_ (fun K hK => ?_)
       refine goes_ Try.func121 (by kernel_rfl) rfl #[.slice A331_0 (rd_L1 l0_1 x41_2).length c331_0] (by rfl) rfl rfl (by (try simp only [List.map_toArray, List.map_cons, List.map_nil]); first | done | rfl | (simp only [List.length_drop, List.length_take]; rfl)) ?_
       with_reducible refine (slices_Clone_int_int.calls _ _ (rd_L1 l0_1 x41_2) t332 _ ?side1 ?side2 A33.out).mono ?_
       (case side1 => exact cd (Kd.C_below HR331_0.out HB.out))
       (case side2 => exact HC331_0.out)
       rintro e w36 ⟨v333, rfl, ho0, hb⟩
       refine ⟨_, rfl, ?_⟩
       replace HO_331001 := ak (Kd.S_elder' (sd HO_331001) (Kd.R_base ho0) hb)
       have HO334 := ak (Kd.R_lower (Kd.R_new' (Kd.R_new' ho0 (Kd.R_lt (rdl HO_10))) (Kd.R_lt (rdl HO_36))) (below_size (belowg3 HB GE320 GE321 GE330)))
       replace HO_10 := ak (Kd.R_elder' (rdl HO_10) (Kd.R_base ho0) hb)
       replace HO_36 := ak (Kd.R_elder' (rdl HO_36) (Kd.R_base ho0) hb)
       replace BK320 := ak (blk_below (blkd BK320) hb)
       replace BK321 := ak (blk_below (blkd BK321) hb)
       replace BK330 := ak (blk_below (blkd BK330) hb)
       replace HB := ak (below_step (belowg3 HB GE320 GE321 GE330) hb)
       (try clear hb); (try clear hb2); (try clear hk); (try clear hi); (try clear ho0)
       obtain ⟨Ao38, co38, eo38⟩ := Kd.R_slice HO334.out
       (first | subst eo38 | (injection eo38 with f1_ f2_ f3_; have f4_ := f1_.symm; have f5_ := f3_.symm; clear f1_ f2_ f3_; subst f4_; subst f5_))
       refine hK.out _ _ ⟨bq BK330 0, bq BK330 1, bq BK330 2⟩ (fun hHeld => ?_)
       clear hK K
       refine norm_ (a' := ?_) ?_ ?_
       rotate_left
       ·show Act.put _ (some 48) _ = _
        simp only [Act.put, List.setIfInBounds_toArray, List.set_cons_zero, List.set_cons_succ, i64_w, i32_w]
        rfl
       refine oneA 4 (some 49) 8 31 HT_ (fun K hK => ?_)
       refine value_ (w1 := ?_) (v := ?_) (by rfl) rfl ?_ ?_
       rotate_left 2
       ·go_simp
        constructor
        ·rfl
        ·rfl
       refine hK.out _ _ ⟨(blk_cell (blk_alloc BK330.out _) 0).trans rfl, (blk_cell (blk_alloc BK330.out _) 1).trans rfl, (blk_cell (blk_alloc BK330.out _) 2).trans rfl⟩ (fun hHeld => ?_)
       clear hK K
       refine norm_ (a' := ?_) ?_ ?_
       rotate_left
       ·show Act.put _ (some 49) _ = _
        simp only [Act.put, List.setIfInBounds_toArray, List.set_cons_zero, List.set_cons_succ, i64_w, i32_w]
        rfl
       refine oneA 5 (some 50) 8 63 HT_ (fun K hK => ?_)
       refine Kd.S_append_step (Kd.slice 3 (Kd.int .i64)) (w0 := w) w.heap.size (by rfl) (.tmp 46) (.tmp 49) 32 22 (.slice none 0 0) 24 rfl Try.underlying32 info22 rfl (by decide) (by omega) u331001 x331001_2 t332 [.slice Ao38 t332.length co38] (fun k_ => some k_ ≠ (v323 : Value).ownBlock ∧ some k_ ≠ (.slice Ao23 t327.length co23 : Value).ownBlock) (fun k_ => some k_ = (.slice Ao38 t332.length co38 : Value).ownBlock) rfl rfl ?aP (fun k_ hk_ => ((Kd.R_mono (ok' := fun k_ => ((fun k_ => some k_ ≠ (v323 : Value).ownBlock ∧ some k_ ≠ (.slice Ao23 t327.length co23 : Value).ownBlock)) k_ ∧ some k_ ≠ (u331001 : Value).ownBlock) (Kd.R_apart' (HO334.out) (Kd.S_typed HO_331001.out) (by decide)) (fun k_ hk => ⟨⟨hk.1.1.2, hk.1.2⟩, hk.2⟩))).1 k_ hk_.symm) ?aF ?aO ?aB ?aS ?aL ?_
       (case aP => exact Kd.M_row (Kd.R_mono (Kd.R_tight rfl (Kd.R_mono (ok' := fun k_ => ((fun k_ => some k_ ≠ (v323 : Value).ownBlock ∧ some k_ ≠ (.slice Ao23 t327.length co23 : Value).ownBlock)) k_ ∧ some k_ ≠ (u331001 : Value).ownBlock) (Kd.R_apart' (HO334.out) (Kd.S_typed HO_331001.out) (by decide)) (fun k_ hk => ⟨⟨hk.1.1.2, hk.1.2⟩, hk.2⟩))) (fun _ h_ => h_)))
       (case aB => exact (belowg3 HB GE320 GE321 GE330))
       (case aF => exact (fun k_ hk => ⟨Kd.fresh' (Kd.R_lt (rdl HO_10)) k_ hk, Kd.fresh' (Kd.R_lt (rdl HO_36)) k_ hk⟩))
       (case aO => exact (by (with_reducible repeat (first | apply Kd.S_alloc | apply Kd.S_drewN | apply Kd.S_drew)); exact Kd.S_mono HO_331001.out (fun k_ hk => ⟨⟨hk.1.1, hk.1.2⟩, fun e_ => hk.2 e_⟩)))
       (case aS => exact (below_size (belowg3 HB GE320 GE321 GE330)))
       (case aL => have := LMc34.out; omega)
       intro v336 w37 ho hb hg hat
       rw [← Ny335.out] at ho
       replace HO_10 := ak (Kd.R_over' (rdl HO_10) (Kd.S_typed (sd HO_331001)) (by decide) hg)
       replace HO_36 := ak (Kd.R_over' (rdl HO_36) (Kd.S_typed (sd HO_331001)) (by decide) hg)
       replace BK320 := ak (blk_grown (blkd BK320) hg (Kd.S_ne HO_331001.out BK320.out (by decide)))
       replace BK321 := ak (blk_grown (blkd BK321) hg (Kd.S_ne HO_331001.out BK321.out (by decide)))
       replace BK330 := ak (blk_grown (blkd BK330) hg (Kd.S_ne HO_331001.out BK330.out (by decide)))
       replace HB := ak (hb)
       have HO337 := ak (ho); clear HO_331001 HO334; clear ho hb hg hat
       obtain ⟨Ao39, co39, eo39⟩ := Kd.S_slice HO337.out
       (first | subst eo39 | (injection eo39 with f1_ f2_ f3_; have f4_ := f1_.symm; have f5_ := f3_.symm; clear f1_ f2_ f3_; subst f4_; subst f5_))
       refine hK.out _ _ ⟨bq BK330 0, bq BK330 1, bq BK330 2⟩ (fun hHeld => ?_)
       clear hK K
       refine norm_ (a' := ?_) ?_ ?_
       rotate_left
       ·show Act.put _ (some 50) _ = _
        simp only [Act.put, List.setIfInBounds_toArray, List.set_cons_zero, List.set_cons_succ, i64_w, i32_w]
        rfl
       refine pureA 6 (some 51) 8 127 HT_ ?_
       refine last_ (i := 7) (N := none) (bl 8 255) rfl rfl (one_of HT_.out (by kernel_rfl)) (by decide) (fun K hK => ?_)
       have hs40 : w37.cell? ⟨gb330, 1, none⟩ = some (u331001) := bq BK330 1
       have hfs40 := blk_frozen BK330.out 1
       have hns40_0 := NB320_330.out; have hns40_1 := NB321_330.out; have hms40_0 := NB330_320.out; have hms40_1 := NB330_321.out
       refine skip_ (w1 := ?_) (by rfl) rfl ?_ ?_
       rotate_left
       ·go_simp
        rfl
       refine hK.out _ _ ?_
       clear hK K
       refine done_ (done_of HT_.out (by kernel_rfl)) ?_
       try go_wp2
       go_roundg k2
       case measure => have := HJ5.out; have := HK2.out; omega
       case rel => exact ⟨(wrap64 (x41_2 + 1)), (y335), (.slice Ao39 y335.length co39), er, H', ⟨by have := HJ5.out; have := HK2.out; omega⟩, ⟨by (with_reducible repeat (first | apply Kd.R_alloc | apply Kd.R_drewN | apply Kd.R_drew)); exact Kd.R_mono (Kd.R_far (p := ⟨gb330, 1, none⟩) (Kd.R_types HO_10.out BK330.out (by decide)) (fun _ hk => hk.2) (.slice Ao39 y335.length co39)) (fun _ hk => hk.1.1)⟩, ⟨by (with_reducible repeat (first | apply Kd.R_alloc | apply Kd.R_drewN | apply Kd.R_drew)); exact Kd.R_mono (Kd.R_far (p := ⟨gb330, 1, none⟩) (Kd.R_types HO_36.out BK330.out (by decide)) (fun _ hk => hk.2) (.slice Ao39 y335.length co39)) (fun _ hk => hk.1.1)⟩, ⟨by (with_reducible repeat (first | apply Kd.S_alloc | apply Kd.S_drewN | apply Kd.S_drew)); exact Kd.S_mono (Kd.S_far (p := ⟨gb330, 1, none⟩) (Kd.S_types HO337.out BK330.out (by decide)) (fun _ hk => hk.2) (.slice Ao39 y335.length co39)) (fun _ hk => ⟨hk.1.1, hk.1.2⟩)⟩, ⟨by (with_reducible repeat (first | refine blk_drewN ?_ _ | refine blk_drew ?_ | refine blk_alloc ?_ _)); refine blk_far ?_ NB320_330.out _; (with_reducible repeat (first | refine blk_drewN ?_ _ | refine blk_drew ?_ | refine blk_alloc ?_ _)); exact BK320.out⟩, ⟨by (with_reducible repeat (first | refine blk_drewN ?_ _ | refine blk_drew ?_ | refine blk_alloc ?_ _)); refine blk_far ?_ NB321_330.out _; (with_reducible repeat (first | refine blk_drewN ?_ _ | refine blk_drew ?_ | refine blk_alloc ?_ _)); exact BK321.out⟩, ⟨by (with_reducible repeat (first | refine blk_drewN ?_ _ | refine blk_drew ?_ | refine blk_alloc ?_ _)); refine blk_put (cs := #[.int .i64 a0_0, u331001, .slice Ao23 t327.length co23]) ?_ 1 _ rfl; (with_reducible repeat (first | refine blk_drewN ?_ _ | refine blk_drew ?_ | refine blk_alloc ?_ _)); exact BK330.out⟩, ⟨belowg3 HB GE320 GE321 GE330⟩⟩
      ·rw [if_neg c30] at H
       have c30b0 : decide (x41_2 < (l0_1.length : Int)) = false := decide_eq_false c30
       clear c30
       have H' := Aside0.mk H
       clear H
       obtain ⟨Ao41, co41, eo41⟩ := Kd.R_slice HO_10.out
       subst eo41; go_wp2
       go_loopg [55] k2 (fun kq v55 w' => ∃ (x53_3 : List Int) (x55_3 : Int) (x331002_3 : List Int) (u331002 : Value), v55 = .int .i64 x55_3 ∧ Aside0 (impl_OtherCoins.l1 kq a3 x53_3 (t322.length : Int) x55_3 a0_0 x331001_2 x331002_3 = some (r1, r2, r3, r4)) ∧ Aside0 (kq ≤ k2) ∧ Aside0 (Kd.R (Kd.int .i64) 3 w' w.heap.size (fun k_ => some k_ ≠ (u331002 : Value).ownBlock) (.slice Ao41 t322.length co41) x53_3) ∧ Aside0 (Kd.S (Kd.slice 3 (Kd.int .i64)) 22 w' w.heap.size (fun k_ => some k_ ≠ ((.slice Ao41 t322.length co41) : Value).ownBlock ∧ some k_ ≠ (u331002 : Value).ownBlock) u331001 x331001_2) ∧ Aside0 (Kd.R (Kd.int .i64) 3 w' w.heap.size (fun k_ => some k_ ≠ ((.slice Ao41 t322.length co41) : Value).ownBlock) u331002 x331002_3) ∧ Aside0 (w'.heap[gb320]? = some (.cells #[.int .i64 a0_0, (.slice A0_1 l0_1.length c0_1), (.slice A0_2 l0_2.length c0_2)] 38 (0, 0))) ∧ Aside0 (w'.heap[gb321]? = some (.cells #[.int .i64 0, (.slice none 0 0), (.slice none 0 0)] 38 (0, 0))) ∧ Aside0 (w'.heap[gb330]? = some (.cells #[.int .i64 a0_0, u331001, u331002] 38 (0, 0))) ∧ Aside0 (Below w.heap.size w w'))
       case atStart => exact ⟨(t322), (0), (t327), (.slice Ao23 t327.length co23), er, H', ⟨Nat.le_refl _⟩, ⟨rdl HO_10⟩, ⟨sd HO_331001⟩, ⟨rdl HO_36⟩, ⟨blkd BK320⟩, ⟨blkd BK321⟩, ⟨blkd BK330⟩, ⟨belowg3 HB GE320 GE321 GE330⟩⟩
       case round =>
        clear H'
        (try clear c30b0)
        obtain ⟨x53_3, x55_3, x331002_3, u331002, rfl, HA, HK3, HO_53, HO_331001, HO_331002, BK320, BK321, BK330, HB⟩ := hrel
        have hl53_3 := (Kd.R_reads' HO_53.out).1
        rw [hl53_3] at HO_53
        (try simp only [hl53_3])
        (try simp only [hl53_3] at BK320)
        (try simp only [hl53_3] at BK321)
        (try simp only [hl53_3] at BK330)
        (try simp only [hl53_3] at HO_331001)
        (try simp only [hl53_3] at HO_331002)
        cases gk with
        | zero => exact absurd HA.out (by simp [impl_OtherCoins.l1])
        | succ k3 =>
         have H := HA.out; clear HA
         simp only [impl_OtherCoins.l1] at H
         by_cases c42 : x55_3 < (t322.length : Int)
         ·rw [if_pos c42] at H
          have c42b0 : decide (x55_3 < (t322.length : Int)) = true := decide_eq_true c42
          clear c42; replace H := ifS H; obtain ⟨c43, H⟩ := H; have c43b0 := decide_eq_true c43; clear c43; replace H := ifS H; obtain ⟨c44, H⟩ := H; have c44b0 := decide_eq_true c44; clear c44; replace H := ifS H; obtain ⟨c45, H⟩ := H; have c45b0 := decide_eq_true c45; clear c45; replace H := ifS H; obtain ⟨c46, H⟩ := H; have c46b0 := decide_eq_true c46; clear c46
          obtain ⟨y340, hy_⟩ : ∃ y_ : List Int, y_ = (x331002_3.set ((rd x53_3 x55_3) : Int).toNat (Go.bits .xor .i64 (rd x331002_3 (rd x53_3 x55_3)) a3)) := ⟨_, rfl⟩
          replace H : (impl_OtherCoins.l1 k3 a3 x53_3 (t322.length : Int) (wrap64 (x55_3 + 1)) a0_0 x331001_2 y340) = some (r1, r2, r3, r4) := yH
          have Ny340 := ak hy_; clear hy_
          have H' := Aside0.mk H
          clear H
          have p338 : 0 ≤ (x55_3 : Int) := da
          have q338 : x55_3 < (x53_3.length : Int) := da
          obtain ⟨ad338, e338, hx338_0⟩ := Kd.at_int (Kd.R_reads' HO_53.out).2.2 x55_3 p338 q338
          cases e338
          replace p338 := eq_true p338; replace q338 := eq_true q338; have hnb48 := NB330_320.out; have hnc48 := NB320_330.out; have hnb49 := NB330_321.out; have hnc49 := NB321_330.out; obtain ⟨hcz50_0, hcz50_1, hcz50_2, hfz50_0, hfz50_1, hfz50_2⟩ := box3 BK330
          obtain ⟨Ao51, co51, eo51⟩ := Kd.R_slice HO_331002.out
          subst eo51
          have p339 : 0 ≤ ((rd x53_3 x55_3) : Int) := da
          have q339 : (rd x53_3 x55_3) < (x331002_3.length : Int) := da
          obtain ⟨ad339, e339, hx339_0⟩ := Kd.at_int (Kd.R_reads' HO_331002.out).2.2 (rd x53_3 x55_3) p339 q339
          cases e339
          replace p339 := eq_true p339; replace q339 := eq_true q339
          have p47 : 0 ≤ ((rd x53_3 x55_3) : Int) := da
          have q47 : ((rd x53_3 x55_3) : Int) < ((x331002_3.length : Int) : Int) := da
          obtain ⟨go47, co47, eo47, gb47, gl47, cl47, HG47⟩ := Kd.R_form HO_331002.out (by omega)
          (first | cases eo47 | (injection eo47 with ea_ en_ ec_; (first | subst ea_ | (injection ea_ with ea_; subst ea_)); subst ec_; clear en_))
          have GB47 := Aside0.mk gb47; have GG47 := Aside0.mk HG47; clear gb47 gl47 HG47
          (first | simp only [add_plain] at hx339_0 | skip)
          obtain ⟨hx47_0, hf47_0⟩ := Kd.R_celln 0 HO_331002.out ((rd x53_3 x55_3) : Int) p47 q47
          replace p47 := eq_true p47; replace q47 := eq_true q47
          have HP52 := Kd.R_putg HO_331002.out ((rd x53_3 x55_3) : Int) (Go.bits .xor .i64 (rd x331002_3 (rd x53_3 x55_3)) a3)
          go_wp2_with (first | ((with_reducible refine gate_store (t := 3) (p := 66) rfl ?_); refine store_event (t := 3) (p := 66) (v := ?vo_w53) (w1 := (wr.setCell ⟨go47, ((rd x53_3 x55_3) : Int).toNat, none⟩ (.int .i64 (Go.bits .xor .i64 (rd x331002_3 (rd x53_3 x55_3)) a3)))) ?hg ?ho ?hn ?hr ?_; (case ho => rfl); (case hg => rfl); (case hn => rfl); (case hr => first | (go_simp; done) | (go_simp; rfl)); intro w53 hw; have hg : wr.grownBy w53 (some go47) := (by rw [hw]; exact HP52.2); have hp_ : Kd.R (Kd.int .i64) 3 w53 w.heap.size (fun k_ => some k_ ≠ (.slice (some ad338) x53_3.length co41 : Value).ownBlock) (.slice (some ⟨go47, 0, none⟩) x331002_3.length co51) y340 := (by rw [hw, Ny340.out]; exact HP52.1); clear HP52; replace HO_53 := ak (Kd.R_after (v := (.slice (some ⟨go47, 0, none⟩) x331002_3.length co51)) (v1 := (.slice (some ⟨go47, 0, none⟩) x331002_3.length co51)) (ok := (fun _ => True)) (by (with_reducible repeat (first | apply Kd.R_alloc | apply Kd.R_drewN | apply Kd.R_drew)); exact Kd.R_mono HO_53.out (fun _ hk => ⟨trivial, hk⟩)) hg (.inl rfl)); replace HO_331001 := ak (Kd.S_after (v := (.slice (some ⟨go47, 0, none⟩) x331002_3.length co51)) (v1 := (.slice (some ⟨go47, 0, none⟩) x331002_3.length co51)) (ok := (fun k_ => some k_ ≠ (.slice (some ad338) x53_3.length co41 : Value).ownBlock)) (sd HO_331001) hg (.inl rfl)); replace BK320 := ak (blk_grown (blkd BK320) hg (Kd.R_ne HO_331002.out BK320.out (by decide))); replace BK321 := ak (blk_grown (blkd BK321) hg (Kd.R_ne HO_331002.out BK321.out (by decide))); replace BK330 := ak (blk_grown (blkd BK330) hg (Kd.R_ne HO_331002.out BK330.out (by decide))); replace HO_331002 := ak (hp_); replace HB := ak ((by rw [hw]; exact below_set (HB.out) GB47.out : Below w.heap.size w w53)); clear hg hw hp_))
          (try simp only [← hl53_3])
          (first | go_roundg k3 | ((try rw [← add_plain go47 ((rd x53_3 x55_3) : Int).toNat]); go_roundg k3))
          case measure => have := HJ5.out; have := HK2.out; have := HK3.out; omega
          case rel => exact ⟨(x53_3), (wrap64 (x55_3 + 1)), (y340), (.slice (some ⟨go47, 0, none⟩) x331002_3.length co51), er, H', ⟨by have := HJ5.out; have := HK2.out; have := HK3.out; omega⟩, ⟨by (try simp only [hl53_3]); (with_reducible repeat (first | apply Kd.R_alloc | apply Kd.R_drewN | apply Kd.R_drew)); exact Kd.R_mono HO_53.out (fun _ hk => hk.2)⟩, ⟨by (try simp only [hl53_3]); (with_reducible repeat (first | apply Kd.S_alloc | apply Kd.S_drewN | apply Kd.S_drew)); exact HO_331001.out⟩, ⟨by (try simp only [hl53_3]); (with_reducible repeat (first | apply Kd.R_alloc | apply Kd.R_drewN | apply Kd.R_drew)); exact HO_331002.out⟩, ⟨by (try simp only [hl53_3]); (with_reducible repeat (first | refine blk_drewN ?_ _ | refine blk_drew ?_ | refine blk_alloc ?_ _)); exact BK320.out⟩, ⟨by (try simp only [hl53_3]); (with_reducible repeat (first | refine blk_drewN ?_ _ | refine blk_drew ?_ | refine blk_alloc ?_ _)); exact BK321.out⟩, ⟨by (try simp only [hl53_3]); (with_reducible repeat (first | refine blk_drewN ?_ _ | refine blk_drew ?_ | refine blk_alloc ?_ _)); exact BK330.out⟩, ⟨belowg3 HB GE320 GE321 GE330⟩⟩
         ·rw [if_neg c42] at H
          have c42b0 : decide (x55_3 < (t322.length : Int)) = false := decide_eq_false c42
          have c42b0s := c42b0
          (try simp only [hl53_3] at c42b0s)
          clear c42
          simp only [Option.some.injEq, Prod.mk.injEq] at H
          obtain ⟨rfl, rfl, rfl, rfl⟩ := H; have hnb54 := NB330_320.out; have hnc54 := NB320_330.out; have hnb55 := NB330_321.out; have hnc55 := NB321_330.out; obtain ⟨hcz56_0, hcz56_1, hcz56_2, hfz56_0, hfz56_1, hfz56_2⟩ := box3 BK330; have hnb57 := NB321_320.out; have hnc57 := NB320_321.out; obtain ⟨hcz58_0, hcz58_1, hcz58_2, hfz58_0, hfz58_1, hfz58_2⟩ := box3 BK321
          obtain ⟨Ao59, co59, eo59⟩ := Kd.S_slice HO_331001.out
          subst eo59
          obtain ⟨Ao60, co60, eo60⟩ := Kd.R_slice HO_331002.out
          subst eo60; go_wp2
          refine bodyPost_ret (results_ct rfl _ _ gb321 38 #[.int .i64 a0_0, .slice Ao59 x331001_2.length co59, .slice Ao60 x331002_3.length co60] (0, 0) _ rfl (by (with_reducible repeat (first | refine blk_drewN ?_ _ | refine blk_drew ?_ | refine blk_alloc ?_ _)); refine blk_put (cs := #[.int .i64 a0_0, .slice Ao59 x331001_2.length co59, .slice none 0 0]) ?_ 2 _ rfl; (with_reducible repeat (first | refine blk_drewN ?_ _ | refine blk_drew ?_ | refine blk_alloc ?_ _)); refine blk_put (cs := #[.int .i64 a0_0, .slice none 0 0, .slice none 0 0]) ?_ 1 _ rfl; (with_reducible repeat (first | refine blk_drewN ?_ _ | refine blk_drew ?_ | refine blk_alloc ?_ _)); refine blk_put (cs := #[.int .i64 0, .slice none 0 0, .slice none 0 0]) ?_ 0 _ rfl; (with_reducible repeat (first | refine blk_drewN ?_ _ | refine blk_drew ?_ | refine blk_alloc ?_ _)); exact BK321.out) Try.underlying38 rfl (by kernel_rfl)) rfl ?_
          exact ⟨_, _, er2, by (with_reducible repeat (first | apply Kd.S_alloc | apply Kd.S_drewN | apply Kd.S_drew)); exact Kd.S_mono (Kd.S_far (p := ⟨gb321, 2, none⟩) (Kd.S_far (p := ⟨gb321, 1, none⟩) (Kd.S_far (p := ⟨gb321, 0, none⟩) (Kd.S_types HO_331001.out BK321.out (by decide)) (fun _ hk => hk.2) (.int .i64 a0_0)) (fun _ hk => hk.2) (.slice Ao59 x331001_2.length co59)) (fun _ hk => hk.2) (.slice Ao60 x331002_3.length co60)) (fun _ hk => hk.1.2), by (with_reducible repeat (first | apply Kd.R_alloc | apply Kd.R_drewN | apply Kd.R_drew)); exact Kd.R_mono (Kd.R_far (p := ⟨gb321, 2, none⟩) (Kd.R_far (p := ⟨gb321, 1, none⟩) (Kd.R_far (p := ⟨gb321, 0, none⟩) (Kd.R_types HO_331002.out BK321.out (by decide)) (fun _ hk => hk.2) (.int .i64 a0_0)) (fun _ hk => hk.2) (.slice Ao59 x331001_2.length co59)) (fun _ hk => hk.2) (.slice Ao60 x331002_3.length co60)) (fun _ hk => trivial), belowg3 HB GE320 GE321 GE330⟩

/-! ### laws_heldIntS: function 28 -/
def laws_heldIntS.l0 : Nat → List Int → Int → Int → Option (Int)
  | 0, _, _, _ => none
  | k + 1, x0, x1, x5 => if x5 < (x0.length : Int) then (if 0 ≤ x5 then (if (rd x0 x5) = x1 then (laws_heldIntS.l0 k x0 (wrap64 (x1 + 1)) (wrap64 (x5 + 1))) else (some (-1))) else (none)) else (some x1)
def laws_heldIntS.f (k : Nat) (l0 : List Int) (a1 : Int) : Option (Int) := laws_heldIntS.l0 k l0 a1 0
theorem laws_heldIntS.mono_l : ∀ k, (∀ y0 y1 y2, LeO (laws_heldIntS.l0 k y0 y1 y2) (laws_heldIntS.l0 (k + 1) y0 y1 y2))
 | 0 => fun _ _ _ r h => by simp [laws_heldIntS.l0] at h
 | k + 1 => by
  have ih0 := laws_heldIntS.mono_l k
  ·intro y0 y1 y2
   unfold laws_heldIntS.l0
   repeat' (first | (with_reducible first | exact ih0 _ _ _ | exact LeO.refl _ | exact LeO.none _ | refine LeO.ite ?_ ?_ | refine LeO.bind ?_ (fun _ => ?_)) | exact ih0 _ _ _ | exact LeO.none _ | refine LeO.ite ?_ ?_ | refine LeO.bind ?_ (fun _ => ?_))
theorem laws_heldIntS.mono : ∀ a0 a1 k, LeO (laws_heldIntS.f k a0 a1) (laws_heldIntS.f (k + 1) a0 a1) := by
 intro a0 a1 k
 have ih0 := laws_heldIntS.mono_l k
 unfold laws_heldIntS.f
 repeat' (first | (with_reducible first | exact ih0 _ _ _ | exact LeO.refl _ | exact LeO.none _ | refine LeO.ite ?_ ?_ | refine LeO.bind ?_ (fun _ => ?_)) | exact ih0 _ _ _ | exact LeO.none _ | refine LeO.ite ?_ ?_ | refine LeO.bind ?_ (fun _ => ?_))
set_option maxHeartbeats 8000000 in
set_option maxRecDepth 100000 in
theorem laws_heldIntS.calls (k : Nat) (A0 : Option Addr) (c0 : Nat) (l0 : List Int) (a1 : Int) (r : Int) (w : World) (hr0 : Kd.C (Kd.int .i64) w A0 l0.length l0) (hc0 : l0.length ≤ c0) (h : laws_heldIntS.f k l0 a1 = some r) :
  Calls Try.prog 28 #[.slice A0 l0.length c0, .int .i64 a1] w fun e w' => e = .returned (.int .i64 r) ∧ Drawn0 w w' := by
 have HR0 := Aside0.mk hr0; have HC0 := Aside0.mk hc0; clear hr0 hc0
 have H : (laws_heldIntS.l0 k l0 a1 0) = some r := h
 clear h
 have H' := Aside0.mk H
 clear H
 go_enter Try.func28, Try.ntmps28
 go_wp2
 go_loopg [1, 5] k (fun kq v1 v5 w' => ∃ (x1_1 : Int) (x5_1 : Int), v1 = .int .i64 x1_1 ∧ v5 = .int .i64 x5_1 ∧ Aside0 (laws_heldIntS.l0 kq l0 x1_1 x5_1 = some r) ∧ Aside0 (kq ≤ k) ∧ Drawn0 w w')
 case atStart => exact ⟨(a1), (0), er, er, H', ⟨Nat.le_refl _⟩, drw⟩
 case round =>
  clear H'
  obtain ⟨x1_1, x5_1, rfl, rfl, HA, HK1, ⟨m1, rfl⟩⟩ := hrel
  cases gk with
  | zero => exact absurd HA.out (by simp [laws_heldIntS.l0])
  | succ k1 =>
   have H := HA.out; clear HA
   simp only [laws_heldIntS.l0] at H
   by_cases c3 : x5_1 < (l0.length : Int)
   ·rw [if_pos c3] at H
    have c3b0 : decide (x5_1 < (l0.length : Int)) = true := decide_eq_true c3
    clear c3; replace H := ifS H; obtain ⟨c4, H⟩ := H; have c4b0 := decide_eq_true c4; clear c4
    by_cases c5 : (rd l0 x5_1) = x1_1
    ·rw [if_pos c5] at H
     have c5b0 : ((rd l0 x5_1) == x1_1) = true := beq_iff_eq.mpr c5
     have c5b1 : ((rd l0 x5_1) != x1_1) = false := bne_eq_false_iff_eq.mpr c5
     clear c5
     have H' := Aside0.mk H
     clear H
     have p341 : 0 ≤ (x5_1 : Int) := da
     have q341 : x5_1 < (l0.length : Int) := da
     obtain ⟨ad341, e341, hx341_0⟩ := Kd.at_int HR0.out x5_1 p341 q341
     cases e341
     replace p341 := eq_true p341; replace q341 := eq_true q341; go_wp2
     go_roundg k1
     case measure => have := HK1.out; omega
     case rel => exact ⟨(wrap64 (x1_1 + 1)), (wrap64 (x5_1 + 1)), er, er, H', ⟨by have := HK1.out; omega⟩, drw⟩
    ·rw [if_neg c5] at H
     have c5b0 : ((rd l0 x5_1) == x1_1) = false := beq_eq_false_iff_ne.mpr c5
     have c5b1 : ((rd l0 x5_1) != x1_1) = true := bne_iff_ne.mpr c5
     obtain rfl := Option.some.inj H
     have p341 : 0 ≤ (x5_1 : Int) := da
     have q341 : x5_1 < (l0.length : Int) := da
     obtain ⟨ad341, e341, hx341_0⟩ := Kd.at_int HR0.out x5_1 p341 q341
     cases e341
     replace p341 := eq_true p341; replace q341 := eq_true q341; go_wp2
     go_ret
     exact ⟨er, drw⟩
   ·rw [if_neg c3] at H
    have c3b0 : decide (x5_1 < (l0.length : Int)) = false := decide_eq_false c3
    clear c3
    obtain rfl := Option.some.inj H
    go_wp2
    go_ret
    exact ⟨er, drw⟩

/-! ### laws_heldIntSS: function 41 -/
def laws_heldIntSS.l0 : Nat → List (List Int) → Int → Int → Option (Int)
  | 0, _, _, _ => none
  | k + 1, x0, x1, x5 => if x5 < (x0.length : Int) then (if 0 ≤ x5 then ((laws_heldIntS.f k (rd_L1 x0 x5) x1).bind fun t343 => (if t343 < 0 then (some (-1)) else (laws_heldIntSS.l0 k x0 t343 (wrap64 (x5 + 1))))) else (none)) else (some x1)
def laws_heldIntSS.f (k : Nat) (l0 : List (List Int)) (a1 : Int) : Option (Int) := laws_heldIntSS.l0 k l0 a1 0
theorem laws_heldIntSS.mono_l : ∀ k, (∀ y0 y1 y2, LeO (laws_heldIntSS.l0 k y0 y1 y2) (laws_heldIntSS.l0 (k + 1) y0 y1 y2))
 | 0 => fun _ _ _ r h => by simp [laws_heldIntSS.l0] at h
 | k + 1 => by
  have ih0 := laws_heldIntSS.mono_l k
  ·intro y0 y1 y2
   unfold laws_heldIntSS.l0
   repeat' (first | (with_reducible first | exact ih0 _ _ _ | exact laws_heldIntS.mono _ _ _ | exact LeO.refl _ | exact LeO.none _ | refine LeO.ite ?_ ?_ | refine LeO.bind ?_ (fun _ => ?_)) | exact ih0 _ _ _ | exact laws_heldIntS.mono _ _ _ | exact LeO.none _ | refine LeO.ite ?_ ?_ | refine LeO.bind ?_ (fun _ => ?_))
theorem laws_heldIntSS.mono : ∀ a0 a1 k, LeO (laws_heldIntSS.f k a0 a1) (laws_heldIntSS.f (k + 1) a0 a1) := by
 intro a0 a1 k
 have ih0 := laws_heldIntSS.mono_l k
 unfold laws_heldIntSS.f
 repeat' (first | (with_reducible first | exact ih0 _ _ _ | exact laws_heldIntS.mono _ _ _ | exact LeO.refl _ | exact LeO.none _ | refine LeO.ite ?_ ?_ | refine LeO.bind ?_ (fun _ => ?_)) | exact ih0 _ _ _ | exact laws_heldIntS.mono _ _ _ | exact LeO.none _ | refine LeO.ite ?_ ?_ | refine LeO.bind ?_ (fun _ => ?_))
set_option maxHeartbeats 8000000 in
set_option maxRecDepth 100000 in
theorem laws_heldIntSS.calls (k : Nat) (A0 : Option Addr) (c0 : Nat) (l0 : List (List Int)) (a1 : Int) (r : Int) (w : World) (hr0 : Kd.C (Kd.slice 3 (Kd.int .i64)) w A0 l0.length l0) (hc0 : l0.length ≤ c0) (h : laws_heldIntSS.f k l0 a1 = some r) :
  Calls Try.prog 41 #[.slice A0 l0.length c0, .int .i64 a1] w fun e w' => e = .returned (.int .i64 r) ∧ Drawn0 w w' := by
 have HR0 := Aside0.mk hr0; have HC0 := Aside0.mk hc0; clear hr0 hc0
 have H : (laws_heldIntSS.l0 k l0 a1 0) = some r := h
 clear h
 have H' := Aside0.mk H
 clear H
 go_enter Try.func41, Try.ntmps41
 go_wp2
 go_loopg [1, 5] k (fun kq v1 v5 w' => ∃ (x1_1 : Int) (x5_1 : Int), v1 = .int .i64 x1_1 ∧ v5 = .int .i64 x5_1 ∧ Aside0 (laws_heldIntSS.l0 kq l0 x1_1 x5_1 = some r) ∧ Aside0 (kq ≤ k) ∧ Drawn0 w w')
 case atStart => exact ⟨(a1), (0), er, er, H', ⟨Nat.le_refl _⟩, drw⟩
 case round =>
  clear H'
  obtain ⟨x1_1, x5_1, rfl, rfl, HA, HK1, ⟨m1, rfl⟩⟩ := hrel
  cases gk with
  | zero => exact absurd HA.out (by simp [laws_heldIntSS.l0])
  | succ k1 =>
   have H := HA.out; clear HA
   simp only [laws_heldIntSS.l0] at H
   by_cases c3 : x5_1 < (l0.length : Int)
   ·rw [if_pos c3] at H
    have c3b0 : decide (x5_1 < (l0.length : Int)) = true := decide_eq_true c3
    clear c3; replace H := ifS H; obtain ⟨c4, H⟩ := H; have c4b0 := decide_eq_true c4; clear c4; replace H := bS H; obtain ⟨t343, A5, H⟩ := H
    replace H : (if t343 < 0 then (some (-1)) else (laws_heldIntSS.l0 k1 l0 t343 (wrap64 (x5_1 + 1)))) = some r := H
    by_cases c6 : t343 < 0
    ·rw [if_pos c6] at H
     have c6b0 : decide (t343 < 0) = true := decide_eq_true c6
     clear c6
     obtain rfl := Option.some.inj H
     have p342 : 0 ≤ (x5_1 : Int) := da
     have q342 : x5_1 < (l0.length : Int) := da
     obtain ⟨ad342, A342_0, c342_0, e342, hx342_0, hl342_0, hi342_0⟩ := at_L1 HR0.out x5_1 p342 q342
     cases e342
     have HR342_0 := Aside0.mk hi342_0; have HC342_0 := Aside0.mk hl342_0; clear hi342_0 hl342_0; replace p342 := eq_true p342; replace q342 := eq_true q342
     go_wp2_with (first | ((with_reducible refine gate_callee (f := 28) rfl ?_); refine goesLa (some 17) rfl Try.func28 #[.slice A342_0 (rd_L1 l0 x5_1).length c342_0, .int .i64 x1_1] rfl ?_; (with_reducible refine (laws_heldIntS.calls k1 _ _ (rd_L1 l0 x5_1) x1_1 t343 _ ?side1 ?side2 A5.out).mono ?_); (case side1 => exact cd HR342_0.out); (case side2 => exact HC342_0.out); rintro e w' ⟨rfl, ⟨nd, rfl⟩⟩; refine ⟨_, rfl, ?_⟩))
     go_ret
     exact ⟨er, drw⟩
    ·rw [if_neg c6] at H
     have c6b0 : decide (t343 < 0) = false := decide_eq_false c6
     clear c6
     have H' := Aside0.mk H
     clear H
     have p342 : 0 ≤ (x5_1 : Int) := da
     have q342 : x5_1 < (l0.length : Int) := da
     obtain ⟨ad342, A342_0, c342_0, e342, hx342_0, hl342_0, hi342_0⟩ := at_L1 HR0.out x5_1 p342 q342
     cases e342
     have HR342_0 := Aside0.mk hi342_0; have HC342_0 := Aside0.mk hl342_0; clear hi342_0 hl342_0; replace p342 := eq_true p342; replace q342 := eq_true q342
     go_wp2_with (first | ((with_reducible refine gate_callee (f := 28) rfl ?_); refine goesLa (some 17) rfl Try.func28 #[.slice A342_0 (rd_L1 l0 x5_1).length c342_0, .int .i64 x1_1] rfl ?_; (with_reducible refine (laws_heldIntS.calls k1 _ _ (rd_L1 l0 x5_1) x1_1 t343 _ ?side1 ?side2 A5.out).mono ?_); (case side1 => exact cd HR342_0.out); (case side2 => exact HC342_0.out); rintro e w' ⟨rfl, ⟨nd, rfl⟩⟩; refine ⟨_, rfl, ?_⟩))
     go_roundg k1
     case measure => have := HK1.out; omega
     case rel => exact ⟨(t343), (wrap64 (x5_1 + 1)), er, er, H', ⟨by have := HK1.out; omega⟩, drw⟩
   ·rw [if_neg c3] at H
    have c3b0 : decide (x5_1 < (l0.length : Int)) = false := decide_eq_false c3
    clear c3
    obtain rfl := Option.some.inj H
    go_wp2
    go_ret
    exact ⟨er, drw⟩

/-! ### laws_heldTable: function 57 -/
def laws_heldTable.f (k : Nat) (a0_0 : Int) (l0_1 : List (List Int)) (l0_2 : List Int) (a1 : Int) : Option (Int) := (laws_heldIntSS.f k l0_1 a1).bind fun t345 => (if t345 < 0 then (some (-1)) else ((laws_heldIntS.f k l0_2 t345).bind fun t346 => (if t346 < 0 then (some (-1)) else (some t346))))
theorem laws_heldTable.mono : ∀ a0 a1 a2 a3 k, LeO (laws_heldTable.f k a0 a1 a2 a3) (laws_heldTable.f (k + 1) a0 a1 a2 a3) := by
 intro a0 a1 a2 a3 k
 unfold laws_heldTable.f
 repeat' (first | (with_reducible first | exact laws_heldIntS.mono _ _ _ | exact laws_heldIntSS.mono _ _ _ | exact LeO.refl _ | exact LeO.none _ | refine LeO.ite ?_ ?_ | refine LeO.bind ?_ (fun _ => ?_)) | exact laws_heldIntS.mono _ _ _ | exact laws_heldIntSS.mono _ _ _ | exact LeO.none _ | refine LeO.ite ?_ ?_ | refine LeO.bind ?_ (fun _ => ?_))
set_option maxHeartbeats 8000000 in
set_option maxRecDepth 100000 in
theorem laws_heldTable.calls (k : Nat) (a0_0 : Int) (A0_1 : Option Addr) (c0_1 : Nat) (l0_1 : List (List Int)) (A0_2 : Option Addr) (c0_2 : Nat) (l0_2 : List Int) (a1 : Int) (r : Int) (w : World) (hr0_1 : Kd.C (Kd.slice 3 (Kd.int .i64)) w A0_1 l0_1.length l0_1) (hc0_1 : l0_1.length ≤ c0_1) (hr0_2 : Kd.C (Kd.int .i64) w A0_2 l0_2.length l0_2) (hc0_2 : l0_2.length ≤ c0_2) (h : laws_heldTable.f k a0_0 l0_1 l0_2 a1 = some r) :
  Calls Try.prog 57 #[.agg #[.int .i64 a0_0, .slice A0_1 l0_1.length c0_1, .slice A0_2 l0_2.length c0_2], .int .i64 a1] w fun e w' => e = .returned (.int .i64 r) ∧ Below w.heap.size w w' := by
 have hu38 := Try.underlying38
 have HR0_1 := Aside0.mk hr0_1; have HC0_1 := Aside0.mk hc0_1; clear hr0_1 hc0_1; have HR0_2 := Aside0.mk hr0_2; have HC0_2 := Aside0.mk hc0_2; clear hr0_2 hc0_2
 have HB := Aside0.mk (Below.refl w.heap.size w)
 have H : ((laws_heldIntSS.f k l0_1 a1).bind fun t345 => (if t345 < 0 then (some (-1)) else ((laws_heldIntS.f k l0_2 t345).bind fun t346 => (if t346 < 0 then (some (-1)) else (some t346))))) = some r := h
 clear h; replace H := bS H; obtain ⟨t345, A3, H⟩ := H
 replace H : (if t345 < 0 then (some (-1)) else ((laws_heldIntS.f k l0_2 t345).bind fun t346 => (if t346 < 0 then (some (-1)) else (some t346)))) = some r := H
 by_cases c4 : t345 < 0
 ·rw [if_pos c4] at H
  have c4b0 : decide (t345 < 0) = true := decide_eq_true c4
  clear c4
  obtain rfl := Option.some.inj H
  go_enter Try.func57, Try.ntmps57
  go_wp2_with (first | ((with_reducible refine gate_dst (N := 2) rfl ?_); refine boxev 2 #[.int .i64 a0_0, .slice A0_1 l0_1.length c0_1, .slice A0_2 l0_2.length c0_2] 38 ?_; intro gb344 hg w5 hbox hb; have BK344 := ak (hbox); have GW344 := ak (hgl hg (belowd HB)); have GE344 := ak (hgl hg (belowd HB)); replace HB := ak (below_step (belowd HB) hb); clear hb hbox hg; obtain ⟨hcz6_0, hcz6_1, hcz6_2, hfz6_0, hfz6_1, hfz6_2⟩ := box3 BK344) | ((with_reducible refine gate_callee (f := 41) rfl ?_); refine goesLa (some 8) rfl Try.func41 #[.slice A0_1 l0_1.length c0_1, .int .i64 a1] rfl ?_; (with_reducible refine (laws_heldIntSS.calls k _ _ l0_1 a1 t345 _ ?side1 ?side2 A3.out).mono ?_); (case side1 => exact cd (Kd.C_below HR0_1.out HB.out)); (case side2 => exact HC0_1.out); rintro e w' ⟨rfl, ⟨nd, rfl⟩⟩; refine ⟨_, rfl, ?_⟩))
  go_ret
  exact ⟨er2, belowg1 HB GE344⟩
 ·rw [if_neg c4] at H
  have c4b0 : decide (t345 < 0) = false := decide_eq_false c4
  clear c4; replace H := bS H; obtain ⟨t346, A7, H⟩ := H
  replace H : (if t346 < 0 then (some (-1)) else (some t346)) = some r := H
  by_cases c8 : t346 < 0
  ·rw [if_pos c8] at H
   have c8b0 : decide (t346 < 0) = true := decide_eq_true c8
   clear c8
   obtain rfl := Option.some.inj H
   go_enter Try.func57, Try.ntmps57
   go_wp2_with (first | ((with_reducible refine gate_dst (N := 2) rfl ?_); refine boxev 2 #[.int .i64 a0_0, .slice A0_1 l0_1.length c0_1, .slice A0_2 l0_2.length c0_2] 38 ?_; intro gb344 hg w9 hbox hb; have BK344 := ak (hbox); have GW344 := ak (hgl hg (belowd HB)); have GE344 := ak (hgl hg (belowd HB)); replace HB := ak (below_step (belowd HB) hb); clear hb hbox hg; obtain ⟨hcz10_0, hcz10_1, hcz10_2, hfz10_0, hfz10_1, hfz10_2⟩ := box3 BK344) | ((with_reducible refine gate_callee (f := 41) rfl ?_); refine goesLa (some 8) rfl Try.func41 #[.slice A0_1 l0_1.length c0_1, .int .i64 a1] rfl ?_; (with_reducible refine (laws_heldIntSS.calls k _ _ l0_1 a1 t345 _ ?side1 ?side2 A3.out).mono ?_); (case side1 => exact cd (Kd.C_below HR0_1.out HB.out)); (case side2 => exact HC0_1.out); rintro e w' ⟨rfl, ⟨nd, rfl⟩⟩; refine ⟨_, rfl, ?_⟩) | ((with_reducible refine gate_callee (f := 28) rfl ?_); refine goesLa (some 14) rfl Try.func28 #[.slice A0_2 l0_2.length c0_2, .int .i64 t345] rfl ?_; (with_reducible refine (laws_heldIntS.calls k _ _ l0_2 t345 t346 _ ?side1 ?side2 A7.out).mono ?_); (case side1 => exact cd (Kd.C_below HR0_2.out (belowg1 HB GE344))); (case side2 => exact HC0_2.out); rintro e w' ⟨rfl, ⟨nd, rfl⟩⟩; refine ⟨_, rfl, ?_⟩))
   go_ret
   exact ⟨er2, belowg1 HB GE344⟩
  ·rw [if_neg c8] at H
   have c8b0 : decide (t346 < 0) = false := decide_eq_false c8
   clear c8
   obtain rfl := Option.some.inj H
   go_enter Try.func57, Try.ntmps57
   go_wp2_with (first | ((with_reducible refine gate_dst (N := 2) rfl ?_); refine boxev 2 #[.int .i64 a0_0, .slice A0_1 l0_1.length c0_1, .slice A0_2 l0_2.length c0_2] 38 ?_; intro gb344 hg w11 hbox hb; have BK344 := ak (hbox); have GW344 := ak (hgl hg (belowd HB)); have GE344 := ak (hgl hg (belowd HB)); replace HB := ak (below_step (belowd HB) hb); clear hb hbox hg; obtain ⟨hcz12_0, hcz12_1, hcz12_2, hfz12_0, hfz12_1, hfz12_2⟩ := box3 BK344) | ((with_reducible refine gate_callee (f := 41) rfl ?_); refine goesLa (some 8) rfl Try.func41 #[.slice A0_1 l0_1.length c0_1, .int .i64 a1] rfl ?_; (with_reducible refine (laws_heldIntSS.calls k _ _ l0_1 a1 t345 _ ?side1 ?side2 A3.out).mono ?_); (case side1 => exact cd (Kd.C_below HR0_1.out HB.out)); (case side2 => exact HC0_1.out); rintro e w' ⟨rfl, ⟨nd, rfl⟩⟩; refine ⟨_, rfl, ?_⟩) | ((with_reducible refine gate_callee (f := 28) rfl ?_); refine goesLa (some 14) rfl Try.func28 #[.slice A0_2 l0_2.length c0_2, .int .i64 t345] rfl ?_; (with_reducible refine (laws_heldIntS.calls k _ _ l0_2 t345 t346 _ ?side1 ?side2 A7.out).mono ?_); (case side1 => exact cd (Kd.C_below HR0_2.out (belowg1 HB GE344))); (case side2 => exact HC0_2.out); rintro e w' ⟨rfl, ⟨nd, rfl⟩⟩; refine ⟨_, rfl, ?_⟩))
   go_ret
   exact ⟨er2, belowg1 HB GE344⟩

end Go.Proofs.Ytpibdgknmjjolaa.QFnExactOtherCoins
