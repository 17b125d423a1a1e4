-- printed by this session's own program (wip/tools/pp.py: the kit's print.py with changes); Lean checks it
import Derived.Test.YtpibdgknmjjolaaQFnTablex0
import Derived.Test.YtpibdgknmjjolaaQFnTablex3
import Derived.Test.YtpibdgknmjjolaaQFnTablex4
import Derived.Test.YtpibdgknmjjolaaQFnTablex7
namespace Go.Proofs.Ytpibdgknmjjolaa.QFnTable
open Go.RowKit Go.Proofs.YtpibdgknmjjolaaW.PrintWords Go.Proofs.YtpibdgknmjjolaaW.PrintLast Go.Proofs.YtpibdgknmjjolaaW.PrintMore
attribute [local go_sem] max2_int min2_int max_two min_two max_three min_three max_four min_four strLss strGtr strLeq strGeq   -- for this text's walks alone
set_option linter.unusedVariables false
set_option linter.unusedSimpArgs false

/-! ### impl_OtherCoins: function 56 -/
mutual
def impl_OtherCoins.j0 : Nat → Int → List Int → Bool → Int → List (List Int) → List Int → Option (Int × (List (List Int)) × List Int × Bool)
  | 0, _, _, _, _, _, _ => none
  | k + 1, x3, x10, x30, x327000, x327001, x327002 => if x30 = true then (some (0, ([] : List (List Int)), ([] : List Int), false)) else ((slices_Clone_int_int.f x327002).bind fun t333 => (impl_OtherCoins.l0 k x3 x10 t333 x327001 (x327001.length : Int) 0 x327000 ([] : List (List Int))))
def impl_OtherCoins.l0 : Nat → Int → List Int → List Int → List (List Int) → Int → Int → Int → List (List Int) → Option (Int × (List (List Int)) × List Int × Bool)
  | 0, _, _, _, _, _, _, _, _ => none
  | k + 1, x3, x10, x36, x39, x40, x41, x337000, x337001 => if x41 < x40 then (if 0 ≤ x41 then (if x41 < (x39.length : Int) then ((slices_Clone_int_int.f (rd_L1 x39 x41)).bind fun t338 => (if x337001.length < 5864062014805 then (impl_OtherCoins.l0 k x3 x10 x36 x39 x40 (wrap64 (x41 + 1)) x337000 (x337001 ++ [t338])) else (none))) else (none)) else (none)) else (impl_OtherCoins.l1 k x3 x10 (x10.length : Int) 0 x337000 x337001 x36)
def impl_OtherCoins.l1 : Nat → Int → List Int → Int → Int → Int → List (List Int) → List Int → Option (Int × (List (List Int)) × List Int × Bool)
  | 0, _, _, _, _, _, _, _ => none
  | k + 1, x3, x53, x54, x55, x337000, x337001, x337002 => if x55 < x54 then (if 0 ≤ x55 then (if x55 < (x53.length : Int) then (if 0 ≤ (rd x53 x55) then (if (rd x53 x55) < (x337002.length : Int) then (impl_OtherCoins.l1 k x3 x53 x54 (wrap64 (x55 + 1)) x337000 x337001 (x337002.set ((rd x53 x55) : Int).toNat (Go.bits .xor .i64 (rd x337002 (rd x53 x55)) x3))) else (none)) else (none)) else (none)) else (none)) else (some (x337000, x337001, x337002, true))
end
def impl_OtherCoins.f (k : Nat) (a0_0 : Int) (l0_1 : List (List Int)) (l0_2 : List Int) (a1 : Int) (a2 : Int) (a3 : Int) : Option (Int × (List (List Int)) × List Int × Bool) := (impl_WayBetween.f k a0_0 l0_1 l0_2 a1 a2).bind fun bt328 => (if bt328.2 = true then ((impl_isByte.f a3).bind fun t332 => (impl_OtherCoins.j0 k a3 bt328.1 (!t332) a0_0 l0_1 l0_2)) else (impl_OtherCoins.j0 k a3 bt328.1 true a0_0 l0_1 l0_2))
theorem impl_OtherCoins.mono_l : ∀ k, (∀ y0 y1 y2 y3 y4 y5, LeO (impl_OtherCoins.j0 k y0 y1 y2 y3 y4 y5) (impl_OtherCoins.j0 (k + 1) y0 y1 y2 y3 y4 y5)) ∧ (∀ y0 y1 y2 y3 y4 y5 y6 y7, LeO (impl_OtherCoins.l0 k y0 y1 y2 y3 y4 y5 y6 y7) (impl_OtherCoins.l0 (k + 1) y0 y1 y2 y3 y4 y5 y6 y7)) ∧ (∀ y0 y1 y2 y3 y4 y5 y6, LeO (impl_OtherCoins.l1 k y0 y1 y2 y3 y4 y5 y6) (impl_OtherCoins.l1 (k + 1) y0 y1 y2 y3 y4 y5 y6))
 | 0 => ⟨fun _ _ _ _ _ _ r h => by simp [impl_OtherCoins.j0] at h, fun _ _ _ _ _ _ _ _ r h => by simp [impl_OtherCoins.l0] at h, fun _ _ _ _ _ _ _ r h => by simp [impl_OtherCoins.l1] at h⟩
 | k + 1 => by
  obtain ⟨ih0, ih1, ih2⟩ := impl_OtherCoins.mono_l k
  refine ⟨?_, ?_, ?_⟩
  ·intro y0 y1 y2 y3 y4 y5
   unfold impl_OtherCoins.j0
   repeat' (first | (with_reducible first | exact ih0 _ _ _ _ _ _ | exact ih1 _ _ _ _ _ _ _ _ | exact ih2 _ _ _ _ _ _ _ | exact impl_WayBetween.mono _ _ _ _ _ _ | exact LeO.refl _ | exact LeO.none _ | refine LeO.ite ?_ ?_ | refine LeO.bind ?_ (fun _ => ?_)) | exact ih0 _ _ _ _ _ _ | exact ih1 _ _ _ _ _ _ _ _ | exact ih2 _ _ _ _ _ _ _ | exact impl_WayBetween.mono _ _ _ _ _ _ | exact LeO.none _ | refine LeO.ite ?_ ?_ | refine LeO.bind ?_ (fun _ => ?_))
  ·intro y0 y1 y2 y3 y4 y5 y6 y7
   unfold impl_OtherCoins.l0
   repeat' (first | (with_reducible first | exact ih0 _ _ _ _ _ _ | exact ih1 _ _ _ _ _ _ _ _ | exact ih2 _ _ _ _ _ _ _ | exact impl_WayBetween.mono _ _ _ _ _ _ | exact LeO.refl _ | exact LeO.none _ | refine LeO.ite ?_ ?_ | refine LeO.bind ?_ (fun _ => ?_)) | exact ih0 _ _ _ _ _ _ | exact ih1 _ _ _ _ _ _ _ _ | exact ih2 _ _ _ _ _ _ _ | exact impl_WayBetween.mono _ _ _ _ _ _ | exact LeO.none _ | refine LeO.ite ?_ ?_ | refine LeO.bind ?_ (fun _ => ?_))
  ·intro y0 y1 y2 y3 y4 y5 y6
   unfold impl_OtherCoins.l1
   repeat' (first | (with_reducible first | exact ih0 _ _ _ _ _ _ | exact ih1 _ _ _ _ _ _ _ _ | exact ih2 _ _ _ _ _ _ _ | exact impl_WayBetween.mono _ _ _ _ _ _ | exact LeO.refl _ | exact LeO.none _ | refine LeO.ite ?_ ?_ | refine LeO.bind ?_ (fun _ => ?_)) | exact ih0 _ _ _ _ _ _ | exact ih1 _ _ _ _ _ _ _ _ | exact ih2 _ _ _ _ _ _ _ | exact impl_WayBetween.mono _ _ _ _ _ _ | exact LeO.none _ | refine LeO.ite ?_ ?_ | refine LeO.bind ?_ (fun _ => ?_))
theorem impl_OtherCoins.mono : ∀ a0 a1 a2 a3 a4 a5 k, LeO (impl_OtherCoins.f k a0 a1 a2 a3 a4 a5) (impl_OtherCoins.f (k + 1) a0 a1 a2 a3 a4 a5) := by
 intro a0 a1 a2 a3 a4 a5 k
 obtain ⟨ih0, ih1, ih2⟩ := impl_OtherCoins.mono_l k
 unfold impl_OtherCoins.f
 repeat' (first | (with_reducible first | exact ih0 _ _ _ _ _ _ | exact ih1 _ _ _ _ _ _ _ _ | exact ih2 _ _ _ _ _ _ _ | exact impl_WayBetween.mono _ _ _ _ _ _ | exact LeO.refl _ | exact LeO.none _ | refine LeO.ite ?_ ?_ | refine LeO.bind ?_ (fun _ => ?_)) | exact ih0 _ _ _ _ _ _ | exact ih1 _ _ _ _ _ _ _ _ | exact ih2 _ _ _ _ _ _ _ | exact impl_WayBetween.mono _ _ _ _ _ _ | exact LeO.none _ | refine LeO.ite ?_ ?_ | refine LeO.bind ?_ (fun _ => ?_))
def impl_OtherCoins.T4 : Bool × List (List Nat × List Nat) := (true, [([], []), ([0], [0]), ([], []), ([2], [2]), ([3], [3]), ([1, 4], [1, 4]), ([], []), ([6, 5, 4, 0, 1, 2, 3, 4, 5, 6], [5, 6])])
def impl_OtherCoins.B4 : List Nat := [0, 1, 0, 4, 12, 31, 0, 127]
theorem impl_OtherCoins.tab4 : rtab .any (opsOf Try.f56 4) = impl_OtherCoins.T4 := by kernel_rfl
theorem impl_OtherCoins.bits4 : waitsOk impl_OtherCoins.T4.2 impl_OtherCoins.B4 = true := by kernel_rfl
def impl_OtherCoins.T8 : Bool × List (List Nat × List Nat) := (true, [([], []), ([0], [0]), ([], []), ([2], [2]), ([3], [3]), ([1, 4, 3], [1, 4]), ([0, 1, 2, 3, 4, 5], []), ([6, 5, 5, 0, 1, 2, 3, 4, 5], [5, 6])])
def impl_OtherCoins.B8 : List Nat := [0, 1, 0, 4, 12, 31, 63, 127]
theorem impl_OtherCoins.tab8 : rtab .any (opsOf Try.f56 8) = impl_OtherCoins.T8 := by kernel_rfl
theorem impl_OtherCoins.bits8 : waitsOk impl_OtherCoins.T8.2 impl_OtherCoins.B8 = true := by kernel_rfl
set_option maxHeartbeats 8000000 in
set_option maxRecDepth 100000 in
theorem impl_OtherCoins.calls (k : Nat) (a0_0 : Int) (A0_1 : Option Addr) (c0_1 : Nat) (l0_1 : List (List Int)) (A0_2 : Option Addr) (c0_2 : Nat) (l0_2 : List Int) (a1 : Int) (a2 : Int) (a3 : Int) (r1 : Int) (r2 : List (List Int)) (r3 : List Int) (r4 : Bool) (w : World) (hr0_1 : Kd.C (Kd.slice 3 (Kd.int .i64)) w A0_1 l0_1.length l0_1) (hc0_1 : l0_1.length ≤ c0_1) (hr0_2 : Kd.C (Kd.int .i64) w A0_2 l0_2.length l0_2) (hc0_2 : l0_2.length ≤ c0_2) (h : impl_OtherCoins.f k a0_0 l0_1 l0_2 a1 a2 a3 = some (r1, r2, r3, r4)) :
  Calls Try.prog 56 #[.agg #[.int .i64 a0_0, .slice A0_1 l0_1.length c0_1, .slice A0_2 l0_2.length c0_2], .int .i64 a1, .int .i64 a2, .int .i64 a3] w fun e w' => ∃ v1_ v2_ : Value, e = .returned (.tuple #[.agg #[.int .i64 r1, v1_, v2_], .bool r4]) ∧ Kd.S (Kd.slice 3 (Kd.int .i64)) 22 w' w.heap.size (fun k_ => some k_ ≠ (v2_ : Value).ownBlock) v1_ r2 ∧ Kd.R (Kd.int .i64) 3 w' w.heap.size (fun _ => True) v2_ r3 ∧ Below w.heap.size w w' := by
 have hu38 := Try.underlying38
 have HR0_1 := Aside0.mk hr0_1; have HC0_1 := Aside0.mk hc0_1; clear hr0_1 hc0_1; have HR0_2 := Aside0.mk hr0_2; have HC0_2 := Aside0.mk hc0_2; clear hr0_2 hc0_2
 have HB := Aside0.mk (Below.refl w.heap.size w)
 have H : ((impl_WayBetween.f k a0_0 l0_1 l0_2 a1 a2).bind fun bt328 => (if bt328.2 = true then ((impl_isByte.f a3).bind fun t332 => (impl_OtherCoins.j0 k a3 bt328.1 (!t332) a0_0 l0_1 l0_2)) else (impl_OtherCoins.j0 k a3 bt328.1 true a0_0 l0_1 l0_2))) = some (r1, r2, r3, r4) := h
 clear h; replace H := bS H; obtain ⟨⟨t328, t331⟩, A5, H⟩ := H
 replace H : (if t331 = true then ((impl_isByte.f a3).bind fun t332 => (impl_OtherCoins.j0 k a3 t328 (!t332) a0_0 l0_1 l0_2)) else (impl_OtherCoins.j0 k a3 t328 true a0_0 l0_1 l0_2)) = some (r1, r2, r3, r4) := H
 have HC6 := Aside0.mk H; clear H
 go_enter Try.func56, Try.ntmps56
 go_upto_region 2 with (first | ((with_reducible refine gate_dst (N := 4) rfl ?_); refine boxev 4 #[.int .i64 a0_0, .slice A0_1 l0_1.length c0_1, .slice A0_2 l0_2.length c0_2] 38 ?_; intro gb326 hg w7 hbox hb; have BK326 := ak (hbox); have GW326 := ak (hgl hg (belowd HB)); have GE326 := ak (hgl hg (belowd HB)); replace HB := ak (below_step (belowd HB) hb); clear hb hbox hg) | ((with_reducible refine gate_dst (N := 8) rfl ?_); refine boxev 8 #[.int .i64 0, .slice none 0 0, .slice none 0 0] 38 ?_; intro gb327 hg w8 hbox hb; have BK327 := ak (hbox); have GW327 := ak (hgl hg (belowg1 HB GE326)); have GE327 := ak (hgl hg (belowg1 HB GE326)); replace HB := ak (below_step (belowg1 HB GE326) hb); have NB326_327 := ak ((by rw [hg]; exact Nat.ne_of_lt (blk_lt (blkd BK326)) : gb326 ≠ gb327)); have NB327_326 := ak ((by rw [hg]; exact Nat.ne_of_gt (blk_lt (blkd BK326)) : gb327 ≠ gb326)); replace BK326 := ak (blk_below (blkd BK326) hb); clear hb hbox hg; have hnb9 := NB326_327.out; have hnc9 := NB327_326.out; obtain ⟨hcz10_0, hcz10_1, hcz10_2, hfz10_0, hfz10_1, hfz10_2⟩ := box3 BK326) | ((with_reducible refine gate_callee (f := 43) rfl ?_); refine goesLa (some 21) rfl Try.func43 #[.agg #[.int .i64 a0_0, .slice A0_1 l0_1.length c0_1, .slice A0_2 l0_2.length c0_2], .int .i64 a1, .int .i64 a2] rfl ?_; (with_reducible refine (impl_WayBetween.calls k a0_0 _ _ l0_1 _ _ l0_2 a1 a2 t328 t331 _ ?side1 ?side2 ?side3 ?side4 A5.out).mono ?_); (case side1 => exact cd (Kd.C_below HR0_1.out HB.out)); (case side2 => exact HC0_1.out); (case side3 => exact cd (Kd.C_below HR0_2.out HB.out)); (case side4 => exact HC0_2.out); rintro e w11 ⟨v329, rfl, ho0, hb⟩; refine ⟨_, rfl, ?_⟩; have HO330 := ak (Kd.R_lower ho0 (below_size (belowg2 HB GE326 GE327))); replace BK326 := ak (blk_below (blkd BK326) hb); replace BK327 := ak (blk_below (blkd BK327) hb); replace HB := ak (below_step (belowg2 HB GE326 GE327) hb); (try clear hb); (try clear ho0)))
 (try simp only [Act.put, List.setIfInBounds_toArray, List.set_cons_zero, List.set_cons_succ])
 go_cut [30] (fun v30 wc => ∃ (kq : Nat) (x30_5 : Bool), v30 = .bool x30_5 ∧ Aside0 (impl_OtherCoins.j0 kq a3 t328 x30_5 a0_0 l0_1 l0_2 = some (r1, r2, r3, r4)) ∧ Aside0 (kq ≤ k) ∧ Aside0 (Kd.R (Kd.int .i64) 3 wc w.heap.size (fun _ => True) v329 t328) ∧ Aside0 (wc.heap[gb326]? = some (.cells #[.int .i64 a0_0, (.slice A0_1 l0_1.length c0_1), (.slice A0_2 l0_2.length c0_2)] 38 (0, 0))) ∧ Aside0 (wc.heap[gb327]? = some (.cells #[.int .i64 0, (.slice none 0 0), (.slice none 0 0)] 38 (0, 0))) ∧ Aside0 (Below w.heap.size w wc))
 case first =>
  have H := HC6.out; clear HC6
  by_cases c12 : t331 = true
  ·subst c12
   have H1 : ((impl_isByte.f a3).bind fun t332 => (impl_OtherCoins.j0 k a3 t328 (!t332) a0_0 l0_1 l0_2)) = some (r1, r2, r3, r4) := by rw [if_pos rfl] at H; exact H
   clear H
   have H := H1
   clear H1; replace H := bS H; obtain ⟨t332, A13, H⟩ := H
   replace H : (impl_OtherCoins.j0 k a3 t328 (!t332) a0_0 l0_1 l0_2) = some (r1, r2, r3, r4) := H
   have H' := Aside0.mk H
   clear H
   go_wp2_with (first | (go_at_call 120; (with_reducible refine (impl_isByte.calls a3 t332 _ A13.out).mono ?_); rintro e w' ⟨rfl, ⟨nd, rfl⟩⟩))
   go_meet
   case rel => exact ⟨_, (!t332), er, H', ⟨by first | omega | exact Nat.le_refl _⟩, ⟨rdl HO330⟩, ⟨blkd BK326⟩, ⟨blkd BK327⟩, ⟨belowg2 HB GE326 GE327⟩⟩
  ·replace c12 := Bool.eq_false_iff.mpr c12
   subst c12
   have H1 : (impl_OtherCoins.j0 k a3 t328 true a0_0 l0_1 l0_2) = some (r1, r2, r3, r4) := by rw [if_neg (show ¬ (false = true) by decide)] at H; exact H
   clear H
   have H := H1
   clear H1
   have H' := Aside0.mk H
   clear H; go_wp2
   go_meet
   case rel => exact ⟨_, (true), er, H', ⟨by first | omega | exact Nat.le_refl _⟩, ⟨rdl HO330⟩, ⟨blkd BK326⟩, ⟨blkd BK327⟩, ⟨belowg2 HB GE326 GE327⟩⟩
 case rest =>
  clear HC6; (try clear hcz10_0); (try clear hcz10_1); (try clear hcz10_2); (try clear hfz10_0); (try clear hfz10_1); (try clear hfz10_2)
  obtain ⟨kq, x30_5, rfl, HA, HJ5, HO_10, BK326, BK327, HB⟩ := hcut
  cases kq with
  | zero => exact absurd HA.out (by simp [impl_OtherCoins.j0])
  | succ kj5 =>
   have H := HA.out; clear HA
   simp only [impl_OtherCoins.j0] at H
   by_cases c14 : x30_5 = true
   ·subst c14
    have H1 : (some (0, ([] : List (List Int)), ([] : List Int), false)) = some (r1, r2, r3, r4) := by rw [if_pos rfl] at H; exact H
    clear H
    have H := H1
    clear H1
    simp only [Option.some.injEq, Prod.mk.injEq] at H
    obtain ⟨rfl, rfl, rfl, rfl⟩ := H; have hnb15 := NB327_326.out; have hnc15 := NB326_327.out; obtain ⟨hcz16_0, hcz16_1, hcz16_2, hfz16_0, hfz16_1, hfz16_2⟩ := box3 BK327; go_wp2
    refine bodyPost_ret (results_ct rfl _ _ gb327 38 #[.int .i64 0, .slice none 0 0, .slice none 0 0] (0, 0) _ rfl (by (with_reducible repeat (first | refine blk_drewN ?_ _ | refine blk_drew ?_ | refine blk_alloc ?_ _)); refine blk_put (cs := #[.int .i64 0, .slice none 0 0, .slice none 0 0]) ?_ 2 _ rfl; (with_reducible repeat (first | refine blk_drewN ?_ _ | refine blk_drew ?_ | refine blk_alloc ?_ _)); refine blk_put (cs := #[.int .i64 0, .slice none 0 0, .slice none 0 0]) ?_ 1 _ rfl; (with_reducible repeat (first | refine blk_drewN ?_ _ | refine blk_drew ?_ | refine blk_alloc ?_ _)); refine blk_put (cs := #[.int .i64 0, .slice none 0 0, .slice none 0 0]) ?_ 0 _ rfl; (with_reducible repeat (first | refine blk_drewN ?_ _ | refine blk_drew ?_ | refine blk_alloc ?_ _)); exact BK327.out) Try.underlying38 rfl (by kernel_rfl)) rfl ?_
    exact ⟨_, _, er2, by first | exact Kd.S_nil _ _ _ _ _ | exact Kd.N_nil _ _ _ _ _ | exact Kd.V_nil _ _ _ _ _ | exact Kd.Q_nil _ _ _ _ _ | exact Kd.R_nil _ _ _ _ _, by first | exact Kd.R_nil _ _ _ _ _ | exact Kd.N_nil _ _ _ _ _ | exact Kd.V_nil _ _ _ _ _ | exact Kd.Q_nil _ _ _ _ _ | exact Kd.S_nil _ _ _ _ _, belowg2 HB GE326 GE327⟩
   ·replace c14 := Bool.eq_false_iff.mpr c14
    subst c14
    have H1 : ((slices_Clone_int_int.f l0_2).bind fun t333 => (impl_OtherCoins.l0 kj5 a3 t328 t333 l0_1 (l0_1.length : Int) 0 a0_0 ([] : List (List Int)))) = some (r1, r2, r3, r4) := by rw [if_neg (show ¬ (false = true) by decide)] at H; exact H
    clear H
    have H := H1
    clear H1; replace H := bS H; obtain ⟨t333, A17, H⟩ := H
    replace H : (impl_OtherCoins.l0 kj5 a3 t328 t333 l0_1 (l0_1.length : Int) 0 a0_0 ([] : List (List Int))) = some (r1, r2, r3, r4) := H
    have H' := Aside0.mk H
    clear H
    try go_wp2
    replace HO_10 := ak (Kd.R_drew HO_10.out)
    replace BK326 := ak (blk_drew BK326.out)
    replace BK327 := ak (blk_drew BK327.out)
    replace HB := ak (below_drew1 HB.out)
    refine start_ (n := 8) (S := fun w' => w'.cell? ⟨gb326, 0, none⟩ = some (.int .i64 a0_0) ∧ w'.cell? ⟨gb326, 1, none⟩ = some (.slice A0_1 l0_1.length c0_1) ∧ w'.cell? ⟨gb326, 2, none⟩ = some (.slice A0_2 l0_2.length c0_2)) (ds := []) (bl 8 0) (by kernel_rfl) rfl rfl ⟨bq BK326 0, bq BK326 1, bq BK326 2⟩ (fun hHeld => ?_); refine with_tabW impl_OtherCoins.tab4 impl_OtherCoins.bits4 (fun HT_ HW_ => ?_)
    generalize wc.drew = w18 at HO_10 BK326 BK327 HB hHeld ⊢
    refine pureA 0 (some 32) 8 1 HT_ ?_
    refine pureA 2 (some 34) 8 5 HT_ ?_
    refine takeA 1 (some 33) 8 7 HT_ HW_ hHeld ?_ (hy := by rintro w' ⟨s0, s1, s2⟩; go_simp; with_reducible rfl)
    refine takeA 3 (some 35) 8 15 HT_ HW_ hHeld ?_ (hy := by rintro w' ⟨s0, s1, s2⟩; go_simp; with_reducible rfl)
    refine join_ (σ := Value × Nat) 1 (bl 8 127) (fun s_ => [(36, s_.1), (12, .pointer (some ⟨s_.2, 0, none⟩)), (37, .agg #[.int .i64 a0_0, .slice none 0 0, s_.1])]) (fun s_ w' => (w'.cell? ⟨gb326, 0, none⟩ = some (.int .i64 a0_0) ∧ w'.cell? ⟨gb326, 1, none⟩ = some (.slice A0_1 l0_1.length c0_1) ∧ w'.cell? ⟨gb326, 2, none⟩ = some (.slice A0_2 l0_2.length c0_2)) ∧ (Kd.R (Kd.int .i64) 3 w' w.heap.size (fun k_ => some k_ ≠ (v329 : Value).ownBlock) s_.1 t333) ∧ (Kd.R (Kd.int .i64) 3 w' w.heap.size (fun k_ => some k_ ≠ (s_.1 : Value).ownBlock) v329 t328) ∧ (w'.heap[gb326]? = some (.cells #[.int .i64 a0_0, .slice A0_1 l0_1.length c0_1, .slice A0_2 l0_2.length c0_2] 38 (0, 0))) ∧ (w'.heap[gb327]? = some (.cells #[.int .i64 0, .slice none 0 0, .slice none 0 0] 38 (0, 0))) ∧ (w'.heap[s_.2]? = some (.cells #[.int .i64 0, .slice none 0 0, .slice none 0 0] 38 (0, 0))) ∧ (w.heap.size ≤ s_.2) ∧ (w.heap.size ≤ s_.2) ∧ (gb326 ≠ s_.2) ∧ (s_.2 ≠ gb326) ∧ (gb327 ≠ s_.2) ∧ (s_.2 ≠ gb327) ∧ (Below w.heap.size w w')) ?_ ?_
    rotate_left
    ·intro hCont
     refine two_ (i := 4) (j := 6) (Ni := some 36) (Nj := some 12) (bl 8 31) (bl 8 79) rfl rfl rfl rfl (two_of HT_.out (by kernel_rfl)) (by decide) (by decide) (fun K hK => ?_) (fun K hK => ?_)
     ·skip
      refine goes_ Try.func121 (by kernel_rfl) rfl #[.slice A0_2 l0_2.length c0_2] (by rfl) rfl rfl (by (try simp only [List.map_toArray, List.map_cons, List.map_nil]); first | done | rfl | (simp only [List.length_drop, List.length_take]; rfl)) ?_
      with_reducible refine (slices_Clone_int_int.calls _ _ l0_2 t333 _ ?side1 ?side2 A17.out).mono ?_
      (case side1 => exact cd (Kd.C_below HR0_2.out HB.out))
      (case side2 => exact HC0_2.out)
      rintro e w19 ⟨v334, rfl, ho0, hb⟩
      refine ⟨_, rfl, ?_⟩
      have HO335 := ak (Kd.R_lower (Kd.R_new' ho0 (Kd.R_lt (rdl HO_10))) (below_size (belowg2 HB GE326 GE327)))
      replace HO_10 := ak (Kd.R_elder' (rdl HO_10) (Kd.R_base ho0) hb)
      replace BK326 := ak (blk_below (blkd BK326) hb)
      replace BK327 := ak (blk_below (blkd BK327) hb)
      replace HB := ak (below_step (belowg2 HB GE326 GE327) hb)
      (try clear hb); (try clear hb2); (try clear hk); (try clear hi); (try clear ho0)
      obtain ⟨Ao20, co20, eo20⟩ := Kd.R_slice HO335.out
      (first | subst eo20 | (injection eo20 with f1_ f2_ f3_; have f4_ := f1_.symm; have f5_ := f3_.symm; clear f1_ f2_ f3_; subst f4_; subst f5_))
      refine hK.out _ _ ⟨bq BK326 0, bq BK326 1, bq BK326 2⟩ (fun hHeld => ?_)
      clear hK K
      refine norm_ (a' := ?_) ?_ ?_
      rotate_left
      ·show Act.put _ (some 36) _ = _
       simp only [Act.put, List.setIfInBounds_toArray, List.set_cons_zero, List.set_cons_succ, i64_w, i32_w]
       rfl
      refine pureA 5 (some 37) 8 63 HT_ ?_
      refine oneA 6 (some 12) 8 127 HT_ (fun K hK => ?_)
      refine box_step ?hg (N := 12) ?hd (cs := #[.int .i64 0, .slice none 0 0, .slice none 0 0]) (t := 38) ?hr ?_; (case hd => rfl); (case hg => rfl); (case hr => first | (go_simp; done) | (go_simp; rfl))
      intro gb336 hg w21 hbox hb
      replace HO_10 := ak (Kd.R_below (rdl HO_10) hb)
      replace HO335 := ak (Kd.R_below (rdl HO335) hb)
      have BK336 := ak (hbox)
      have GW336 := ak (hgl hg (belowg2 HB GE326 GE327))
      have GE336 := ak (hgl hg (belowg2 HB GE326 GE327))
      replace HB := ak (below_step (belowg2 HB GE326 GE327) hb)
      have NB326_336 := ak ((by rw [hg]; exact Nat.ne_of_lt (blk_lt (blkd BK326)) : gb326 ≠ gb336))
      have NB336_326 := ak ((by rw [hg]; exact Nat.ne_of_gt (blk_lt (blkd BK326)) : gb336 ≠ gb326))
      replace BK326 := ak (blk_below (blkd BK326) hb)
      have NB327_336 := ak ((by rw [hg]; exact Nat.ne_of_lt (blk_lt (blkd BK327)) : gb327 ≠ gb336))
      have NB336_327 := ak ((by rw [hg]; exact Nat.ne_of_gt (blk_lt (blkd BK327)) : gb336 ≠ gb327))
      replace BK327 := ak (blk_below (blkd BK327) hb)
      clear hb hbox hg
      refine hK.out _ _ ⟨bq BK326 0, bq BK326 1, bq BK326 2⟩ (fun hHeld => ?_)
      clear hK K
      refine norm_ (a' := ?_) ?_ ?_
      rotate_left
      ·show Act.put _ (some 12) _ = _
       simp only [Act.put, List.setIfInBounds_toArray, List.set_cons_zero, List.set_cons_succ, i64_w, i32_w]
       rfl
      exact norm_ (by simp only [putAll, Act.put, List.setIfInBounds_toArray, List.set_cons_zero, List.set_cons_succ]) (hCont (.slice Ao20 t333.length co20, gb336) _ ⟨hHeld, (by (with_reducible repeat (first | apply Kd.R_alloc | apply Kd.R_drewN | apply Kd.R_drew)); exact Kd.R_mono HO335.out (fun _ hk => hk.2)), (by (with_reducible repeat (first | apply Kd.R_alloc | apply Kd.R_drewN | apply Kd.R_drew)); exact Kd.R_mono HO_10.out (fun _ hk => hk.2)), (blkd BK326), (blkd BK327), (blkd BK336), GW336.out, GE336.out, NB326_336.out, NB336_326.out, NB327_336.out, NB336_327.out, (belowg3 HB GE326 GE327 GE336)⟩)
     ·skip
      refine box_step ?hg (N := 12) ?hd (cs := #[.int .i64 0, .slice none 0 0, .slice none 0 0]) (t := 38) ?hr ?_; (case hd => rfl); (case hg => rfl); (case hr => first | (go_simp; done) | (go_simp; rfl))
      intro gb336 hg w19 hbox hb
      replace HO_10 := ak (Kd.R_below (rdl HO_10) hb)
      have BK336 := ak (hbox)
      have GW336 := ak (hgl hg (belowg2 HB GE326 GE327))
      have GE336 := ak (hgl hg (belowg2 HB GE326 GE327))
      replace HB := ak (below_step (belowg2 HB GE326 GE327) hb)
      have NB326_336 := ak ((by rw [hg]; exact Nat.ne_of_lt (blk_lt (blkd BK326)) : gb326 ≠ gb336))
      have NB336_326 := ak ((by rw [hg]; exact Nat.ne_of_gt (blk_lt (blkd BK326)) : gb336 ≠ gb326))
      replace BK326 := ak (blk_below (blkd BK326) hb)
      have NB327_336 := ak ((by rw [hg]; exact Nat.ne_of_lt (blk_lt (blkd BK327)) : gb327 ≠ gb336))
      have NB336_327 := ak ((by rw [hg]; exact Nat.ne_of_gt (blk_lt (blkd BK327)) : gb336 ≠ gb327))
      replace BK327 := ak (blk_below (blkd BK327) hb)
      clear hb hbox hg
      refine hK.out _ _ ⟨bq BK326 0, bq BK326 1, bq BK326 2⟩ (fun hHeld => ?_)
      clear hK K
      refine norm_ (a' := ?_) ?_ ?_
      rotate_left
      ·show Act.put _ (some 12) _ = _
       simp only [Act.put, List.setIfInBounds_toArray, List.set_cons_zero, List.set_cons_succ, i64_w, i32_w]
       rfl
      refine oneA 4 (some 36) 8 95 HT_ (fun K hK => ?_)
      refine goes_ Try.func121 (by kernel_rfl) rfl #[.slice A0_2 l0_2.length c0_2] (by rfl) rfl rfl (by (try simp only [List.map_toArray, List.map_cons, List.map_nil]); first | done | rfl | (simp only [List.length_drop, List.length_take]; rfl)) ?_
      with_reducible refine (slices_Clone_int_int.calls _ _ l0_2 t333 _ ?side1 ?side2 A17.out).mono ?_
      (case side1 => exact cd (Kd.C_below HR0_2.out HB.out))
      (case side2 => exact HC0_2.out)
      rintro e w20 ⟨v334, rfl, ho0, hb⟩
      refine ⟨_, rfl, ?_⟩
      have HO335 := ak (Kd.R_lower (Kd.R_new' ho0 (Kd.R_lt (rdl HO_10))) (below_size (belowg3 HB GE326 GE327 GE336)))
      replace HO_10 := ak (Kd.R_elder' (rdl HO_10) (Kd.R_base ho0) hb)
      replace BK326 := ak (blk_below (blkd BK326) hb)
      replace BK327 := ak (blk_below (blkd BK327) hb)
      replace BK336 := ak (blk_below (blkd BK336) hb)
      replace HB := ak (below_step (belowg3 HB GE326 GE327 GE336) hb)
      (try clear hb); (try clear hb2); (try clear hk); (try clear hi); (try clear ho0)
      obtain ⟨Ao21, co21, eo21⟩ := Kd.R_slice HO335.out
      (first | subst eo21 | (injection eo21 with f1_ f2_ f3_; have f4_ := f1_.symm; have f5_ := f3_.symm; clear f1_ f2_ f3_; subst f4_; subst f5_))
      refine hK.out _ _ ⟨bq BK326 0, bq BK326 1, bq BK326 2⟩ (fun hHeld => ?_)
      clear hK K
      refine norm_ (a' := ?_) ?_ ?_
      rotate_left
      ·show Act.put _ (some 36) _ = _
       simp only [Act.put, List.setIfInBounds_toArray, List.set_cons_zero, List.set_cons_succ, i64_w, i32_w]
       rfl
      refine pureA 5 (some 37) 8 127 HT_ ?_
      exact norm_ (by simp only [putAll, Act.put, List.setIfInBounds_toArray, List.set_cons_zero, List.set_cons_succ]) (hCont (.slice Ao21 t333.length co21, gb336) _ ⟨hHeld, (by (with_reducible repeat (first | apply Kd.R_alloc | apply Kd.R_drewN | apply Kd.R_drew)); exact Kd.R_mono HO335.out (fun _ hk => hk.2)), (by (with_reducible repeat (first | apply Kd.R_alloc | apply Kd.R_drewN | apply Kd.R_drew)); exact Kd.R_mono HO_10.out (fun _ hk => hk.2)), (blkd BK326), (blkd BK327), (blkd BK336), GW336.out, GE336.out, NB326_336.out, NB336_326.out, NB327_336.out, NB336_327.out, (belowg3 HB GE326 GE327 GE336)⟩)
    rintro ⟨v334, gb336⟩ w22 ⟨hS_, h0_, h1_, h2_, h3_, h4_, h5_, h6_, h7_, h8_, h9_, h10_, h11_⟩
    have n0_ : Aside0 (Kd.R (Kd.int .i64) 3 w22 w.heap.size (fun k_ => some k_ ≠ (v329 : Value).ownBlock) v334 t333) := ⟨h0_⟩
    have n1_ : Aside0 (Kd.R (Kd.int .i64) 3 w22 w.heap.size (fun k_ => some k_ ≠ (v334 : Value).ownBlock) v329 t328) := ⟨h1_⟩
    have n2_ : Aside0 (w22.heap[gb326]? = some (.cells #[.int .i64 a0_0, .slice A0_1 l0_1.length c0_1, .slice A0_2 l0_2.length c0_2] 38 (0, 0))) := ⟨h2_⟩
    have n3_ : Aside0 (w22.heap[gb327]? = some (.cells #[.int .i64 0, .slice none 0 0, .slice none 0 0] 38 (0, 0))) := ⟨h3_⟩
    have n4_ : Aside0 (w22.heap[gb336]? = some (.cells #[.int .i64 0, .slice none 0 0, .slice none 0 0] 38 (0, 0))) := ⟨h4_⟩
    have n5_ : Aside0 (w.heap.size ≤ gb336) := ⟨h5_⟩
    have n6_ : Aside0 (w.heap.size ≤ gb336) := ⟨h6_⟩
    have n7_ : Aside0 (gb326 ≠ gb336) := ⟨h7_⟩
    have n8_ : Aside0 (gb336 ≠ gb326) := ⟨h8_⟩
    have n9_ : Aside0 (gb327 ≠ gb336) := ⟨h9_⟩
    have n10_ : Aside0 (gb336 ≠ gb327) := ⟨h10_⟩
    have n11_ : Aside0 (Below w.heap.size w w22) := ⟨h11_⟩
    clear HO_10; clear BK326; clear BK327; clear HB; clear h0_ h1_ h2_ h3_ h4_ h5_ h6_ h7_ h8_ h9_ h10_ h11_
    have HO335 := n0_
    have HO_10 := n1_
    have BK326 := n2_
    have BK327 := n3_
    have BK336 := n4_
    have GW336 := n5_
    have GE336 := n6_
    have NB326_336 := n7_
    have NB336_326 := n8_
    have NB327_336 := n9_
    have NB336_327 := n10_
    have HB := n11_
    clear n0_ n1_ n2_ n3_ n4_ n5_ n6_ n7_ n8_ n9_ n10_ n11_
    have hHeld : w22.cell? ⟨gb326, 0, none⟩ = some (.int .i64 a0_0) ∧ w22.cell? ⟨gb326, 1, none⟩ = some (.slice A0_1 l0_1.length c0_1) ∧ w22.cell? ⟨gb326, 2, none⟩ = some (.slice A0_2 l0_2.length c0_2) := hS_
    obtain ⟨Ao23, co23, eo23⟩ := Kd.R_slice HO335.out
    (first | subst eo23 | (injection eo23 with f1_ f2_ f3_; have f4_ := f1_.symm; have f5_ := f3_.symm; clear f1_ f2_ f3_; subst f4_; subst f5_))
    refine norm_ (a' := ?_) ?_ ?_
    rotate_left
    ·simp only [putAll, Act.put, List.setIfInBounds_toArray, List.set_cons_zero, List.set_cons_succ]
     rfl
    refine oneA 7 none 8 255 HT_ (fun K hK => ?_)
    have hs24 : w22.cell? ⟨gb336, 0, none⟩ = some (.int .i64 0) := bq BK336 0
    have hfs24 := blk_frozen BK336.out 0
    have hns24_0 := NB326_336.out; have hns24_1 := NB327_336.out; have hms24_0 := NB336_326.out; have hms24_1 := NB336_327.out
    have hs25 : w22.cell? ⟨gb336, 1, none⟩ = some (.slice none 0 0) := bq BK336 1
    have hfs25 := blk_frozen BK336.out 1
    have hns25_0 := NB326_336.out; have hns25_1 := NB327_336.out; have hms25_0 := NB336_326.out; have hms25_1 := NB336_327.out
    have hs26 : w22.cell? ⟨gb336, 2, none⟩ = some (.slice none 0 0) := bq BK336 2
    have hfs26 := blk_frozen BK336.out 2
    have hns26_0 := NB326_336.out; have hns26_1 := NB327_336.out; have hms26_0 := NB336_326.out; have hms26_1 := NB336_327.out
    refine skip_ (w1 := ?_) (by rfl) rfl ?_ ?_
    rotate_left
    ·go_simp
     rfl
    refine hK.out _ _ ⟨((cell_far (p := ⟨gb336, _, none⟩) NB326_336.out _).trans (((cell_far (p := ⟨gb336, _, none⟩) NB326_336.out _).trans (((cell_far (p := ⟨gb336, _, none⟩) NB326_336.out _).trans (hHeld.1)))))), ((cell_far (p := ⟨gb336, _, none⟩) NB326_336.out _).trans (((cell_far (p := ⟨gb336, _, none⟩) NB326_336.out _).trans (((cell_far (p := ⟨gb336, _, none⟩) NB326_336.out _).trans (hHeld.2.1)))))), ((cell_far (p := ⟨gb336, _, none⟩) NB326_336.out _).trans (((cell_far (p := ⟨gb336, _, none⟩) NB326_336.out _).trans (((cell_far (p := ⟨gb336, _, none⟩) NB326_336.out _).trans (hHeld.2.2))))))⟩ (fun hHeld => ?_)
    clear hK K
    refine done_ (done_of HT_.out (by kernel_rfl)) ?_
    have hnb27 := NB326_327.out; have hnc27 := NB327_326.out; have hnb28 := NB326_336.out; have hnc28 := NB336_326.out; obtain ⟨hcz29_0, hcz29_1, hcz29_2, hfz29_0, hfz29_1, hfz29_2⟩ := box3 BK326
    try go_wp2
    go_loopg [41] kj5 (fun kq v41 w' => ∃ (x41_2 : Int) (x337001_2 : List (List Int)) (u337001 : Value), v41 = .int .i64 x41_2 ∧ Aside0 (impl_OtherCoins.l0 kq a3 t328 t333 l0_1 (l0_1.length : Int) x41_2 a0_0 x337001_2 = some (r1, r2, r3, r4)) ∧ Aside0 (kq ≤ kj5) ∧ Aside0 (Kd.R (Kd.int .i64) 3 w' w.heap.size (fun k_ => some k_ ≠ ((.slice Ao23 t333.length co23) : Value).ownBlock) v329 t328) ∧ Aside0 (Kd.R (Kd.int .i64) 3 w' w.heap.size (fun k_ => some k_ ≠ (v329 : Value).ownBlock) (.slice Ao23 t333.length co23) t333) ∧ Aside0 (Kd.S (Kd.slice 3 (Kd.int .i64)) 22 w' w.heap.size (fun k_ => some k_ ≠ (v329 : Value).ownBlock ∧ some k_ ≠ ((.slice Ao23 t333.length co23) : Value).ownBlock) u337001 x337001_2) ∧ Aside0 (w'.heap[gb326]? = some (.cells #[.int .i64 a0_0, (.slice A0_1 l0_1.length c0_1), (.slice A0_2 l0_2.length c0_2)] 38 (0, 0))) ∧ Aside0 (w'.heap[gb327]? = some (.cells #[.int .i64 0, (.slice none 0 0), (.slice none 0 0)] 38 (0, 0))) ∧ Aside0 (w'.heap[gb336]? = some (.cells #[.int .i64 a0_0, u337001, (.slice Ao23 t333.length co23)] 38 (0, 0))) ∧ Aside0 (Below w.heap.size w w'))
    case atStart => exact ⟨(0), (([] : List (List Int))), (.slice none 0 0), er, H', ⟨Nat.le_refl _⟩, ⟨by (with_reducible repeat (first | apply Kd.R_alloc | apply Kd.R_drewN | apply Kd.R_drew)); exact Kd.R_mono (Kd.R_far (p := ⟨gb336, 2, none⟩) (Kd.R_far (p := ⟨gb336, 1, none⟩) (Kd.R_far (p := ⟨gb336, 0, none⟩) (Kd.R_types HO_10.out BK336.out (by decide)) (fun _ hk => hk.2) (.int .i64 a0_0)) (fun _ hk => hk.2) (.slice none 0 0)) (fun _ hk => hk.2) (.slice Ao23 t333.length co23)) (fun _ hk => hk.1)⟩, ⟨by (with_reducible repeat (first | apply Kd.R_alloc | apply Kd.R_drewN | apply Kd.R_drew)); exact Kd.R_mono (Kd.R_far (p := ⟨gb336, 2, none⟩) (Kd.R_far (p := ⟨gb336, 1, none⟩) (Kd.R_far (p := ⟨gb336, 0, none⟩) (Kd.R_types HO335.out BK336.out (by decide)) (fun _ hk => hk.2) (.int .i64 a0_0)) (fun _ hk => hk.2) (.slice none 0 0)) (fun _ hk => hk.2) (.slice Ao23 t333.length co23)) (fun _ hk => hk.1)⟩, ⟨by first | exact Kd.S_nil _ _ _ _ _ | exact Kd.N_nil _ _ _ _ _ | exact Kd.V_nil _ _ _ _ _ | exact Kd.Q_nil _ _ _ _ _ | exact Kd.R_nil _ _ _ _ _⟩, ⟨by (with_reducible repeat (first | refine blk_drewN ?_ _ | refine blk_drew ?_ | refine blk_alloc ?_ _)); refine blk_far ?_ NB326_336.out _; (with_reducible repeat (first | refine blk_drewN ?_ _ | refine blk_drew ?_ | refine blk_alloc ?_ _)); refine blk_far ?_ NB326_336.out _; (with_reducible repeat (first | refine blk_drewN ?_ _ | refine blk_drew ?_ | refine blk_alloc ?_ _)); refine blk_far ?_ NB326_336.out _; (with_reducible repeat (first | refine blk_drewN ?_ _ | refine blk_drew ?_ | refine blk_alloc ?_ _)); exact BK326.out⟩, ⟨by (with_reducible repeat (first | refine blk_drewN ?_ _ | refine blk_drew ?_ | refine blk_alloc ?_ _)); refine blk_far ?_ NB327_336.out _; (with_reducible repeat (first | refine blk_drewN ?_ _ | refine blk_drew ?_ | refine blk_alloc ?_ _)); refine blk_far ?_ NB327_336.out _; (with_reducible repeat (first | refine blk_drewN ?_ _ | refine blk_drew ?_ | refine blk_alloc ?_ _)); refine blk_far ?_ NB327_336.out _; (with_reducible repeat (first | refine blk_drewN ?_ _ | refine blk_drew ?_ | refine blk_alloc ?_ _)); exact BK327.out⟩, ⟨by (with_reducible repeat (first | refine blk_drewN ?_ _ | refine blk_drew ?_ | refine blk_alloc ?_ _)); refine blk_put (cs := #[.int .i64 a0_0, .slice none 0 0, .slice none 0 0]) ?_ 2 _ rfl; (with_reducible repeat (first | refine blk_drewN ?_ _ | refine blk_drew ?_ | refine blk_alloc ?_ _)); refine blk_put (cs := #[.int .i64 a0_0, .slice none 0 0, .slice none 0 0]) ?_ 1 _ rfl; (with_reducible repeat (first | refine blk_drewN ?_ _ | refine blk_drew ?_ | refine blk_alloc ?_ _)); refine blk_put (cs := #[.int .i64 0, .slice none 0 0, .slice none 0 0]) ?_ 0 _ rfl; (with_reducible repeat (first | refine blk_drewN ?_ _ | refine blk_drew ?_ | refine blk_alloc ?_ _)); exact BK336.out⟩, ⟨belowg3 HB GE326 GE327 GE336⟩⟩
    case round =>
     clear H'
     (try clear c14); (try clear hcz29_0); (try clear hcz29_1); (try clear hcz29_2); (try clear hfz29_0); (try clear hfz29_1); (try clear hfz29_2)
     obtain ⟨x41_2, x337001_2, u337001, rfl, HA, HK2, HO_10, HO_36, HO_337001, BK326, BK327, BK336, HB⟩ := hrel
     cases gk with
     | zero => exact absurd HA.out (by simp [impl_OtherCoins.l0])
     | succ k2 =>
      have H := HA.out; clear HA
      simp only [impl_OtherCoins.l0] at H
      by_cases c30 : x41_2 < (l0_1.length : Int)
      ·rw [if_pos c30] at H
       have c30b0 : decide (x41_2 < (l0_1.length : Int)) = true := decide_eq_true c30
       clear c30; replace H := ifS H; obtain ⟨c31, H⟩ := H; have c31b0 := decide_eq_true c31; clear c31; replace H := ifS H; obtain ⟨c32, H⟩ := H; have c32b0 := decide_eq_true c32; clear c32; replace H := bS H; obtain ⟨t338, A33, H⟩ := H
       replace H : (if x337001_2.length < 5864062014805 then (impl_OtherCoins.l0 k2 a3 t328 t333 l0_1 (l0_1.length : Int) (wrap64 (x41_2 + 1)) a0_0 (x337001_2 ++ [t338])) else (none)) = some (r1, r2, r3, r4) := H
       replace H := ifS H; obtain ⟨c34, H⟩ := H; have LMc34 := Aside0.mk c34; clear c34
       obtain ⟨y341, hy_⟩ : ∃ y_ : List (List Int), y_ = (x337001_2 ++ [t338]) := ⟨_, rfl⟩
       replace H : (impl_OtherCoins.l0 k2 a3 t328 t333 l0_1 (l0_1.length : Int) (wrap64 (x41_2 + 1)) a0_0 y341) = some (r1, r2, r3, r4) := yH
       have Ny341 := ak hy_; clear hy_
       have H' := Aside0.mk H
       clear H
       have p337 : 0 ≤ (x41_2 : Int) := da
       have q337 : x41_2 < (l0_1.length : Int) := da
       obtain ⟨ad337, A337_0, c337_0, e337, hx337_0, hl337_0, hi337_0⟩ := at_L1 HR0_1.out x41_2 p337 q337
       cases e337
       replace hx337_0 := (HB.out.cell (World.block_lt_of_cell? w _ hx337_0)).trans hx337_0
       have HR337_0 := Aside0.mk hi337_0; have HC337_0 := Aside0.mk hl337_0; clear hi337_0 hl337_0; replace p337 := eq_true p337; replace q337 := eq_true q337
       try go_wp2
       replace HO_10 := ak (Kd.R_drew HO_10.out)
       replace HO_36 := ak (Kd.R_drew HO_36.out)
       replace HO_337001 := ak (Kd.S_drew HO_337001.out)
       replace BK326 := ak (blk_drew BK326.out)
       replace BK327 := ak (blk_drew BK327.out)
       replace BK336 := ak (blk_drew BK336.out)
       replace HB := ak (below_drew1 HB.out)
       refine start_ (n := 8) (S := fun w' => w'.cell? ⟨gb336, 0, none⟩ = some (.int .i64 a0_0) ∧ w'.cell? ⟨gb336, 1, none⟩ = some (u337001) ∧ w'.cell? ⟨gb336, 2, none⟩ = some (.slice Ao23 t333.length co23)) (ds := [7]) (bl 8 0) (by kernel_rfl) rfl rfl ⟨bq BK336 0, bq BK336 1, bq BK336 2⟩ (fun hHeld => ?_); refine with_tabW impl_OtherCoins.tab8 impl_OtherCoins.bits8 (fun HT_ HW_ => ?_)
       generalize wr.drew = w35 at HO_10 HO_36 HO_337001 BK326 BK327 BK336 HB hHeld ⊢
       refine pureA 0 (some 45) 8 1 HT_ ?_
       refine pureA 2 (some 47) 8 5 HT_ ?_
       refine takeA 1 (some 46) 8 7 HT_ HW_ hHeld ?_ (hy := by rintro w' ⟨s0, s1, s2⟩; go_simp; with_reducible rfl)
       refine oneA 3 (some 48) 8 15 HT_ (fun K hK => ?_)
       refine goes_ Try.func121 (by kernel_rfl) rfl #[.slice A337_0 (rd_L1 l0_1 x41_2).length c337_0] (by rfl) rfl rfl (by (try simp only [List.map_toArray, List.map_cons, List.map_nil]); first | done | rfl | (simp only [List.length_drop, List.length_take]; rfl)) ?_
       with_reducible refine (slices_Clone_int_int.calls _ _ (rd_L1 l0_1 x41_2) t338 _ ?side1 ?side2 A33.out).mono ?_
       (case side1 => exact cd (Kd.C_below HR337_0.out HB.out))
       (case side2 => exact HC337_0.out)
       rintro e w36 ⟨v339, rfl, ho0, hb⟩
       refine ⟨_, rfl, ?_⟩
       replace HO_337001 := ak (Kd.S_elder' (sd HO_337001) (Kd.R_base ho0) hb)
       have HO340 := ak (Kd.R_lower (Kd.R_new' (Kd.R_new' ho0 (Kd.R_lt (rdl HO_10))) (Kd.R_lt (rdl HO_36))) (below_size (belowg3 HB GE326 GE327 GE336)))
       replace HO_10 := ak (Kd.R_elder' (rdl HO_10) (Kd.R_base ho0) hb)
       replace HO_36 := ak (Kd.R_elder' (rdl HO_36) (Kd.R_base ho0) hb)
       replace BK326 := ak (blk_below (blkd BK326) hb)
       replace BK327 := ak (blk_below (blkd BK327) hb)
       replace BK336 := ak (blk_below (blkd BK336) hb)
       replace HB := ak (below_step (belowg3 HB GE326 GE327 GE336) hb)
       (try clear hb); (try clear hb2); (try clear hk); (try clear hi); (try clear ho0)
       obtain ⟨Ao38, co38, eo38⟩ := Kd.R_slice HO340.out
       (first | subst eo38 | (injection eo38 with f1_ f2_ f3_; have f4_ := f1_.symm; have f5_ := f3_.symm; clear f1_ f2_ f3_; subst f4_; subst f5_))
       refine hK.out _ _ ⟨bq BK336 0, bq BK336 1, bq BK336 2⟩ (fun hHeld => ?_)
       clear hK K
       refine norm_ (a' := ?_) ?_ ?_
       rotate_left
       ·show Act.put _ (some 48) _ = _
        simp only [Act.put, List.setIfInBounds_toArray, List.set_cons_zero, List.set_cons_succ, i64_w, i32_w]
        rfl
       refine oneA 4 (some 49) 8 31 HT_ (fun K hK => ?_)
       refine value_ (w1 := ?_) (v := ?_) (by rfl) rfl ?_ ?_
       rotate_left 2
       ·go_simp
        constructor
        ·rfl
        ·rfl
       refine hK.out _ _ ⟨(blk_cell (blk_alloc BK336.out _) 0).trans rfl, (blk_cell (blk_alloc BK336.out _) 1).trans rfl, (blk_cell (blk_alloc BK336.out _) 2).trans rfl⟩ (fun hHeld => ?_)
       clear hK K
       refine norm_ (a' := ?_) ?_ ?_
       rotate_left
       ·show Act.put _ (some 49) _ = _
        simp only [Act.put, List.setIfInBounds_toArray, List.set_cons_zero, List.set_cons_succ, i64_w, i32_w]
        rfl
       refine oneA 5 (some 50) 8 63 HT_ (fun K hK => ?_)
       refine Kd.S_append_step (Kd.slice 3 (Kd.int .i64)) (w0 := w) w.heap.size (by rfl) (.tmp 46) (.tmp 49) 32 22 (.slice none 0 0) 24 rfl Try.underlying32 info22 rfl (by decide) (by omega) u337001 x337001_2 t338 [.slice Ao38 t338.length co38] (fun k_ => some k_ ≠ (v329 : Value).ownBlock ∧ some k_ ≠ (.slice Ao23 t333.length co23 : Value).ownBlock) (fun k_ => some k_ = (.slice Ao38 t338.length co38 : Value).ownBlock) rfl rfl ?aP (fun k_ hk_ => ((Kd.R_mono (ok' := fun k_ => ((fun k_ => some k_ ≠ (v329 : Value).ownBlock ∧ some k_ ≠ (.slice Ao23 t333.length co23 : Value).ownBlock)) k_ ∧ some k_ ≠ (u337001 : Value).ownBlock) (Kd.R_apart' (HO340.out) (Kd.S_typed HO_337001.out) (by decide)) (fun k_ hk => ⟨⟨hk.1.1.2, hk.1.2⟩, hk.2⟩))).1 k_ hk_.symm) ?aF ?aO ?aB ?aS ?aL ?_
       (case aP => exact Kd.M_row (Kd.R_mono (Kd.R_tight rfl (Kd.R_mono (ok' := fun k_ => ((fun k_ => some k_ ≠ (v329 : Value).ownBlock ∧ some k_ ≠ (.slice Ao23 t333.length co23 : Value).ownBlock)) k_ ∧ some k_ ≠ (u337001 : Value).ownBlock) (Kd.R_apart' (HO340.out) (Kd.S_typed HO_337001.out) (by decide)) (fun k_ hk => ⟨⟨hk.1.1.2, hk.1.2⟩, hk.2⟩))) (fun _ h_ => h_)))
       (case aB => exact (belowg3 HB GE326 GE327 GE336))
       (case aF => exact (fun k_ hk => ⟨Kd.fresh' (Kd.R_lt (rdl HO_10)) k_ hk, Kd.fresh' (Kd.R_lt (rdl HO_36)) k_ hk⟩))
       (case aO => exact (by (with_reducible repeat (first | apply Kd.S_alloc | apply Kd.S_drewN | apply Kd.S_drew)); exact Kd.S_mono HO_337001.out (fun k_ hk => ⟨⟨hk.1.1, hk.1.2⟩, fun e_ => hk.2 e_⟩)))
       (case aS => exact (below_size (belowg3 HB GE326 GE327 GE336)))
       (case aL => have := LMc34.out; omega)
       intro v342 w37 ho hb hg hat
       rw [← Ny341.out] at ho
       replace HO_10 := ak (Kd.R_over' (rdl HO_10) (Kd.S_typed (sd HO_337001)) (by decide) hg)
       replace HO_36 := ak (Kd.R_over' (rdl HO_36) (Kd.S_typed (sd HO_337001)) (by decide) hg)
       replace BK326 := ak (blk_grown (blkd BK326) hg (Kd.S_ne HO_337001.out BK326.out (by decide)))
       replace BK327 := ak (blk_grown (blkd BK327) hg (Kd.S_ne HO_337001.out BK327.out (by decide)))
       replace BK336 := ak (blk_grown (blkd BK336) hg (Kd.S_ne HO_337001.out BK336.out (by decide)))
       replace HB := ak (hb)
       have HO343 := ak (ho); clear HO_337001 HO340; clear ho hb hg hat
       obtain ⟨Ao39, co39, eo39⟩ := Kd.S_slice HO343.out
       (first | subst eo39 | (injection eo39 with f1_ f2_ f3_; have f4_ := f1_.symm; have f5_ := f3_.symm; clear f1_ f2_ f3_; subst f4_; subst f5_))
       refine hK.out _ _ ⟨bq BK336 0, bq BK336 1, bq BK336 2⟩ (fun hHeld => ?_)
       clear hK K
       refine norm_ (a' := ?_) ?_ ?_
       rotate_left
       ·show Act.put _ (some 50) _ = _
        simp only [Act.put, List.setIfInBounds_toArray, List.set_cons_zero, List.set_cons_succ, i64_w, i32_w]
        rfl
       refine pureA 6 (some 51) 8 127 HT_ ?_
       refine last_ (i := 7) (N := none) (bl 8 255) rfl rfl (one_of HT_.out (by kernel_rfl)) (by decide) (fun K hK => ?_)
       have hs40 : w37.cell? ⟨gb336, 1, none⟩ = some (u337001) := bq BK336 1
       have hfs40 := blk_frozen BK336.out 1
       have hns40_0 := NB326_336.out; have hns40_1 := NB327_336.out; have hms40_0 := NB336_326.out; have hms40_1 := NB336_327.out
       refine skip_ (w1 := ?_) (by rfl) rfl ?_ ?_
       rotate_left
       ·go_simp
        rfl
       refine hK.out _ _ ?_
       clear hK K
       refine done_ (done_of HT_.out (by kernel_rfl)) ?_
       try go_wp2
       go_roundg k2
       case measure => have := HJ5.out; have := HK2.out; omega
       case rel => exact ⟨(wrap64 (x41_2 + 1)), (y341), (.slice Ao39 y341.length co39), er, H', ⟨by have := HJ5.out; have := HK2.out; omega⟩, ⟨by (with_reducible repeat (first | apply Kd.R_alloc | apply Kd.R_drewN | apply Kd.R_drew)); exact Kd.R_mono (Kd.R_far (p := ⟨gb336, 1, none⟩) (Kd.R_types HO_10.out BK336.out (by decide)) (fun _ hk => hk.2) (.slice Ao39 y341.length co39)) (fun _ hk => hk.1.1)⟩, ⟨by (with_reducible repeat (first | apply Kd.R_alloc | apply Kd.R_drewN | apply Kd.R_drew)); exact Kd.R_mono (Kd.R_far (p := ⟨gb336, 1, none⟩) (Kd.R_types HO_36.out BK336.out (by decide)) (fun _ hk => hk.2) (.slice Ao39 y341.length co39)) (fun _ hk => hk.1.1)⟩, ⟨by (with_reducible repeat (first | apply Kd.S_alloc | apply Kd.S_drewN | apply Kd.S_drew)); exact Kd.S_mono (Kd.S_far (p := ⟨gb336, 1, none⟩) (Kd.S_types HO343.out BK336.out (by decide)) (fun _ hk => hk.2) (.slice Ao39 y341.length co39)) (fun _ hk => ⟨hk.1.1, hk.1.2⟩)⟩, ⟨by (with_reducible repeat (first | refine blk_drewN ?_ _ | refine blk_drew ?_ | refine blk_alloc ?_ _)); refine blk_far ?_ NB326_336.out _; (with_reducible repeat (first | refine blk_drewN ?_ _ | refine blk_drew ?_ | refine blk_alloc ?_ _)); exact BK326.out⟩, ⟨by (with_reducible repeat (first | refine blk_drewN ?_ _ | refine blk_drew ?_ | refine blk_alloc ?_ _)); refine blk_far ?_ NB327_336.out _; (with_reducible repeat (first | refine blk_drewN ?_ _ | refine blk_drew ?_ | refine blk_alloc ?_ _)); exact BK327.out⟩, ⟨by (with_reducible repeat (first | refine blk_drewN ?_ _ | refine blk_drew ?_ | refine blk_alloc ?_ _)); refine blk_put (cs := #[.int .i64 a0_0, u337001, .slice Ao23 t333.length co23]) ?_ 1 _ rfl; (with_reducible repeat (first | refine blk_drewN ?_ _ | refine blk_drew ?_ | refine blk_alloc ?_ _)); exact BK336.out⟩, ⟨belowg3 HB GE326 GE327 GE336⟩⟩
      ·rw [if_neg c30] at H
       have c30b0 : decide (x41_2 < (l0_1.length : Int)) = false := decide_eq_false c30
       clear c30
       have H' := Aside0.mk H
       clear H
       obtain ⟨Ao41, co41, eo41⟩ := Kd.R_slice HO_10.out
       subst eo41; go_wp2
       go_loopg [55] k2 (fun kq v55 w' => ∃ (x53_3 : List Int) (x55_3 : Int) (x337002_3 : List Int) (u337002 : Value), v55 = .int .i64 x55_3 ∧ Aside0 (impl_OtherCoins.l1 kq a3 x53_3 (t328.length : Int) x55_3 a0_0 x337001_2 x337002_3 = some (r1, r2, r3, r4)) ∧ Aside0 (kq ≤ k2) ∧ Aside0 (Kd.R (Kd.int .i64) 3 w' w.heap.size (fun k_ => some k_ ≠ (u337002 : Value).ownBlock) (.slice Ao41 t328.length co41) x53_3) ∧ Aside0 (Kd.S (Kd.slice 3 (Kd.int .i64)) 22 w' w.heap.size (fun k_ => some k_ ≠ ((.slice Ao41 t328.length co41) : Value).ownBlock ∧ some k_ ≠ (u337002 : Value).ownBlock) u337001 x337001_2) ∧ Aside0 (Kd.R (Kd.int .i64) 3 w' w.heap.size (fun k_ => some k_ ≠ ((.slice Ao41 t328.length co41) : Value).ownBlock) u337002 x337002_3) ∧ Aside0 (w'.heap[gb326]? = some (.cells #[.int .i64 a0_0, (.slice A0_1 l0_1.length c0_1), (.slice A0_2 l0_2.length c0_2)] 38 (0, 0))) ∧ Aside0 (w'.heap[gb327]? = some (.cells #[.int .i64 0, (.slice none 0 0), (.slice none 0 0)] 38 (0, 0))) ∧ Aside0 (w'.heap[gb336]? = some (.cells #[.int .i64 a0_0, u337001, u337002] 38 (0, 0))) ∧ Aside0 (Below w.heap.size w w'))
       case atStart => exact ⟨(t328), (0), (t333), (.slice Ao23 t333.length co23), er, H', ⟨Nat.le_refl _⟩, ⟨rdl HO_10⟩, ⟨sd HO_337001⟩, ⟨rdl HO_36⟩, ⟨blkd BK326⟩, ⟨blkd BK327⟩, ⟨blkd BK336⟩, ⟨belowg3 HB GE326 GE327 GE336⟩⟩
       case round =>
        clear H'
        (try clear c30b0)
        obtain ⟨x53_3, x55_3, x337002_3, u337002, rfl, HA, HK3, HO_53, HO_337001, HO_337002, BK326, BK327, BK336, HB⟩ := hrel
        have hl53_3 := (Kd.R_reads' HO_53.out).1
        rw [hl53_3] at HO_53
        (try simp only [hl53_3])
        (try simp only [hl53_3] at BK326)
        (try simp only [hl53_3] at BK327)
        (try simp only [hl53_3] at BK336)
        (try simp only [hl53_3] at HO_337001)
        (try simp only [hl53_3] at HO_337002)
        cases gk with
        | zero => exact absurd HA.out (by simp [impl_OtherCoins.l1])
        | succ k3 =>
         have H := HA.out; clear HA
         simp only [impl_OtherCoins.l1] at H
         by_cases c42 : x55_3 < (t328.length : Int)
         ·rw [if_pos c42] at H
          have c42b0 : decide (x55_3 < (t328.length : Int)) = true := decide_eq_true c42
          clear c42; replace H := ifS H; obtain ⟨c43, H⟩ := H; have c43b0 := decide_eq_true c43; clear c43; replace H := ifS H; obtain ⟨c44, H⟩ := H; have c44b0 := decide_eq_true c44; clear c44; replace H := ifS H; obtain ⟨c45, H⟩ := H; have c45b0 := decide_eq_true c45; clear c45; replace H := ifS H; obtain ⟨c46, H⟩ := H; have c46b0 := decide_eq_true c46; clear c46
          obtain ⟨y346, hy_⟩ : ∃ y_ : List Int, y_ = (x337002_3.set ((rd x53_3 x55_3) : Int).toNat (Go.bits .xor .i64 (rd x337002_3 (rd x53_3 x55_3)) a3)) := ⟨_, rfl⟩
          replace H : (impl_OtherCoins.l1 k3 a3 x53_3 (t328.length : Int) (wrap64 (x55_3 + 1)) a0_0 x337001_2 y346) = some (r1, r2, r3, r4) := yH
          have Ny346 := ak hy_; clear hy_
          have H' := Aside0.mk H
          clear H
          have p344 : 0 ≤ (x55_3 : Int) := da
          have q344 : x55_3 < (x53_3.length : Int) := da
          obtain ⟨ad344, e344, hx344_0⟩ := Kd.at_int (Kd.R_reads' HO_53.out).2.2 x55_3 p344 q344
          cases e344
          replace p344 := eq_true p344; replace q344 := eq_true q344; have hnb48 := NB336_326.out; have hnc48 := NB326_336.out; have hnb49 := NB336_327.out; have hnc49 := NB327_336.out; obtain ⟨hcz50_0, hcz50_1, hcz50_2, hfz50_0, hfz50_1, hfz50_2⟩ := box3 BK336
          obtain ⟨Ao51, co51, eo51⟩ := Kd.R_slice HO_337002.out
          subst eo51
          have p345 : 0 ≤ ((rd x53_3 x55_3) : Int) := da
          have q345 : (rd x53_3 x55_3) < (x337002_3.length : Int) := da
          obtain ⟨ad345, e345, hx345_0⟩ := Kd.at_int (Kd.R_reads' HO_337002.out).2.2 (rd x53_3 x55_3) p345 q345
          cases e345
          replace p345 := eq_true p345; replace q345 := eq_true q345
          have p47 : 0 ≤ ((rd x53_3 x55_3) : Int) := da
          have q47 : ((rd x53_3 x55_3) : Int) < ((x337002_3.length : Int) : Int) := da
          obtain ⟨go47, co47, eo47, gb47, gl47, cl47, HG47⟩ := Kd.R_form HO_337002.out (by omega)
          (first | cases eo47 | (injection eo47 with ea_ en_ ec_; (first | subst ea_ | (injection ea_ with ea_; subst ea_)); subst ec_; clear en_))
          have GB47 := Aside0.mk gb47; have GG47 := Aside0.mk HG47; clear gb47 gl47 HG47
          (first | simp only [add_plain] at hx345_0 | skip)
          obtain ⟨hx47_0, hf47_0⟩ := Kd.R_celln 0 HO_337002.out ((rd x53_3 x55_3) : Int) p47 q47
          replace p47 := eq_true p47; replace q47 := eq_true q47
          have HP52 := Kd.R_putg HO_337002.out ((rd x53_3 x55_3) : Int) (Go.bits .xor .i64 (rd x337002_3 (rd x53_3 x55_3)) a3)
          go_wp2_with (first | ((with_reducible refine gate_store (t := 3) (p := 66) rfl ?_); refine store_event (t := 3) (p := 66) (v := ?vo_w53) (w1 := (wr.setCell ⟨go47, ((rd x53_3 x55_3) : Int).toNat, none⟩ (.int .i64 (Go.bits .xor .i64 (rd x337002_3 (rd x53_3 x55_3)) a3)))) ?hg ?ho ?hn ?hr ?_; (case ho => rfl); (case hg => rfl); (case hn => rfl); (case hr => first | (go_simp; done) | (go_simp; rfl)); intro w53 hw; have hg : wr.grownBy w53 (some go47) := (by rw [hw]; exact HP52.2); have hp_ : Kd.R (Kd.int .i64) 3 w53 w.heap.size (fun k_ => some k_ ≠ (.slice (some ad344) x53_3.length co41 : Value).ownBlock) (.slice (some ⟨go47, 0, none⟩) x337002_3.length co51) y346 := (by rw [hw, Ny346.out]; exact HP52.1); clear HP52; replace HO_53 := ak (Kd.R_after (v := (.slice (some ⟨go47, 0, none⟩) x337002_3.length co51)) (v1 := (.slice (some ⟨go47, 0, none⟩) x337002_3.length co51)) (ok := (fun _ => True)) (by (with_reducible repeat (first | apply Kd.R_alloc | apply Kd.R_drewN | apply Kd.R_drew)); exact Kd.R_mono HO_53.out (fun _ hk => ⟨trivial, hk⟩)) hg (.inl rfl)); replace HO_337001 := ak (Kd.S_after (v := (.slice (some ⟨go47, 0, none⟩) x337002_3.length co51)) (v1 := (.slice (some ⟨go47, 0, none⟩) x337002_3.length co51)) (ok := (fun k_ => some k_ ≠ (.slice (some ad344) x53_3.length co41 : Value).ownBlock)) (sd HO_337001) hg (.inl rfl)); replace BK326 := ak (blk_grown (blkd BK326) hg (Kd.R_ne HO_337002.out BK326.out (by decide))); replace BK327 := ak (blk_grown (blkd BK327) hg (Kd.R_ne HO_337002.out BK327.out (by decide))); replace BK336 := ak (blk_grown (blkd BK336) hg (Kd.R_ne HO_337002.out BK336.out (by decide))); replace HO_337002 := ak (hp_); replace HB := ak ((by rw [hw]; exact below_set (HB.out) GB47.out : Below w.heap.size w w53)); clear hg hw hp_))
          (try simp only [← hl53_3])
          (first | go_roundg k3 | ((try rw [← add_plain go47 ((rd x53_3 x55_3) : Int).toNat]); go_roundg k3))
          case measure => have := HJ5.out; have := HK2.out; have := HK3.out; omega
          case rel => exact ⟨(x53_3), (wrap64 (x55_3 + 1)), (y346), (.slice (some ⟨go47, 0, none⟩) x337002_3.length co51), er, H', ⟨by have := HJ5.out; have := HK2.out; have := HK3.out; omega⟩, ⟨by (try simp only [hl53_3]); (with_reducible repeat (first | apply Kd.R_alloc | apply Kd.R_drewN | apply Kd.R_drew)); exact Kd.R_mono HO_53.out (fun _ hk => hk.2)⟩, ⟨by (try simp only [hl53_3]); (with_reducible repeat (first | apply Kd.S_alloc | apply Kd.S_drewN | apply Kd.S_drew)); exact HO_337001.out⟩, ⟨by (try simp only [hl53_3]); (with_reducible repeat (first | apply Kd.R_alloc | apply Kd.R_drewN | apply Kd.R_drew)); exact HO_337002.out⟩, ⟨by (try simp only [hl53_3]); (with_reducible repeat (first | refine blk_drewN ?_ _ | refine blk_drew ?_ | refine blk_alloc ?_ _)); exact BK326.out⟩, ⟨by (try simp only [hl53_3]); (with_reducible repeat (first | refine blk_drewN ?_ _ | refine blk_drew ?_ | refine blk_alloc ?_ _)); exact BK327.out⟩, ⟨by (try simp only [hl53_3]); (with_reducible repeat (first | refine blk_drewN ?_ _ | refine blk_drew ?_ | refine blk_alloc ?_ _)); exact BK336.out⟩, ⟨belowg3 HB GE326 GE327 GE336⟩⟩
         ·rw [if_neg c42] at H
          have c42b0 : decide (x55_3 < (t328.length : Int)) = false := decide_eq_false c42
          have c42b0s := c42b0
          (try simp only [hl53_3] at c42b0s)
          clear c42
          simp only [Option.some.injEq, Prod.mk.injEq] at H
          obtain ⟨rfl, rfl, rfl, rfl⟩ := H; have hnb54 := NB336_326.out; have hnc54 := NB326_336.out; have hnb55 := NB336_327.out; have hnc55 := NB327_336.out; obtain ⟨hcz56_0, hcz56_1, hcz56_2, hfz56_0, hfz56_1, hfz56_2⟩ := box3 BK336; have hnb57 := NB327_326.out; have hnc57 := NB326_327.out; obtain ⟨hcz58_0, hcz58_1, hcz58_2, hfz58_0, hfz58_1, hfz58_2⟩ := box3 BK327
          obtain ⟨Ao59, co59, eo59⟩ := Kd.S_slice HO_337001.out
          subst eo59
          obtain ⟨Ao60, co60, eo60⟩ := Kd.R_slice HO_337002.out
          subst eo60; go_wp2
          refine bodyPost_ret (results_ct rfl _ _ gb327 38 #[.int .i64 a0_0, .slice Ao59 x337001_2.length co59, .slice Ao60 x337002_3.length co60] (0, 0) _ rfl (by (with_reducible repeat (first | refine blk_drewN ?_ _ | refine blk_drew ?_ | refine blk_alloc ?_ _)); refine blk_put (cs := #[.int .i64 a0_0, .slice Ao59 x337001_2.length co59, .slice none 0 0]) ?_ 2 _ rfl; (with_reducible repeat (first | refine blk_drewN ?_ _ | refine blk_drew ?_ | refine blk_alloc ?_ _)); refine blk_put (cs := #[.int .i64 a0_0, .slice none 0 0, .slice none 0 0]) ?_ 1 _ rfl; (with_reducible repeat (first | refine blk_drewN ?_ _ | refine blk_drew ?_ | refine blk_alloc ?_ _)); refine blk_put (cs := #[.int .i64 0, .slice none 0 0, .slice none 0 0]) ?_ 0 _ rfl; (with_reducible repeat (first | refine blk_drewN ?_ _ | refine blk_drew ?_ | refine blk_alloc ?_ _)); exact BK327.out) Try.underlying38 rfl (by kernel_rfl)) rfl ?_
          exact ⟨_, _, er2, by (with_reducible repeat (first | apply Kd.S_alloc | apply Kd.S_drewN | apply Kd.S_drew)); exact Kd.S_mono (Kd.S_far (p := ⟨gb327, 2, none⟩) (Kd.S_far (p := ⟨gb327, 1, none⟩) (Kd.S_far (p := ⟨gb327, 0, none⟩) (Kd.S_types HO_337001.out BK327.out (by decide)) (fun _ hk => hk.2) (.int .i64 a0_0)) (fun _ hk => hk.2) (.slice Ao59 x337001_2.length co59)) (fun _ hk => hk.2) (.slice Ao60 x337002_3.length co60)) (fun _ hk => hk.1.2), by (with_reducible repeat (first | apply Kd.R_alloc | apply Kd.R_drewN | apply Kd.R_drew)); exact Kd.R_mono (Kd.R_far (p := ⟨gb327, 2, none⟩) (Kd.R_far (p := ⟨gb327, 1, none⟩) (Kd.R_far (p := ⟨gb327, 0, none⟩) (Kd.R_types HO_337002.out BK327.out (by decide)) (fun _ hk => hk.2) (.int .i64 a0_0)) (fun _ hk => hk.2) (.slice Ao59 x337001_2.length co59)) (fun _ hk => hk.2) (.slice Ao60 x337002_3.length co60)) (fun _ hk => trivial), belowg3 HB GE326 GE327 GE336⟩

/-- A state of type 123 at block g of W; what its slices lead to came in by w0. -/
def IsS123 (w0 W : World) (g : Nat) (f0 : List Int) (f1 : Int) (f2 : Int) : Prop := ∃ A0 c0, W.heap[g]? = some (.cells #[.slice A0 f0.length c0, .int .i64 f1, .int .u64 f2] 123 (0, 0)) ∧ w0.heap.size ≤ g ∧ Kd.C (Kd.int .u8) w0 A0 f0.length f0
theorem IsS123.grown {w0 W : World} {g : Nat} {f0 : List Int} {f1 : Int} {f2 : Int} {W1 : World} {row : Option Nat} (h : IsS123 w0 W g f0 f1 f2) (hw : W.grownBy W1 row) (hne : some g ≠ row) : IsS123 w0 W1 g f0 f1 f2 := by
 obtain ⟨A0, c0, hb, hg, hr0⟩ := h
 exact ⟨A0, c0, blk_grown hb hw hne, hg, hr0⟩
theorem IsS123.own_neN {w0 W : World} {g : Nat} {f0 : List Int} {f1 : Int} {f2 : Int} {α : Type} {d : Kd α} {e : Nat} {base : Nat} {ok : Nat → Prop} {v : Value} {xs : List α} (h : IsS123 w0 W g f0 f1 f2) (ho : Kd.N d e W base ok v xs) (ht : e ≠ 123) : some g ≠ v.ownBlock := by
 obtain ⟨A0, c0, hb, hg, hr0⟩ := h
 exact Kd.N_ne ho hb ht
theorem IsS123.fresh {w0 W : World} {g : Nat} {f0 : List Int} {f1 : Int} {f2 : Int} (h : IsS123 w0 W g f0 f1 f2) : ∀ k, W.heap.size ≤ k → k ≠ g := by
 obtain ⟨A0, c0, hb, hg, hr0⟩ := h
 exact Kd.freshB hb
theorem IsS123.kept {w0 W : World} {g : Nat} {f0 : List Int} {f1 : Int} {f2 : Int} {W1 : World} {S : Nat → Prop} (h : IsS123 w0 W g f0 f1 f2) (hk : Kept W W1 S) (hne : ¬ S g) : IsS123 w0 W1 g f0 f1 f2 := by
 obtain ⟨A0, c0, hb, hg, hr0⟩ := h
 exact ⟨A0, c0, blk_kept hb hk hne, hg, hr0⟩
theorem IsS123.below {w0 W : World} {g : Nat} {f0 : List Int} {f1 : Int} {f2 : Int} {W1 : World} (h : IsS123 w0 W g f0 f1 f2) (hw : Below W.heap.size W W1) : IsS123 w0 W1 g f0 f1 f2 := h.grown (grown_of_below hw none) (by simp)
theorem IsS123.alloc {w0 W : World} {g : Nat} {f0 : List Int} {f1 : Int} {f2 : Int} (h : IsS123 w0 W g f0 f1 f2) (o : Obj) : IsS123 w0 (W.alloc o) g f0 f1 f2 := h.below (below_alloc (Below.refl _ _) o)
theorem IsS123.drewN {w0 W : World} {g : Nat} {f0 : List Int} {f1 : Int} {f2 : Int} (h : IsS123 w0 W g f0 f1 f2) (m : Nat) : IsS123 w0 (W.drewN m) g f0 f1 f2 := h
theorem IsS123.drew {w0 W : World} {g : Nat} {f0 : List Int} {f1 : Int} {f2 : Int} (h : IsS123 w0 W g f0 f1 f2) : IsS123 w0 W.drew g f0 f1 f2 := h
theorem IsS123.at_ {w0 W : World} {g : Nat} {f0 : List Int} {f1 : Int} {f2 : Int} {w' : World} {m : Nat} (hq : W.drewN m = w') (h : IsS123 w0 W g f0 f1 f2) : IsS123 w0 w' g f0 f1 f2 := by subst hq; exact IsS123.drewN h m
theorem IsS123.apart {w0 W : World} {g : Nat} {f0 : List Int} {f1 : Int} {f2 : Int} {α : Type} {d : Kd α} {e : Nat} {base : Nat} {ok : Nat → Prop} {v : Value} {xs : List α} (h : IsS123 w0 W g f0 f1 f2) (ho : d.R e W base ok v xs) (ht : ∀ q, q ∈ e :: d.E → q ≠ 123) : d.R e W base (fun k => ok k ∧ k ≠ g) v xs := by
 obtain ⟨A0, c0, hb, hg, hr0⟩ := h
 exact Kd.R_types ho hb ht
theorem IsS123.own_ne {w0 W : World} {g : Nat} {f0 : List Int} {f1 : Int} {f2 : Int} {α : Type} {d : Kd α} {e : Nat} {base : Nat} {ok : Nat → Prop} {v : Value} {xs : List α} (h : IsS123 w0 W g f0 f1 f2) (ho : d.R e W base ok v xs) (ht : e ≠ 123) : some g ≠ v.ownBlock := by
 obtain ⟨A0, c0, hb, hg, hr0⟩ := h
 exact Kd.R_ne ho hb ht
theorem IsS123.apartQ {w0 W : World} {g : Nat} {f0 : List Int} {f1 : Int} {f2 : Int} {α : Type} {d : Kd α} {e : Nat} {base : Nat} {ok : Nat → Prop} {v : Value} {xs : List α} (h : IsS123 w0 W g f0 f1 f2) (ho : d.Q e W base ok v xs) (ht : ∀ q, q ∈ e :: d.E → q ≠ 123) : d.Q e W base (fun k => ok k ∧ k ≠ g) v xs := by
 obtain ⟨A0, c0, hb, hg, hr0⟩ := h
 exact Kd.Q_types ho hb ht
theorem IsS123.own_neQ {w0 W : World} {g : Nat} {f0 : List Int} {f1 : Int} {f2 : Int} {α : Type} {d : Kd α} {e : Nat} {base : Nat} {ok : Nat → Prop} {v : Value} {xs : List α} (h : IsS123 w0 W g f0 f1 f2) (ho : d.Q e W base ok v xs) (ht : e ≠ 123) : some g ≠ v.ownBlock := by
 obtain ⟨A0, c0, hb, hg, hr0⟩ := h
 exact Kd.Q_ne ho hb ht
theorem IsS123.apartS {w0 W : World} {g : Nat} {f0 : List Int} {f1 : Int} {f2 : Int} {α : Type} {d : Kd α} {e : Nat} {base : Nat} {ok : Nat → Prop} {v : Value} {xs : List α} (h : IsS123 w0 W g f0 f1 f2) (ho : d.S e W base ok v xs) (ht : ∀ q, q ∈ e :: d.E → q ≠ 123) : d.S e W base (fun k => ok k ∧ k ≠ g) v xs := by
 obtain ⟨A0, c0, hb, hg, hr0⟩ := h
 exact Kd.S_types ho hb ht
theorem IsS123.own_neS {w0 W : World} {g : Nat} {f0 : List Int} {f1 : Int} {f2 : Int} {α : Type} {d : Kd α} {e : Nat} {base : Nat} {ok : Nat → Prop} {v : Value} {xs : List α} (h : IsS123 w0 W g f0 f1 f2) (ho : d.S e W base ok v xs) (ht : e ≠ 123) : some g ≠ v.ownBlock := by
 obtain ⟨A0, c0, hb, hg, hr0⟩ := h
 exact Kd.S_ne ho hb ht
theorem IsS123.of_blk {w0 W : World} {g : Nat} {f0 : List Int} {f1 : Int} {f2 : Int} {A0 : Option Addr} {c0 : Nat} (hb : W.heap[g]? = some (.cells #[.slice A0 f0.length c0, .int .i64 f1, .int .u64 f2] 123 (0, 0))) (hg : w0.heap.size ≤ g) (hr0 : Kd.C (Kd.int .u8) w0 A0 f0.length f0) : IsS123 w0 W g f0 f1 f2 := ⟨A0, c0, hb, hg, hr0⟩
theorem IsS123.lt {w0 W : World} {g : Nat} {f0 : List Int} {f1 : Int} {f2 : Int} (h : IsS123 w0 W g f0 f1 f2) : g < W.heap.size := by
 obtain ⟨A0, c0, hb, hg, hr0⟩ := h
 exact blk_lt hb
theorem IsS123.ge {w0 W : World} {g : Nat} {f0 : List Int} {f1 : Int} {f2 : Int} (h : IsS123 w0 W g f0 f1 f2) : w0.heap.size ≤ g := by
 obtain ⟨A0, c0, hb, hg, hr0⟩ := h
 exact hg
theorem IsS123.ne_blk {w0 W : World} {g : Nat} {f0 : List Int} {f1 : Int} {f2 : Int} {a : Nat} {cs : Array Value} {t : TypeId} {fr : Nat × Nat} (h : IsS123 w0 W g f0 f1 f2) (hb2 : W.heap[a]? = some (.cells cs t fr)) (ht : t ≠ 123) : g ≠ a := by
 obtain ⟨A0, c0, hb, hg, hr0⟩ := h
 rintro rfl
 rw [hb] at hb2
 injection hb2 with hb2
 injection hb2 with _ ht2
 exact ht ht2.symm
theorem IsS123.far {w0 W : World} {g : Nat} {f0 : List Int} {f1 : Int} {f2 : Int} {p : Addr} (h : IsS123 w0 W g f0 f1 f2) (hne : g ≠ p.block) (u : Value) : IsS123 w0 (W.setCell p u) g f0 f1 f2 := by
 obtain ⟨A0, c0, hb, hg, hr0⟩ := h
 exact ⟨A0, c0, blk_far hb hne u, hg, hr0⟩
theorem cellS123_0 {W : World} {g : Nat} {A0 : Option Addr} {c0 : Nat} {f0 : List Int} {f1 : Int} {f2 : Int} (h : W.heap[g]? = some (.cells #[.slice A0 f0.length c0, .int .i64 f1, .int .u64 f2] 123 (0, 0))) : W.cell? ⟨g, 0, none⟩ = some (.slice A0 f0.length c0) := (blk_cell h 0).trans rfl
theorem cellS123_1 {W : World} {g : Nat} {A0 : Option Addr} {c0 : Nat} {f0 : List Int} {f1 : Int} {f2 : Int} (h : W.heap[g]? = some (.cells #[.slice A0 f0.length c0, .int .i64 f1, .int .u64 f2] 123 (0, 0))) : W.cell? ⟨g, 1, none⟩ = some (.int .i64 f1) := (blk_cell h 1).trans rfl
theorem IsS123.set_1 {w0 W : World} {g : Nat} {f0 : List Int} {f1 : Int} {f2 : Int} (h : IsS123 w0 W g f0 f1 f2) (x : Int) : IsS123 w0 (W.setCell ⟨g, 1, none⟩ (.int .i64 x)) g f0 x f2 := by
 obtain ⟨A0, c0, hb, hg, hr0⟩ := h
 exact ⟨A0, c0, by simpa using blk_set hb 1 (.int .i64 x), hg, hr0⟩
theorem cellS123_2 {W : World} {g : Nat} {A0 : Option Addr} {c0 : Nat} {f0 : List Int} {f1 : Int} {f2 : Int} (h : W.heap[g]? = some (.cells #[.slice A0 f0.length c0, .int .i64 f1, .int .u64 f2] 123 (0, 0))) : W.cell? ⟨g, 2, none⟩ = some (.int .u64 f2) := (blk_cell h 2).trans rfl
theorem IsS123.set_2 {w0 W : World} {g : Nat} {f0 : List Int} {f1 : Int} {f2 : Int} (h : IsS123 w0 W g f0 f1 f2) (x : Int) : IsS123 w0 (W.setCell ⟨g, 2, none⟩ (.int .u64 x)) g f0 f1 x := by
 obtain ⟨A0, c0, hb, hg, hr0⟩ := h
 exact ⟨A0, c0, by simpa using blk_set hb 2 (.int .u64 x), hg, hr0⟩
theorem IsS123.new (w0 W : World) (A0 : Option Addr) (c0 : Nat) (f0 : List Int) (f1 : Int) (f2 : Int) (hB : Below w0.heap.size w0 W) (hr0 : Kd.C (Kd.int .u8) w0 A0 f0.length f0) : IsS123 w0 (W.alloc (.cells #[.slice A0 f0.length c0, .int .i64 f1, .int .u64 f2] 123)) W.heap.size f0 f1 f2 := ⟨A0, c0, by simpa using heap_alloc_new W _, hB.size, hr0⟩

/-! ### spec_l1Cur_next: function 146 -/
def spec_l1Cur_next.f (s0_0 : List Int) (s0_1 : Int) (s0_2 : Int) : Option (Int × Int × Int) := if s0_1 < (s0_0.length : Int) then (if 0 ≤ s0_1 then (if (wrap64 (s0_1 + 1)) ≤ (s0_0.length : Int) then (some (wrap64 (rd s0_0 s0_1), wrap64 (s0_1 + 1), IntKind.u64.wrap ((IntKind.u64.wrap ((IntKind.u64.wrap (s0_2 * 6364136223846793005)) + (IntKind.u64.wrap (wrap64 (rd s0_0 s0_1))))) + 1442695040888963407))) else (some (wrap64 (Go.bits .and .u64 ((IntKind.u64.wrap ((IntKind.u64.wrap ((IntKind.u64.wrap (s0_2 * 6364136223846793005)) + (IntKind.u64.wrap (wrap64 (rd s0_0 s0_1))))) + 1442695040888963407)) / 1099511627776) 255), wrap64 (s0_1 + 1), IntKind.u64.wrap ((IntKind.u64.wrap ((IntKind.u64.wrap (s0_2 * 6364136223846793005)) + (IntKind.u64.wrap (wrap64 (rd s0_0 s0_1))))) + 1442695040888963407)))) else (none)) else (if (wrap64 (s0_1 + 1)) ≤ (s0_0.length : Int) then (some (0, wrap64 (s0_1 + 1), IntKind.u64.wrap ((IntKind.u64.wrap ((IntKind.u64.wrap (s0_2 * 6364136223846793005)))) + 1442695040888963407))) else (some (wrap64 (Go.bits .and .u64 ((IntKind.u64.wrap ((IntKind.u64.wrap ((IntKind.u64.wrap (s0_2 * 6364136223846793005)))) + 1442695040888963407)) / 1099511627776) 255), wrap64 (s0_1 + 1), IntKind.u64.wrap ((IntKind.u64.wrap ((IntKind.u64.wrap (s0_2 * 6364136223846793005)))) + 1442695040888963407))))
set_option maxHeartbeats 8000000 in
set_option maxRecDepth 100000 in
theorem spec_l1Cur_next.calls (g : Nat) (s0_0 : List Int) (s0_1 : Int) (s0_2 : Int) (r1 : Int) (r2 : Int) (r3 : Int) (w0 w : World) (hI : IsS123 w0 w g s0_0 s0_1 s0_2) (hB : Below w0.heap.size w0 w) (h : spec_l1Cur_next.f s0_0 s0_1 s0_2 = some (r1, r2, r3)) :
  Calls Try.prog 146 #[.pointer (some ⟨g, 0, none⟩)] w fun e w' => e = .returned (.int .i64 r1) ∧ IsS123 w0 w' g s0_0 r2 r3 ∧ Below w0.heap.size w0 w' ∧ KeepBut w w' g none := by
 have HI0 := Aside0.mk hI
 have HK := Aside0.mk (KeepBut.refl w g none)
 have HL := Aside0.mk hB.size
 clear hI
 have HW0 := Aside0.mk hB.size
 have HB := Aside0.mk hB; clear hB
 have H : (if s0_1 < (s0_0.length : Int) then (if 0 ≤ s0_1 then (if (wrap64 (s0_1 + 1)) ≤ (s0_0.length : Int) then (some (wrap64 (rd s0_0 s0_1), wrap64 (s0_1 + 1), IntKind.u64.wrap ((IntKind.u64.wrap ((IntKind.u64.wrap (s0_2 * 6364136223846793005)) + (IntKind.u64.wrap (wrap64 (rd s0_0 s0_1))))) + 1442695040888963407))) else (some (wrap64 (Go.bits .and .u64 ((IntKind.u64.wrap ((IntKind.u64.wrap ((IntKind.u64.wrap (s0_2 * 6364136223846793005)) + (IntKind.u64.wrap (wrap64 (rd s0_0 s0_1))))) + 1442695040888963407)) / 1099511627776) 255), wrap64 (s0_1 + 1), IntKind.u64.wrap ((IntKind.u64.wrap ((IntKind.u64.wrap (s0_2 * 6364136223846793005)) + (IntKind.u64.wrap (wrap64 (rd s0_0 s0_1))))) + 1442695040888963407)))) else (none)) else (if (wrap64 (s0_1 + 1)) ≤ (s0_0.length : Int) then (some (0, wrap64 (s0_1 + 1), IntKind.u64.wrap ((IntKind.u64.wrap ((IntKind.u64.wrap (s0_2 * 6364136223846793005)))) + 1442695040888963407))) else (some (wrap64 (Go.bits .and .u64 ((IntKind.u64.wrap ((IntKind.u64.wrap ((IntKind.u64.wrap (s0_2 * 6364136223846793005)))) + 1442695040888963407)) / 1099511627776) 255), wrap64 (s0_1 + 1), IntKind.u64.wrap ((IntKind.u64.wrap ((IntKind.u64.wrap (s0_2 * 6364136223846793005)))) + 1442695040888963407))))) = some (r1, r2, r3) := h
 clear h
 by_cases c2 : s0_1 < (s0_0.length : Int)
 ·rw [if_pos c2] at H
  have c2b0 : decide (s0_1 < (s0_0.length : Int)) = true := decide_eq_true c2
  clear c2; replace H := ifS H; obtain ⟨c3, H⟩ := H; have c3b0 := decide_eq_true c3; clear c3
  by_cases c4 : (wrap64 (s0_1 + 1)) ≤ (s0_0.length : Int)
  ·rw [if_pos c4] at H
   have c4b0 : decide ((wrap64 (s0_1 + 1)) ≤ (s0_0.length : Int)) = true := decide_eq_true c4
   clear c4
   simp only [Option.some.injEq, Prod.mk.injEq] at H
   obtain ⟨rfl, rfl, rfl⟩ := H
   obtain ⟨ASz5_0, cSz5_0, HGz5, hgz5, HSz5_0⟩ := HI0.out
   have hcz5_0 := cellS123_0 HGz5
   have hcz5_1 := cellS123_1 HGz5
   have hcz5_2 := cellS123_2 HGz5
   have hfz5_1 := blk_frozen HGz5 1
   have hfz5_2 := blk_frozen HGz5 2
   clear HGz5 hgz5
   have p347 : 0 ≤ (s0_1 : Int) := da
   have q347 : s0_1 < (s0_0.length : Int) := da
   obtain ⟨ad347, e347, hx347_0⟩ := Kd.at_int HSz5_0 s0_1 p347 q347
   cases e347
   replace hx347_0 := pw_cell_below HB.out hx347_0
   replace p347 := eq_true p347; replace q347 := eq_true q347
   go_enter Try.func146, Try.ntmps146
   go_wp2
   repeat (go_quiet (fail); try go_wp2)
   go_ret
   exact ⟨er2, by repeat (first | (with_reducible first | exact HI0.out | apply IsS123.alloc | apply IsS123.drewN | apply IsS123.drew | apply IsS123.set_1 | apply IsS123.set_2) | exact HI0.out), by repeat (first | (with_reducible first | exact HB.out | apply below_alloc | apply pw_below_drewN | apply below_drew1 | refine below_set ?_ (IsS123.ge HI0.out)) | exact HB.out), by repeat (first | (with_reducible first | exact HK.out | apply KeepBut.set_ | apply keep_drewN | apply keep_drew | apply keep_alloc) | exact HK.out)⟩
  ·rw [if_neg c4] at H
   have c4b0 : decide ((wrap64 (s0_1 + 1)) ≤ (s0_0.length : Int)) = false := decide_eq_false c4
   clear c4
   simp only [Option.some.injEq, Prod.mk.injEq] at H
   obtain ⟨rfl, rfl, rfl⟩ := H
   obtain ⟨ASz6_0, cSz6_0, HGz6, hgz6, HSz6_0⟩ := HI0.out
   have hcz6_0 := cellS123_0 HGz6
   have hcz6_1 := cellS123_1 HGz6
   have hcz6_2 := cellS123_2 HGz6
   have hfz6_1 := blk_frozen HGz6 1
   have hfz6_2 := blk_frozen HGz6 2
   clear HGz6 hgz6
   have p347 : 0 ≤ (s0_1 : Int) := da
   have q347 : s0_1 < (s0_0.length : Int) := da
   obtain ⟨ad347, e347, hx347_0⟩ := Kd.at_int HSz6_0 s0_1 p347 q347
   cases e347
   replace hx347_0 := pw_cell_below HB.out hx347_0
   replace p347 := eq_true p347; replace q347 := eq_true q347
   go_enter Try.func146, Try.ntmps146
   go_wp2
   repeat (go_quiet (fail); try go_wp2)
   go_ret
   exact ⟨er2, by repeat (first | (with_reducible first | exact HI0.out | apply IsS123.alloc | apply IsS123.drewN | apply IsS123.drew | apply IsS123.set_1 | apply IsS123.set_2) | exact HI0.out), by repeat (first | (with_reducible first | exact HB.out | apply below_alloc | apply pw_below_drewN | apply below_drew1 | refine below_set ?_ (IsS123.ge HI0.out)) | exact HB.out), by repeat (first | (with_reducible first | exact HK.out | apply KeepBut.set_ | apply keep_drewN | apply keep_drew | apply keep_alloc) | exact HK.out)⟩
 ·rw [if_neg c2] at H
  have c2b0 : decide (s0_1 < (s0_0.length : Int)) = false := decide_eq_false c2
  clear c2
  by_cases c7 : (wrap64 (s0_1 + 1)) ≤ (s0_0.length : Int)
  ·rw [if_pos c7] at H
   have c7b0 : decide ((wrap64 (s0_1 + 1)) ≤ (s0_0.length : Int)) = true := decide_eq_true c7
   clear c7
   simp only [Option.some.injEq, Prod.mk.injEq] at H
   obtain ⟨rfl, rfl, rfl⟩ := H
   obtain ⟨ASz8_0, cSz8_0, HGz8, hgz8, HSz8_0⟩ := HI0.out
   have hcz8_0 := cellS123_0 HGz8
   have hcz8_1 := cellS123_1 HGz8
   have hcz8_2 := cellS123_2 HGz8
   have hfz8_1 := blk_frozen HGz8 1
   have hfz8_2 := blk_frozen HGz8 2
   clear HGz8 hgz8
   go_enter Try.func146, Try.ntmps146
   go_wp2
   repeat (go_quiet (fail); try go_wp2)
   go_ret
   exact ⟨er2, by repeat (first | (with_reducible first | exact HI0.out | apply IsS123.alloc | apply IsS123.drewN | apply IsS123.drew | apply IsS123.set_1 | apply IsS123.set_2) | exact HI0.out), by repeat (first | (with_reducible first | exact HB.out | apply below_alloc | apply pw_below_drewN | apply below_drew1 | refine below_set ?_ (IsS123.ge HI0.out)) | exact HB.out), by repeat (first | (with_reducible first | exact HK.out | apply KeepBut.set_ | apply keep_drewN | apply keep_drew | apply keep_alloc) | exact HK.out)⟩
  ·rw [if_neg c7] at H
   have c7b0 : decide ((wrap64 (s0_1 + 1)) ≤ (s0_0.length : Int)) = false := decide_eq_false c7
   clear c7
   simp only [Option.some.injEq, Prod.mk.injEq] at H
   obtain ⟨rfl, rfl, rfl⟩ := H
   obtain ⟨ASz9_0, cSz9_0, HGz9, hgz9, HSz9_0⟩ := HI0.out
   have hcz9_0 := cellS123_0 HGz9
   have hcz9_1 := cellS123_1 HGz9
   have hcz9_2 := cellS123_2 HGz9
   have hfz9_1 := blk_frozen HGz9 1
   have hfz9_2 := blk_frozen HGz9 2
   clear HGz9 hgz9
   go_enter Try.func146, Try.ntmps146
   go_wp2
   repeat (go_quiet (fail); try go_wp2)
   go_ret
   exact ⟨er2, by repeat (first | (with_reducible first | exact HI0.out | apply IsS123.alloc | apply IsS123.drewN | apply IsS123.drew | apply IsS123.set_1 | apply IsS123.set_2) | exact HI0.out), by repeat (first | (with_reducible first | exact HB.out | apply below_alloc | apply pw_below_drewN | apply below_drew1 | refine below_set ?_ (IsS123.ge HI0.out)) | exact HB.out), by repeat (first | (with_reducible first | exact HK.out | apply KeepBut.set_ | apply keep_drewN | apply keep_drew | apply keep_alloc) | exact HK.out)⟩

/-! ### spec_l1Cur_pick: function 113 -/
def spec_l1Cur_pick.f (s0_0 : List Int) (s0_1 : Int) (s0_2 : Int) (a1 : Int) : Option (Int × Int × Int) := if a1 ≤ 1 then (some (0, s0_1, s0_2)) else ((spec_l1Cur_next.f s0_0 s0_1 s0_2).bind fun bt348 => (if a1 > 200 then ((spec_l1Cur_next.f s0_0 bt348.2.1 bt348.2.2).bind fun bt351 => (if a1 = 0 then (none) else (some (Int.tmod (wrap64 ((wrap64 (bt348.1 * 256)) + bt351.1)) a1, bt351.2.1, bt351.2.2)))) else (if a1 = 0 then (none) else (some (Int.tmod bt348.1 a1, bt348.2.1, bt348.2.2)))))
set_option maxHeartbeats 8000000 in
set_option maxRecDepth 100000 in
theorem spec_l1Cur_pick.calls (g : Nat) (s0_0 : List Int) (s0_1 : Int) (s0_2 : Int) (a1 : Int) (r1 : Int) (r2 : Int) (r3 : Int) (w0 w : World) (hI : IsS123 w0 w g s0_0 s0_1 s0_2) (hB : Below w0.heap.size w0 w) (h : spec_l1Cur_pick.f s0_0 s0_1 s0_2 a1 = some (r1, r2, r3)) :
  Calls Try.prog 113 #[.pointer (some ⟨g, 0, none⟩), .int .i64 a1] w fun e w' => e = .returned (.int .i64 r1) ∧ IsS123 w0 w' g s0_0 r2 r3 ∧ Below w0.heap.size w0 w' ∧ KeepBut w w' g none := by
 have HI0 := Aside0.mk hI
 have HK := Aside0.mk (KeepBut.refl w g none)
 have HL := Aside0.mk hB.size
 clear hI
 have HW0 := Aside0.mk hB.size
 have HB := Aside0.mk hB; clear hB
 have H : (if a1 ≤ 1 then (some (0, s0_1, s0_2)) else ((spec_l1Cur_next.f s0_0 s0_1 s0_2).bind fun bt348 => (if a1 > 200 then ((spec_l1Cur_next.f s0_0 bt348.2.1 bt348.2.2).bind fun bt351 => (if a1 = 0 then (none) else (some (Int.tmod (wrap64 ((wrap64 (bt348.1 * 256)) + bt351.1)) a1, bt351.2.1, bt351.2.2)))) else (if a1 = 0 then (none) else (some (Int.tmod bt348.1 a1, bt348.2.1, bt348.2.2)))))) = some (r1, r2, r3) := h
 clear h
 by_cases c3 : a1 ≤ 1
 ·rw [if_pos c3] at H
  have c3b0 : decide (a1 ≤ 1) = true := decide_eq_true c3
  clear c3
  simp only [Option.some.injEq, Prod.mk.injEq] at H
  obtain ⟨rfl, rfl, rfl⟩ := H
  go_enter Try.func113, Try.ntmps113
  go_wp2
  go_ret
  exact ⟨er2, by repeat (first | (with_reducible first | exact HI0.out | apply IsS123.alloc | apply IsS123.drewN | apply IsS123.drew | apply IsS123.set_1 | apply IsS123.set_2) | exact HI0.out), by repeat (first | (with_reducible first | exact HB.out | apply below_alloc | apply pw_below_drewN | apply below_drew1 | refine below_set ?_ (IsS123.ge HI0.out)) | exact HB.out), by repeat (first | (with_reducible first | exact HK.out | apply KeepBut.set_ | apply keep_drewN | apply keep_drew | apply keep_alloc) | exact HK.out)⟩
 ·rw [if_neg c3] at H
  have c3b0 : decide (a1 ≤ 1) = false := decide_eq_false c3
  clear c3; replace H := bS H; obtain ⟨⟨t348, t349, t350⟩, A4, H⟩ := H
  replace H : (if a1 > 200 then ((spec_l1Cur_next.f s0_0 t349 t350).bind fun bt351 => (if a1 = 0 then (none) else (some (Int.tmod (wrap64 ((wrap64 (t348 * 256)) + bt351.1)) a1, bt351.2.1, bt351.2.2)))) else (if a1 = 0 then (none) else (some (Int.tmod t348 a1, t349, t350)))) = some (r1, r2, r3) := H
  by_cases c5 : a1 > 200
  ·rw [if_pos c5] at H
   have c5b0 : decide (200 < a1) = true := decide_eq_true c5
   clear c5; replace H := bS H; obtain ⟨⟨t351, t352, t353⟩, A6, H⟩ := H
   replace H : (if a1 = 0 then (none) else (some (Int.tmod (wrap64 ((wrap64 (t348 * 256)) + t351)) a1, t352, t353))) = some (r1, r2, r3) := H
   by_cases c7 : a1 = 0
   ·rw [if_pos c7] at H
    exact absurd H (by simp)
   ·rw [if_neg c7] at H
    have c7b0 : (a1 == 0) = false := beq_eq_false_iff_ne.mpr c7
    have c7b1 : (a1 != 0) = true := bne_iff_ne.mpr c7
    simp only [Option.some.injEq, Prod.mk.injEq] at H
    obtain ⟨rfl, rfl, rfl⟩ := H
    go_enter Try.func113, Try.ntmps113
    go_wp2_with (first | ((with_reducible refine gate_callee (f := 146) rfl ?_); refine goesLa (some 9) rfl Try.func146 #[.pointer (some ⟨g, 0, none⟩)] rfl ?_; (with_reducible refine (spec_l1Cur_next.calls g s0_0 s0_1 s0_2 t348 t349 t350 w0 _ ?side1 ?side2 A4.out).mono ?_); (case side1 => repeat (first | (with_reducible first | exact HI0.out | apply IsS123.alloc | apply IsS123.drewN | apply IsS123.drew | apply IsS123.set_1 | apply IsS123.set_2) | exact HI0.out)); (case side2 => repeat (first | (with_reducible first | exact HB.out | apply below_alloc | apply pw_below_drewN | apply below_drew1 | refine below_set ?_ (IsS123.ge HI0.out)) | exact HB.out)); rintro e w8 ⟨rfl, hi, hb, hk⟩; refine ⟨_, rfl, ?_⟩; replace HK := ak (KeepBut.trans (by repeat (first | (with_reducible first | exact HK.out | apply KeepBut.set_ | apply keep_drewN | apply keep_drew | apply keep_alloc) | exact HK.out)) hk (.inl rfl)); replace HB := ak (hb); replace HI0 := ak (hi); (try clear hb); (try clear hk); (try clear hi)) | ((with_reducible refine gate_callee (f := 146) rfl ?_); refine goesLa (some 15) rfl Try.func146 #[.pointer (some ⟨g, 0, none⟩)] rfl ?_; (with_reducible refine (spec_l1Cur_next.calls g s0_0 t349 t350 t351 t352 t353 w0 _ ?side1 ?side2 A6.out).mono ?_); (case side1 => repeat (first | (with_reducible first | exact HI0.out | apply IsS123.alloc | apply IsS123.drewN | apply IsS123.drew | apply IsS123.set_1 | apply IsS123.set_2) | exact HI0.out)); (case side2 => repeat (first | (with_reducible first | exact HB.out | apply below_alloc | apply pw_below_drewN | apply below_drew1 | refine below_set ?_ (IsS123.ge HI0.out)) | exact HB.out)); rintro e w9 ⟨rfl, hi, hb, hk⟩; refine ⟨_, rfl, ?_⟩; replace HK := ak (KeepBut.trans (by repeat (first | (with_reducible first | exact HK.out | apply KeepBut.set_ | apply keep_drewN | apply keep_drew | apply keep_alloc) | exact HK.out)) hk (.inl rfl)); replace HB := ak (hb); replace HI0 := ak (hi); (try clear hb); (try clear hk); (try clear hi)))
    go_ret
    exact ⟨er2, by repeat (first | (with_reducible first | exact HI0.out | apply IsS123.alloc | apply IsS123.drewN | apply IsS123.drew | apply IsS123.set_1 | apply IsS123.set_2) | exact HI0.out), by repeat (first | (with_reducible first | exact HB.out | apply below_alloc | apply pw_below_drewN | apply below_drew1 | refine below_set ?_ (IsS123.ge HI0.out)) | exact HB.out), by repeat (first | (with_reducible first | exact HK.out | apply KeepBut.set_ | apply keep_drewN | apply keep_drew | apply keep_alloc) | exact HK.out)⟩
  ·rw [if_neg c5] at H
   have c5b0 : decide (200 < a1) = false := decide_eq_false c5
   clear c5
   by_cases c10 : a1 = 0
   ·rw [if_pos c10] at H
    exact absurd H (by simp)
   ·rw [if_neg c10] at H
    have c10b0 : (a1 == 0) = false := beq_eq_false_iff_ne.mpr c10
    have c10b1 : (a1 != 0) = true := bne_iff_ne.mpr c10
    simp only [Option.some.injEq, Prod.mk.injEq] at H
    obtain ⟨rfl, rfl, rfl⟩ := H
    go_enter Try.func113, Try.ntmps113
    go_wp2_with (first | ((with_reducible refine gate_callee (f := 146) rfl ?_); refine goesLa (some 9) rfl Try.func146 #[.pointer (some ⟨g, 0, none⟩)] rfl ?_; (with_reducible refine (spec_l1Cur_next.calls g s0_0 s0_1 s0_2 t348 t349 t350 w0 _ ?side1 ?side2 A4.out).mono ?_); (case side1 => repeat (first | (with_reducible first | exact HI0.out | apply IsS123.alloc | apply IsS123.drewN | apply IsS123.drew | apply IsS123.set_1 | apply IsS123.set_2) | exact HI0.out)); (case side2 => repeat (first | (with_reducible first | exact HB.out | apply below_alloc | apply pw_below_drewN | apply below_drew1 | refine below_set ?_ (IsS123.ge HI0.out)) | exact HB.out)); rintro e w11 ⟨rfl, hi, hb, hk⟩; refine ⟨_, rfl, ?_⟩; replace HK := ak (KeepBut.trans (by repeat (first | (with_reducible first | exact HK.out | apply KeepBut.set_ | apply keep_drewN | apply keep_drew | apply keep_alloc) | exact HK.out)) hk (.inl rfl)); replace HB := ak (hb); replace HI0 := ak (hi); (try clear hb); (try clear hk); (try clear hi)))
    go_ret
    exact ⟨er2, by repeat (first | (with_reducible first | exact HI0.out | apply IsS123.alloc | apply IsS123.drewN | apply IsS123.drew | apply IsS123.set_1 | apply IsS123.set_2) | exact HI0.out), by repeat (first | (with_reducible first | exact HB.out | apply below_alloc | apply pw_below_drewN | apply below_drew1 | refine below_set ?_ (IsS123.ge HI0.out)) | exact HB.out), by repeat (first | (with_reducible first | exact HK.out | apply KeepBut.set_ | apply keep_drewN | apply keep_drew | apply keep_alloc) | exact HK.out)⟩

/-! ### spec_l1Cur_one: function 131 -/
def spec_l1Cur_one.f (s0_0 : List Int) (s0_1 : Int) (s0_2 : Int) (a1 : Int) : Option (Bool × Int × Int) := (spec_l1Cur_pick.f s0_0 s0_1 s0_2 a1).bind fun bt354 => (some ((bt354.1 == 0), bt354.2.1, bt354.2.2))
set_option maxHeartbeats 8000000 in
set_option maxRecDepth 100000 in
theorem spec_l1Cur_one.calls (g : Nat) (s0_0 : List Int) (s0_1 : Int) (s0_2 : Int) (a1 : Int) (r1 : Bool) (r2 : Int) (r3 : Int) (w0 w : World) (hI : IsS123 w0 w g s0_0 s0_1 s0_2) (hB : Below w0.heap.size w0 w) (h : spec_l1Cur_one.f s0_0 s0_1 s0_2 a1 = some (r1, r2, r3)) :
  Calls Try.prog 131 #[.pointer (some ⟨g, 0, none⟩), .int .i64 a1] w fun e w' => e = .returned (.bool r1) ∧ IsS123 w0 w' g s0_0 r2 r3 ∧ Below w0.heap.size w0 w' ∧ KeepBut w w' g none := by
 have HI0 := Aside0.mk hI
 have HK := Aside0.mk (KeepBut.refl w g none)
 have HL := Aside0.mk hB.size
 clear hI
 have HW0 := Aside0.mk hB.size
 have HB := Aside0.mk hB; clear hB
 have H : ((spec_l1Cur_pick.f s0_0 s0_1 s0_2 a1).bind fun bt354 => (some ((bt354.1 == 0), bt354.2.1, bt354.2.2))) = some (r1, r2, r3) := h
 clear h; replace H := bS H; obtain ⟨⟨t354, t355, t356⟩, A3, H⟩ := H
 replace H : (some ((t354 == 0), t355, t356)) = some (r1, r2, r3) := H
 simp only [Option.some.injEq, Prod.mk.injEq] at H
 obtain ⟨rfl, rfl, rfl⟩ := H
 go_enter Try.func131, Try.ntmps131
 go_wp2_with (first | ((with_reducible refine gate_callee (f := 113) rfl ?_); refine goesLa (some 7) rfl Try.func113 #[.pointer (some ⟨g, 0, none⟩), .int .i64 a1] rfl ?_; (with_reducible refine (spec_l1Cur_pick.calls g s0_0 s0_1 s0_2 a1 t354 t355 t356 w0 _ ?side1 ?side2 A3.out).mono ?_); (case side1 => repeat (first | (with_reducible first | exact HI0.out | apply IsS123.alloc | apply IsS123.drewN | apply IsS123.drew | apply IsS123.set_1 | apply IsS123.set_2) | exact HI0.out)); (case side2 => repeat (first | (with_reducible first | exact HB.out | apply below_alloc | apply pw_below_drewN | apply below_drew1 | refine below_set ?_ (IsS123.ge HI0.out)) | exact HB.out)); rintro e w4 ⟨rfl, hi, hb, hk⟩; refine ⟨_, rfl, ?_⟩; replace HK := ak (KeepBut.trans (by repeat (first | (with_reducible first | exact HK.out | apply KeepBut.set_ | apply keep_drewN | apply keep_drew | apply keep_alloc) | exact HK.out)) hk (.inl rfl)); replace HB := ak (hb); replace HI0 := ak (hi); (try clear hb); (try clear hk); (try clear hi)))
 go_ret
 exact ⟨er2, by repeat (first | (with_reducible first | exact HI0.out | apply IsS123.alloc | apply IsS123.drewN | apply IsS123.drew | apply IsS123.set_1 | apply IsS123.set_2) | exact HI0.out), by repeat (first | (with_reducible first | exact HB.out | apply below_alloc | apply pw_below_drewN | apply below_drew1 | refine below_set ?_ (IsS123.ge HI0.out)) | exact HB.out), by repeat (first | (with_reducible first | exact HK.out | apply KeepBut.set_ | apply keep_drewN | apply keep_drew | apply keep_alloc) | exact HK.out)⟩

/-! ### spec_l1Cur_among: function 132 -/
def spec_l1Cur_among.f (s0_0 : List Int) (s0_1 : Int) (s0_2 : Int) (l1 : List Int) : Option (Int × Int × Int) := (spec_l1Cur_pick.f s0_0 s0_1 s0_2 (l1.length : Int)).bind fun bt357 => (if 0 ≤ bt357.1 then (if bt357.1 < (l1.length : Int) then (some (rd l1 bt357.1, bt357.2.1, bt357.2.2)) else (none)) else (none))
set_option maxHeartbeats 8000000 in
set_option maxRecDepth 100000 in
theorem spec_l1Cur_among.calls (g : Nat) (s0_0 : List Int) (s0_1 : Int) (s0_2 : Int) (A1 : Option Addr) (c1 : Nat) (l1 : List Int) (r1 : Int) (r2 : Int) (r3 : Int) (w0 w : World) (hI : IsS123 w0 w g s0_0 s0_1 s0_2) (hB : Below w0.heap.size w0 w) (hr1 : Kd.C (Kd.int .i64) w A1 l1.length l1) (hc1 : l1.length ≤ c1) (hf1 : ∀ ad, A1 = some ad → 0 < l1.length → ad.block ≠ g) (h : spec_l1Cur_among.f s0_0 s0_1 s0_2 l1 = some (r1, r2, r3)) :
  Calls Try.prog 132 #[.pointer (some ⟨g, 0, none⟩), .slice A1 l1.length c1] w fun e w' => e = .returned (.int .i64 r1) ∧ IsS123 w0 w' g s0_0 r2 r3 ∧ Below w0.heap.size w0 w' ∧ KeepBut w w' g none := by
 have HR1 := Aside0.mk hr1; have HC1 := Aside0.mk hc1; clear hr1 hc1; have HI0 := Aside0.mk hI
 have HK := Aside0.mk (KeepBut.refl w g none)
 have HL := Aside0.mk hB.size
 clear hI
 have HW0 := Aside0.mk hB.size
 have HB := Aside0.mk hB; clear hB
 have H : ((spec_l1Cur_pick.f s0_0 s0_1 s0_2 (l1.length : Int)).bind fun bt357 => (if 0 ≤ bt357.1 then (if bt357.1 < (l1.length : Int) then (some (rd l1 bt357.1, bt357.2.1, bt357.2.2)) else (none)) else (none))) = some (r1, r2, r3) := h
 clear h; replace H := bS H; obtain ⟨⟨t357, t358, t359⟩, A3, H⟩ := H
 replace H : (if 0 ≤ t357 then (if t357 < (l1.length : Int) then (some (rd l1 t357, t358, t359)) else (none)) else (none)) = some (r1, r2, r3) := H
 replace H := ifS H; obtain ⟨c4, H⟩ := H; have c4b0 := decide_eq_true c4; clear c4; replace H := ifS H; obtain ⟨c5, H⟩ := H; have c5b0 := decide_eq_true c5; clear c5
 simp only [Option.some.injEq, Prod.mk.injEq] at H
 obtain ⟨rfl, rfl, rfl⟩ := H
 go_enter Try.func132, Try.ntmps132
 go_wp2_with (first | ((with_reducible refine gate_callee (f := 113) rfl ?_); refine goesLa (some 9) rfl Try.func113 #[.pointer (some ⟨g, 0, none⟩), .int .i64 (l1.length : Int)] rfl ?_; (with_reducible refine (spec_l1Cur_pick.calls g s0_0 s0_1 s0_2 (l1.length : Int) t357 t358 t359 w0 _ ?side1 ?side2 A3.out).mono ?_); (case side1 => repeat (first | (with_reducible first | exact HI0.out | apply IsS123.alloc | apply IsS123.drewN | apply IsS123.drew | apply IsS123.set_1 | apply IsS123.set_2) | exact HI0.out)); (case side2 => repeat (first | (with_reducible first | exact HB.out | apply below_alloc | apply pw_below_drewN | apply below_drew1 | refine below_set ?_ (IsS123.ge HI0.out)) | exact HB.out)); rintro e w6 ⟨rfl, hi, hb, hk⟩; refine ⟨_, rfl, ?_⟩; replace HK := ak (KeepBut.trans (by repeat (first | (with_reducible first | exact HK.out | apply KeepBut.set_ | apply keep_drewN | apply keep_drew | apply keep_alloc) | exact HK.out)) hk (.inl rfl)); replace HB := ak (hb); replace HI0 := ak (hi); (try clear hb); (try clear hk); (try clear hi); have p360 : 0 ≤ (t357 : Int) := da; have q360 : t357 < (l1.length : Int) := da; obtain ⟨ad360, e360, hx360_0⟩ := Kd.at_int HR1.out t357 p360 q360; cases e360; replace hx360_0 := keep_cell HK.out hx360_0 (by first | (rw [add_block]; exact hf1 _ rfl (by omega)) | exact hf1 _ rfl (by omega) | exact hf1 ad360 rfl (by omega)); replace p360 := eq_true p360; replace q360 := eq_true q360))
 go_ret
 exact ⟨er2, by repeat (first | (with_reducible first | exact HI0.out | apply IsS123.alloc | apply IsS123.drewN | apply IsS123.drew | apply IsS123.set_1 | apply IsS123.set_2) | exact HI0.out), by repeat (first | (with_reducible first | exact HB.out | apply below_alloc | apply pw_below_drewN | apply below_drew1 | refine below_set ?_ (IsS123.ge HI0.out)) | exact HB.out), by repeat (first | (with_reducible first | exact HK.out | apply KeepBut.set_ | apply keep_drewN | apply keep_drew | apply keep_alloc) | exact HK.out)⟩

end Go.Proofs.Ytpibdgknmjjolaa.QFnTable
