-- printed by this session's own program (wip/tools/pp.py: the kit's print.py with changes); Lean checks it
import Derived.Test.YtpibdgknmjjolaaQFnTablex0
import Derived.Test.YtpibdgknmjjolaaQFnTablex1
import Derived.Test.YtpibdgknmjjolaaQFnTablex2
import Derived.Test.YtpibdgknmjjolaaQFnTablex5
import Derived.Test.YtpibdgknmjjolaaQFnTablex8
import Derived.Test.YtpibdgknmjjolaaQFnTablex9
namespace Go.Proofs.Ytpibdgknmjjolaa.QFnTable
open Go.RowKit Go.Proofs.YtpibdgknmjjolaaW.PrintWords Go.Proofs.YtpibdgknmjjolaaW.PrintLast Go.Proofs.YtpibdgknmjjolaaW.PrintMore
attribute [local go_sem] max2_int min2_int max_two min_two max_three min_three max_four min_four strLss strGtr strLeq strGeq   -- for this text's walks alone
set_option linter.unusedVariables false
set_option linter.unusedSimpArgs false

/-! ### spec_DrawSayAt: function 64 -/
def spec_DrawSayAt.f (k : Nat) (l0 : List Int) : Option (Int × (List (List Int)) × List Int × Int × Int × Int) := (spec_l1Cur_table.f k l0 0 0).bind fun bt459 => ((spec_l1Cur_pick.f l0 bt459.2.2.2.1 bt459.2.2.2.2 (wrap64 (bt459.1 + 2))).bind fun bt469 => ((spec_l1Cur_pick.f l0 bt469.2.1 bt469.2.2 (wrap64 (bt459.1 + 2))).bind fun bt472 => ((spec_l1Cur_word15.f l0 bt472.2.1 bt472.2.2).bind fun bt475 => (some (bt459.1, bt459.2.1, bt459.2.2.1, wrap64 (bt469.1 - 1), wrap64 (bt472.1 - 1), bt475.1)))))
theorem spec_DrawSayAt.mono : ∀ a0 k, LeO (spec_DrawSayAt.f k a0) (spec_DrawSayAt.f (k + 1) a0) := by
 intro a0 k
 unfold spec_DrawSayAt.f
 repeat' (first | (with_reducible first | exact spec_l1Cur_table.mono _ _ _ _ | exact LeO.refl _ | exact LeO.none _ | refine LeO.ite ?_ ?_ | refine LeO.bind ?_ (fun _ => ?_)) | exact spec_l1Cur_table.mono _ _ _ _ | exact LeO.none _ | refine LeO.ite ?_ ?_ | refine LeO.bind ?_ (fun _ => ?_))
def spec_DrawSayAt.T3 : Bool × List (List Nat × List Nat) := (true, [([], []), ([], []), ([], []), ([2], [2]), ([3], [3]), ([1, 4], [1, 4]), ([5], [5]), ([], []), ([], []), ([8], [8]), ([9], [9]), ([7, 10, 5], [7, 10]), ([11], [11]), ([], []), ([13, 11], [13]), ([0, 14, 0], [0]), ([6, 15, 0, 1, 2, 3, 4, 5, 6, 15], [6]), ([12, 16, 0, 1, 2, 3, 4, 5, 6, 7, 8, 9, 10, 11, 12, 15, 16], [12]), ([14, 17, 0, 1, 2, 3, 4, 5, 6, 7, 8, 9, 10, 11, 12, 13, 14, 15, 16, 17], [14])])
def spec_DrawSayAt.B3 : List Nat := [0, 0, 0, 4, 12, 30, 62, 0, 0, 256, 768, 1982, 4030, 0, 12222, 28607, 61439, 131071, 262143]
theorem spec_DrawSayAt.tab3 : rtab .any (opsOf Try.f64 3) = spec_DrawSayAt.T3 := by kernel_rfl
theorem spec_DrawSayAt.bits3 : waitsOk spec_DrawSayAt.T3.2 spec_DrawSayAt.B3 = true := by kernel_rfl
set_option maxHeartbeats 8000000 in
set_option maxRecDepth 100000 in
theorem spec_DrawSayAt.calls (k : Nat) (A0 : Option Addr) (c0 : Nat) (l0 : List Int) (r1 : Int) (r2 : List (List Int)) (r3 : List Int) (r4 : Int) (r5 : Int) (r6 : Int) (w : World) (hr0 : Kd.C (Kd.int .u8) w A0 l0.length l0) (hc0 : l0.length ≤ c0) (h : spec_DrawSayAt.f k l0 = some (r1, r2, r3, r4, r5, r6)) :
  Calls Try.prog 64 #[.slice A0 l0.length c0] w fun e w' => ∃ v1_ v2_ : Value, e = .returned (.tuple #[.agg #[.int .i64 r1, v1_, v2_], .int .i64 r4, .int .i64 r5, .int .i64 r6]) ∧ Kd.S (Kd.slice 3 (Kd.int .i64)) 22 w' w.heap.size (fun k_ => some k_ ≠ (v2_ : Value).ownBlock) v1_ r2 ∧ Kd.R (Kd.int .i64) 3 w' w.heap.size (fun _ => True) v2_ r3 ∧ Below w.heap.size w w' := by
 have hu38 := Try.underlying38
 have hu123 := Try.underlying123
 have HR0 := Aside0.mk hr0; have HC0 := Aside0.mk hc0; clear hr0 hc0
 have HB := Aside0.mk (Below.refl w.heap.size w)
 have H : ((spec_l1Cur_table.f k l0 0 0).bind fun bt459 => ((spec_l1Cur_pick.f l0 bt459.2.2.2.1 bt459.2.2.2.2 (wrap64 (bt459.1 + 2))).bind fun bt469 => ((spec_l1Cur_pick.f l0 bt469.2.1 bt469.2.2 (wrap64 (bt459.1 + 2))).bind fun bt472 => ((spec_l1Cur_word15.f l0 bt472.2.1 bt472.2.2).bind fun bt475 => (some (bt459.1, bt459.2.1, bt459.2.2.1, wrap64 (bt469.1 - 1), wrap64 (bt472.1 - 1), bt475.1)))))) = some (r1, r2, r3, r4, r5, r6) := h
 clear h; replace H := bS H; obtain ⟨⟨t459, t460, t463, t466, t467⟩, A2, H⟩ := H
 replace H : ((spec_l1Cur_pick.f l0 t466 t467 (wrap64 (t459 + 2))).bind fun bt469 => ((spec_l1Cur_pick.f l0 bt469.2.1 bt469.2.2 (wrap64 (t459 + 2))).bind fun bt472 => ((spec_l1Cur_word15.f l0 bt472.2.1 bt472.2.2).bind fun bt475 => (some (t459, t460, t463, wrap64 (bt469.1 - 1), wrap64 (bt472.1 - 1), bt475.1))))) = some (r1, r2, r3, r4, r5, r6) := H
 replace H := bS H; obtain ⟨⟨t469, t470, t471⟩, A3, H⟩ := H
 replace H : ((spec_l1Cur_pick.f l0 t470 t471 (wrap64 (t459 + 2))).bind fun bt472 => ((spec_l1Cur_word15.f l0 bt472.2.1 bt472.2.2).bind fun bt475 => (some (t459, t460, t463, wrap64 (t469 - 1), wrap64 (bt472.1 - 1), bt475.1)))) = some (r1, r2, r3, r4, r5, r6) := H
 replace H := bS H; obtain ⟨⟨t472, t473, t474⟩, A4, H⟩ := H
 replace H : ((spec_l1Cur_word15.f l0 t473 t474).bind fun bt475 => (some (t459, t460, t463, wrap64 (t469 - 1), wrap64 (t472 - 1), bt475.1))) = some (r1, r2, r3, r4, r5, r6) := H
 replace H := bS H; obtain ⟨⟨t475, t476, t477⟩, A5, H⟩ := H
 replace H : (some (t459, t460, t463, wrap64 (t469 - 1), wrap64 (t472 - 1), t475)) = some (r1, r2, r3, r4, r5, r6) := H
 simp only [Option.some.injEq, Prod.mk.injEq] at H
 obtain ⟨rfl, rfl, rfl, rfl, rfl, rfl⟩ := H
 go_enter Try.func64, Try.ntmps64
 try go_wp2_with (first | ((with_reducible refine gate_dst (N := 2) rfl ?_); refine boxev 2 #[.int .i64 0, .slice none 0 0, .slice none 0 0] 38 ?_; intro gb457 hg w6 hbox hb; have BK457 := ak (hbox); have GW457 := ak (hgl hg (belowd HB)); have GE457 := ak (hgl hg (belowd HB)); replace HB := ak (below_step (belowd HB) hb); clear hb hbox hg) | ((with_reducible refine gate_dst (N := 10) rfl ?_); refine boxev 10 #[.slice A0 l0.length c0, .int .i64 0, .int .u64 0] 123 ?_; intro gb458 hg w7 hbox hb; have HI458 := ak ((show IsS123 w w7 gb458 l0 0 0 from IsS123.of_blk hbox (by rw [hg]; exact (below_size (belowg1 HB GE457))) HR0.out)); replace HB := ak (below_step (belowg1 HB GE457) hb); have NB457_458 := ak ((by rw [hg]; exact Nat.ne_of_lt (blk_lt (blkd BK457)) : gb457 ≠ gb458)); have NB458_457 := ak ((by rw [hg]; exact Nat.ne_of_gt (blk_lt (blkd BK457)) : gb458 ≠ gb457)); replace BK457 := ak (blk_below (blkd BK457) hb); clear hb hbox hg) | ((with_reducible refine gate_callee (f := 122) rfl ?_); refine goesLa (some 12) rfl Try.func122 #[.pointer (some ⟨gb458, 0, none⟩)] rfl ?_; (with_reducible refine (spec_l1Cur_table.calls k gb458 l0 0 0 t459 t460 t463 t466 t467 w _ ?side1 ?side2 A2.out).mono ?_); (case side1 => repeat (first | (with_reducible first | exact HI458.out | apply IsS123.alloc | apply IsS123.drewN | apply IsS123.drew | apply IsS123.set_1 | apply IsS123.set_2 | refine IsS123.far ?_ NB458_457.out _) | exact HI458.out)); (case side2 => repeat (first | (with_reducible first | exact HB.out | apply below_alloc | apply pw_below_drewN | apply below_drew1 | refine below_set ?_ (IsS123.ge HI458.out) | refine below_set ?_ GE457.out) | exact HB.out)); rintro e w8 ⟨v461, v464, rfl, ho0, ho1, hi, hb, hk⟩; refine ⟨_, rfl, ?_⟩; replace BK457 := ak (KeepBut.blk hk (g' := gb457) (blkd BK457) NB457_458.out (by simp)); have HO462 := ak (Kd.S_lower ho0 (below_size (by repeat (first | (with_reducible first | exact HB.out | apply below_alloc | apply pw_below_drewN | apply below_drew1 | refine below_set ?_ (IsS123.ge HI458.out) | refine below_set ?_ GE457.out) | exact HB.out)))); have HO465 := ak (Kd.R_lower ho1 (below_size (by repeat (first | (with_reducible first | exact HB.out | apply below_alloc | apply pw_below_drewN | apply below_drew1 | refine below_set ?_ (IsS123.ge HI458.out) | refine below_set ?_ GE457.out) | exact HB.out)))); replace HB := ak (hb); replace HI458 := ak (hi); (try clear hb); (try clear hk); (try clear hi); (try clear ho0); (try clear ho1)) | ((with_reducible refine gate_dst (N := 7) rfl ?_); refine boxev 7 #[.int .i64 0, .slice none 0 0, .slice none 0 0] 38 ?_; intro gb468 hg w9 hbox hb; replace HO462 := ak (Kd.S_below (sd HO462) hb); replace HO465 := ak (Kd.R_below (rdl HO465) hb); have BK468 := ak (hbox); have GW468 := ak ((by rw [hg]; exact (below_size (by repeat (first | (with_reducible first | exact HB.out | apply below_alloc | apply pw_below_drewN | apply below_drew1 | refine below_set ?_ (IsS123.ge HI458.out) | refine below_set ?_ GE457.out) | exact HB.out))) : w.heap.size ≤ gb468)); have GE468 := ak ((by rw [hg]; exact (below_size (by repeat (first | (with_reducible first | exact HB.out | apply below_alloc | apply pw_below_drewN | apply below_drew1 | refine below_set ?_ (IsS123.ge HI458.out) | refine below_set ?_ GE457.out) | exact HB.out))) : w.heap.size ≤ gb468)); replace HB := ak (below_step (by repeat (first | (with_reducible first | exact HB.out | apply below_alloc | apply pw_below_drewN | apply below_drew1 | refine below_set ?_ (IsS123.ge HI458.out) | refine below_set ?_ GE457.out) | exact HB.out)) hb); have NB457_468 := ak ((by rw [hg]; exact Nat.ne_of_lt (blk_lt (blkd BK457)) : gb457 ≠ gb468)); have NB468_457 := ak ((by rw [hg]; exact Nat.ne_of_gt (blk_lt (blkd BK457)) : gb468 ≠ gb457)); replace BK457 := ak (blk_below (blkd BK457) hb); have NB458_468 := ak ((by rw [hg]; exact Nat.ne_of_lt (IsS123.lt (show IsS123 w _ gb458 l0 t466 t467 from by repeat (first | (with_reducible first | exact HI458.out | apply IsS123.alloc | apply IsS123.drewN | apply IsS123.drew | apply IsS123.set_1 | apply IsS123.set_2 | refine IsS123.far ?_ NB458_457.out _) | exact HI458.out))) : gb458 ≠ gb468)); have NB468_458 := ak ((by rw [hg]; exact Nat.ne_of_gt (IsS123.lt (show IsS123 w _ gb458 l0 t466 t467 from by repeat (first | (with_reducible first | exact HI458.out | apply IsS123.alloc | apply IsS123.drewN | apply IsS123.drew | apply IsS123.set_1 | apply IsS123.set_2 | refine IsS123.far ?_ NB458_457.out _) | exact HI458.out))) : gb468 ≠ gb458)); replace HI458 := ak (IsS123.below (by repeat (first | (with_reducible first | exact HI458.out | apply IsS123.alloc | apply IsS123.drewN | apply IsS123.drew | apply IsS123.set_1 | apply IsS123.set_2 | refine IsS123.far ?_ NB458_457.out _) | exact HI458.out)) hb); clear hb hbox hg; have hnb10 := NB468_457.out; have hnc10 := NB457_468.out; have hnb11 := NB468_458.out; have hnc11 := NB458_468.out; obtain ⟨hcz12_0, hcz12_1, hcz12_2, hfz12_0, hfz12_1, hfz12_2⟩ := box3 BK468; obtain ⟨Ao13, co13, eo13⟩ := Kd.S_slice HO462.out; subst eo13; obtain ⟨Ao14, co14, eo14⟩ := Kd.R_slice HO465.out; subst eo14))
 have n0_ : Aside0 (Kd.S (Kd.slice 3 (Kd.int .i64)) 22 (((w9.setCell ⟨gb468, 0, none⟩ (.int .i64 t459)).setCell ⟨gb468, 1, none⟩ (.slice Ao13 t460.length co13)).setCell ⟨gb468, 2, none⟩ (.slice Ao14 t463.length co14)) w.heap.size (fun k_ => some k_ ≠ (.slice Ao14 t463.length co14 : Value).ownBlock) (.slice Ao13 t460.length co13) t460) := ⟨by (with_reducible repeat (first | apply Kd.S_alloc | apply Kd.S_drewN | apply Kd.S_drew)); exact Kd.S_mono (Kd.S_far (p := ⟨gb468, 2, none⟩) (Kd.S_far (p := ⟨gb468, 1, none⟩) (Kd.S_far (p := ⟨gb468, 0, none⟩) (Kd.S_types HO462.out BK468.out (by decide)) (fun _ hk => hk.2) (.int .i64 t459)) (fun _ hk => hk.2) (.slice Ao13 t460.length co13)) (fun _ hk => hk.2) (.slice Ao14 t463.length co14)) (fun _ hk => hk.1)⟩
 have n1_ : Aside0 (Kd.R (Kd.int .i64) 3 (((w9.setCell ⟨gb468, 0, none⟩ (.int .i64 t459)).setCell ⟨gb468, 1, none⟩ (.slice Ao13 t460.length co13)).setCell ⟨gb468, 2, none⟩ (.slice Ao14 t463.length co14)) w.heap.size (fun _ => True) (.slice Ao14 t463.length co14) t463) := ⟨by (with_reducible repeat (first | apply Kd.R_alloc | apply Kd.R_drewN | apply Kd.R_drew)); exact Kd.R_mono (Kd.R_far (p := ⟨gb468, 2, none⟩) (Kd.R_far (p := ⟨gb468, 1, none⟩) (Kd.R_far (p := ⟨gb468, 0, none⟩) (Kd.R_types HO465.out BK468.out (by decide)) (fun _ hk => hk.2) (.int .i64 t459)) (fun _ hk => hk.2) (.slice Ao13 t460.length co13)) (fun _ hk => hk.2) (.slice Ao14 t463.length co14)) (fun _ hk => trivial)⟩
 have n2_ : Aside0 ((((w9.setCell ⟨gb468, 0, none⟩ (.int .i64 t459)).setCell ⟨gb468, 1, none⟩ (.slice Ao13 t460.length co13)).setCell ⟨gb468, 2, none⟩ (.slice Ao14 t463.length co14)).heap[gb457]? = some (.cells #[.int .i64 0, .slice none 0 0, .slice none 0 0] 38 (0, 0))) := ⟨by (with_reducible repeat (first | refine blk_drewN ?_ _ | refine blk_drew ?_ | refine blk_alloc ?_ _)); refine blk_far ?_ NB457_468.out _; (with_reducible repeat (first | refine blk_drewN ?_ _ | refine blk_drew ?_ | refine blk_alloc ?_ _)); refine blk_far ?_ NB457_468.out _; (with_reducible repeat (first | refine blk_drewN ?_ _ | refine blk_drew ?_ | refine blk_alloc ?_ _)); refine blk_far ?_ NB457_468.out _; (with_reducible repeat (first | refine blk_drewN ?_ _ | refine blk_drew ?_ | refine blk_alloc ?_ _)); exact BK457.out⟩
 have n3_ : Aside0 ((((w9.setCell ⟨gb468, 0, none⟩ (.int .i64 t459)).setCell ⟨gb468, 1, none⟩ (.slice Ao13 t460.length co13)).setCell ⟨gb468, 2, none⟩ (.slice Ao14 t463.length co14)).heap[gb468]? = some (.cells #[.int .i64 t459, .slice Ao13 t460.length co13, .slice Ao14 t463.length co14] 38 (0, 0))) := ⟨by (with_reducible repeat (first | refine blk_drewN ?_ _ | refine blk_drew ?_ | refine blk_alloc ?_ _)); refine blk_put (cs := #[.int .i64 t459, .slice Ao13 t460.length co13, .slice none 0 0]) ?_ 2 _ rfl; (with_reducible repeat (first | refine blk_drewN ?_ _ | refine blk_drew ?_ | refine blk_alloc ?_ _)); refine blk_put (cs := #[.int .i64 t459, .slice none 0 0, .slice none 0 0]) ?_ 1 _ rfl; (with_reducible repeat (first | refine blk_drewN ?_ _ | refine blk_drew ?_ | refine blk_alloc ?_ _)); refine blk_put (cs := #[.int .i64 0, .slice none 0 0, .slice none 0 0]) ?_ 0 _ rfl; (with_reducible repeat (first | refine blk_drewN ?_ _ | refine blk_drew ?_ | refine blk_alloc ?_ _)); exact BK468.out⟩
 have n4_ : Aside0 (IsS123 w (((w9.setCell ⟨gb468, 0, none⟩ (.int .i64 t459)).setCell ⟨gb468, 1, none⟩ (.slice Ao13 t460.length co13)).setCell ⟨gb468, 2, none⟩ (.slice Ao14 t463.length co14)) gb458 l0 t466 t467) := ⟨by repeat (first | (with_reducible first | exact HI458.out | apply IsS123.alloc | apply IsS123.drewN | apply IsS123.drew | apply IsS123.set_1 | apply IsS123.set_2 | refine IsS123.far ?_ NB458_457.out _ | refine IsS123.far ?_ NB458_468.out _) | exact HI458.out)⟩
 have n5_ : Aside0 (Below w.heap.size w (((w9.setCell ⟨gb468, 0, none⟩ (.int .i64 t459)).setCell ⟨gb468, 1, none⟩ (.slice Ao13 t460.length co13)).setCell ⟨gb468, 2, none⟩ (.slice Ao14 t463.length co14))) := ⟨by repeat (first | (with_reducible first | exact HB.out | apply below_alloc | apply pw_below_drewN | apply below_drew1 | refine below_set ?_ (IsS123.ge HI458.out) | refine below_set ?_ GE457.out | refine below_set ?_ GE468.out) | exact HB.out)⟩
 (try clear HO462); (try clear HO465); (try clear BK457); (try clear BK468); (try clear HI458); (try clear HB)
 generalize (((w9.setCell ⟨gb468, 0, none⟩ (.int .i64 t459)).setCell ⟨gb468, 1, none⟩ (.slice Ao13 t460.length co13)).setCell ⟨gb468, 2, none⟩ (.slice Ao14 t463.length co14)) = w15 at n0_ n1_ n2_ n3_ n4_ n5_ ⊢
 have HO462 := n0_
 have HO465 := n1_
 have BK457 := n2_
 have BK468 := n3_
 have HI458 := n4_
 have HB := n5_
 clear n0_ n1_ n2_ n3_ n4_ n5_
 replace HO462 := ak (Kd.S_drew HO462.out)
 replace HO465 := ak (Kd.R_drew HO465.out)
 replace BK457 := ak (blk_drew BK457.out)
 replace BK468 := ak (blk_drew BK468.out)
 replace HI458 := ak (IsS123.drew HI458.out)
 replace HB := ak (below_drew1 HB.out)
 refine start_ (n := 19) (S := fun w' => w'.cell? ⟨gb468, 0, none⟩ = some (.int .i64 t459) ∧ w'.cell? ⟨gb468, 1, none⟩ = some (.slice Ao13 t460.length co13) ∧ w'.cell? ⟨gb468, 2, none⟩ = some (.slice Ao14 t463.length co14)) (ds := []) (bl 19 0) (by kernel_rfl) rfl rfl ⟨bq BK468 0, bq BK468 1, bq BK468 2⟩ (fun hHeld => ?_); refine with_tabW spec_DrawSayAt.tab3 spec_DrawSayAt.bits3 (fun HT_ HW_ => ?_)
 generalize w15.drew = w16 at HO462 HO465 BK457 BK468 HI458 HB hHeld ⊢
 refine pureA 1 (some 14) 19 2 HT_ ?_
 refine pureA 2 (some 15) 19 6 HT_ ?_
 refine pureA 7 (some 20) 19 134 HT_ ?_
 refine pureA 8 (some 21) 19 390 HT_ ?_
 refine pureA 13 (some 26) 19 8582 HT_ ?_
 refine takeA 0 (some 13) 19 8583 HT_ HW_ hHeld ?_ (hy := by rintro w' ⟨s0, s1, s2⟩; go_simp; with_reducible rfl)
 refine takeA 3 (some 16) 19 8591 HT_ HW_ hHeld ?_ (hy := by rintro w' ⟨s0, s1, s2⟩; go_simp; with_reducible rfl)
 refine pureA 4 (some 17) 19 8607 HT_ ?_
 refine takeA 9 (some 22) 19 9119 HT_ HW_ hHeld ?_ (hy := by rintro w' ⟨s0, s1, s2⟩; go_simp; with_reducible rfl)
 refine pureA 10 (some 23) 19 10143 HT_ ?_
 refine oneA 5 (some 18) 19 10175 HT_ (fun K hK => ?_)
 refine goes_ Try.func113 (by kernel_rfl) rfl #[.pointer (some ⟨gb458, 0, none⟩), .int .i64 (wrap64 (t459 + 2))] (by rfl) rfl rfl (by (try simp only [List.map_toArray, List.map_cons, List.map_nil]); first | done | rfl | (simp only [List.length_drop, List.length_take]; rfl)) ?_
 with_reducible refine (spec_l1Cur_pick.calls gb458 l0 t466 t467 (wrap64 (t459 + 2)) t469 t470 t471 w _ ?side1 ?side2 A3.out).mono ?_
 (case side1 => repeat (first | (with_reducible first | exact HI458.out | apply IsS123.alloc | apply IsS123.drewN | apply IsS123.drew | apply IsS123.set_1 | apply IsS123.set_2 | refine IsS123.far ?_ NB458_457.out _ | refine IsS123.far ?_ NB458_468.out _) | exact HI458.out))
 (case side2 => repeat (first | (with_reducible first | exact HB.out | apply below_alloc | apply pw_below_drewN | apply below_drew1 | refine below_set ?_ (IsS123.ge HI458.out) | refine below_set ?_ GE457.out | refine below_set ?_ GE468.out) | exact HB.out))
 rintro e w17 ⟨rfl, hi, hb, hk⟩
 refine ⟨_, rfl, ?_⟩
 replace BK457 := ak (KeepBut.blk hk (g' := gb457) (blkd BK457) NB457_458.out (by simp))
 replace HO462 := ak (Kd.S_mono (Kd.S_keep (IsS123.apartS (show IsS123 w _ gb458 l0 t466 t467 from by repeat (first | (with_reducible first | exact HI458.out | apply IsS123.alloc | apply IsS123.drewN | apply IsS123.drew | apply IsS123.set_1 | apply IsS123.set_2 | refine IsS123.far ?_ NB458_457.out _ | refine IsS123.far ?_ NB458_468.out _) | exact HI458.out)) (sd HO462) (by decide)) hk (fun _ h => h.2)) (fun _ h => h.1))
 replace HO465 := ak (Kd.R_mono (Kd.R_keep (IsS123.apart (show IsS123 w _ gb458 l0 t466 t467 from by repeat (first | (with_reducible first | exact HI458.out | apply IsS123.alloc | apply IsS123.drewN | apply IsS123.drew | apply IsS123.set_1 | apply IsS123.set_2 | refine IsS123.far ?_ NB458_457.out _ | refine IsS123.far ?_ NB458_468.out _) | exact HI458.out)) (rdl HO465) (by decide)) hk (fun _ h => h.2)) (fun _ h => h.1))
 replace BK468 := ak (KeepBut.blk hk (g' := gb468) (blkd BK468) NB468_458.out (by simp))
 replace HB := ak (hb)
 replace HI458 := ak (hi)
 (try clear hb); (try clear hb2); (try clear hk); (try clear hi)
 refine hK.out _ _ ⟨bq BK468 0, bq BK468 1, bq BK468 2⟩ (fun hHeld => ?_)
 clear hK K
 refine norm_ (a' := ?_) ?_ ?_
 rotate_left
 ·show Act.put _ (some 18) _ = _
  simp only [Act.put, List.setIfInBounds_toArray, List.set_cons_zero, List.set_cons_succ, i64_w, i32_w]
  rfl
 refine pureA 6 (some 19) 19 10239 HT_ ?_
 refine oneA 11 (some 24) 19 12287 HT_ (fun K hK => ?_)
 refine goes_ Try.func113 (by kernel_rfl) rfl #[.pointer (some ⟨gb458, 0, none⟩), .int .i64 (wrap64 (t459 + 2))] (by rfl) rfl rfl (by (try simp only [List.map_toArray, List.map_cons, List.map_nil]); first | done | rfl | (simp only [List.length_drop, List.length_take]; rfl)) ?_
 with_reducible refine (spec_l1Cur_pick.calls gb458 l0 t470 t471 (wrap64 (t459 + 2)) t472 t473 t474 w _ ?side1 ?side2 A4.out).mono ?_
 (case side1 => repeat (first | (with_reducible first | exact HI458.out | apply IsS123.alloc | apply IsS123.drewN | apply IsS123.drew | apply IsS123.set_1 | apply IsS123.set_2 | refine IsS123.far ?_ NB458_457.out _ | refine IsS123.far ?_ NB458_468.out _) | exact HI458.out))
 (case side2 => repeat (first | (with_reducible first | exact HB.out | apply below_alloc | apply pw_below_drewN | apply below_drew1 | refine below_set ?_ (IsS123.ge HI458.out) | refine below_set ?_ GE457.out | refine below_set ?_ GE468.out) | exact HB.out))
 rintro e w18 ⟨rfl, hi, hb, hk⟩
 refine ⟨_, rfl, ?_⟩
 replace BK457 := ak (KeepBut.blk hk (g' := gb457) (blkd BK457) NB457_458.out (by simp))
 replace HO462 := ak (Kd.S_mono (Kd.S_keep (IsS123.apartS (show IsS123 w _ gb458 l0 t470 t471 from by repeat (first | (with_reducible first | exact HI458.out | apply IsS123.alloc | apply IsS123.drewN | apply IsS123.drew | apply IsS123.set_1 | apply IsS123.set_2 | refine IsS123.far ?_ NB458_457.out _ | refine IsS123.far ?_ NB458_468.out _) | exact HI458.out)) (sd HO462) (by decide)) hk (fun _ h => h.2)) (fun _ h => h.1))
 replace HO465 := ak (Kd.R_mono (Kd.R_keep (IsS123.apart (show IsS123 w _ gb458 l0 t470 t471 from by repeat (first | (with_reducible first | exact HI458.out | apply IsS123.alloc | apply IsS123.drewN | apply IsS123.drew | apply IsS123.set_1 | apply IsS123.set_2 | refine IsS123.far ?_ NB458_457.out _ | refine IsS123.far ?_ NB458_468.out _) | exact HI458.out)) (rdl HO465) (by decide)) hk (fun _ h => h.2)) (fun _ h => h.1))
 replace BK468 := ak (KeepBut.blk hk (g' := gb468) (blkd BK468) NB468_458.out (by simp))
 replace HB := ak (hb)
 replace HI458 := ak (hi)
 (try clear hb); (try clear hb2); (try clear hk); (try clear hi)
 refine hK.out _ _ ⟨bq BK468 0, bq BK468 1, bq BK468 2⟩ (fun hHeld => ?_)
 clear hK K
 refine norm_ (a' := ?_) ?_ ?_
 rotate_left
 ·show Act.put _ (some 24) _ = _
  simp only [Act.put, List.setIfInBounds_toArray, List.set_cons_zero, List.set_cons_succ, i64_w, i32_w]
  rfl
 refine pureA 12 (some 25) 19 16383 HT_ ?_
 refine oneA 14 (some 27) 19 32767 HT_ (fun K hK => ?_)
 refine goes_ Try.func123 (by kernel_rfl) rfl #[.pointer (some ⟨gb458, 0, none⟩)] (by rfl) rfl rfl (by (try simp only [List.map_toArray, List.map_cons, List.map_nil]); first | done | rfl | (simp only [List.length_drop, List.length_take]; rfl)) ?_
 with_reducible refine (spec_l1Cur_word15.calls gb458 l0 t473 t474 t475 t476 t477 w _ ?side1 ?side2 A5.out).mono ?_
 (case side1 => repeat (first | (with_reducible first | exact HI458.out | apply IsS123.alloc | apply IsS123.drewN | apply IsS123.drew | apply IsS123.set_1 | apply IsS123.set_2 | refine IsS123.far ?_ NB458_457.out _ | refine IsS123.far ?_ NB458_468.out _) | exact HI458.out))
 (case side2 => repeat (first | (with_reducible first | exact HB.out | apply below_alloc | apply pw_below_drewN | apply below_drew1 | refine below_set ?_ (IsS123.ge HI458.out) | refine below_set ?_ GE457.out | refine below_set ?_ GE468.out) | exact HB.out))
 rintro e w19 ⟨rfl, hi, hb, hk⟩
 refine ⟨_, rfl, ?_⟩
 replace BK457 := ak (KeepBut.blk hk (g' := gb457) (blkd BK457) NB457_458.out (by simp))
 replace HO462 := ak (Kd.S_mono (Kd.S_keep (IsS123.apartS (show IsS123 w _ gb458 l0 t473 t474 from by repeat (first | (with_reducible first | exact HI458.out | apply IsS123.alloc | apply IsS123.drewN | apply IsS123.drew | apply IsS123.set_1 | apply IsS123.set_2 | refine IsS123.far ?_ NB458_457.out _ | refine IsS123.far ?_ NB458_468.out _) | exact HI458.out)) (sd HO462) (by decide)) hk (fun _ h => h.2)) (fun _ h => h.1))
 replace HO465 := ak (Kd.R_mono (Kd.R_keep (IsS123.apart (show IsS123 w _ gb458 l0 t473 t474 from by repeat (first | (with_reducible first | exact HI458.out | apply IsS123.alloc | apply IsS123.drewN | apply IsS123.drew | apply IsS123.set_1 | apply IsS123.set_2 | refine IsS123.far ?_ NB458_457.out _ | refine IsS123.far ?_ NB458_468.out _) | exact HI458.out)) (rdl HO465) (by decide)) hk (fun _ h => h.2)) (fun _ h => h.1))
 replace BK468 := ak (KeepBut.blk hk (g' := gb468) (blkd BK468) NB468_458.out (by simp))
 replace HB := ak (hb)
 replace HI458 := ak (hi)
 (try clear hb); (try clear hb2); (try clear hk); (try clear hi)
 refine hK.out _ _ ⟨bq BK468 0, bq BK468 1, bq BK468 2⟩ (fun hHeld => ?_)
 clear hK K
 refine norm_ (a' := ?_) ?_ ?_
 rotate_left
 ·show Act.put _ (some 27) _ = _
  simp only [Act.put, List.setIfInBounds_toArray, List.set_cons_zero, List.set_cons_succ, i64_w, i32_w]
  rfl
 refine oneA 15 none 19 65535 HT_ (fun K hK => ?_)
 have hs20 : w19.cell? ⟨gb457, 0, none⟩ = some (.int .i64 0) := bq BK457 0
 have hfs20 := blk_frozen BK457.out 0
 have hns20_1 := NB468_457.out; have hms20_1 := NB457_468.out
 have hs21 : w19.cell? ⟨gb457, 1, none⟩ = some (.slice none 0 0) := bq BK457 1
 have hfs21 := blk_frozen BK457.out 1
 have hns21_1 := NB468_457.out; have hms21_1 := NB457_468.out
 have hs22 : w19.cell? ⟨gb457, 2, none⟩ = some (.slice none 0 0) := bq BK457 2
 have hfs22 := blk_frozen BK457.out 2
 have hns22_1 := NB468_457.out; have hms22_1 := NB457_468.out
 refine skip_ (w1 := ?_) (by rfl) rfl ?_ ?_
 rotate_left
 ·go_simp
  rfl
 refine hK.out _ _ ⟨((cell_far (p := ⟨gb457, _, none⟩) NB468_457.out _).trans (((cell_far (p := ⟨gb457, _, none⟩) NB468_457.out _).trans (((cell_far (p := ⟨gb457, _, none⟩) NB468_457.out _).trans (hHeld.1)))))), ((cell_far (p := ⟨gb457, _, none⟩) NB468_457.out _).trans (((cell_far (p := ⟨gb457, _, none⟩) NB468_457.out _).trans (((cell_far (p := ⟨gb457, _, none⟩) NB468_457.out _).trans (hHeld.2.1)))))), ((cell_far (p := ⟨gb457, _, none⟩) NB468_457.out _).trans (((cell_far (p := ⟨gb457, _, none⟩) NB468_457.out _).trans (((cell_far (p := ⟨gb457, _, none⟩) NB468_457.out _).trans (hHeld.2.2))))))⟩ (fun hHeld => ?_)
 clear hK K
 refine pureA 16 (some 3) 19 131071 HT_ ?_
 refine pureA 17 (some 4) 19 262143 HT_ ?_
 refine pureA 18 (some 5) 19 524287 HT_ ?_
 refine done_ (done_of HT_.out (by kernel_rfl)) ?_
 try go_wp2
 refine bodyPost_ret (results_list (rs := [.cell 2 38, .tmp 3, .tmp 4, .tmp 5]) rfl (by simp) (.cell gb457 38 #[.int .i64 t459, .slice Ao13 t460.length co13, .slice Ao14 t463.length co14] (0, 0) _ rfl (by (with_reducible repeat (first | refine blk_drewN ?_ _ | refine blk_drew ?_ | refine blk_alloc ?_ _)); refine blk_put (cs := #[.int .i64 t459, .slice Ao13 t460.length co13, .slice none 0 0]) ?_ 2 _ rfl; (with_reducible repeat (first | refine blk_drewN ?_ _ | refine blk_drew ?_ | refine blk_alloc ?_ _)); refine blk_put (cs := #[.int .i64 t459, .slice none 0 0, .slice none 0 0]) ?_ 1 _ rfl; (with_reducible repeat (first | refine blk_drewN ?_ _ | refine blk_drew ?_ | refine blk_alloc ?_ _)); refine blk_put (cs := #[.int .i64 0, .slice none 0 0, .slice none 0 0]) ?_ 0 _ rfl; (with_reducible repeat (first | refine blk_drewN ?_ _ | refine blk_drew ?_ | refine blk_alloc ?_ _)); exact BK457.out) Try.underlying38 rfl (by kernel_rfl) (.tmp (.tmp (.tmp .nil))))) rfl ?_
 exact ⟨_, _, er2, by (with_reducible repeat (first | apply Kd.S_alloc | apply Kd.S_drewN | apply Kd.S_drew)); exact Kd.S_mono (Kd.S_far (p := ⟨gb457, 2, none⟩) (Kd.S_far (p := ⟨gb457, 1, none⟩) (Kd.S_far (p := ⟨gb457, 0, none⟩) (Kd.S_types HO462.out BK457.out (by decide)) (fun _ hk => hk.2) (.int .i64 t459)) (fun _ hk => hk.2) (.slice Ao13 t460.length co13)) (fun _ hk => hk.2) (.slice Ao14 t463.length co14)) (fun _ hk => hk.1), by (with_reducible repeat (first | apply Kd.R_alloc | apply Kd.R_drewN | apply Kd.R_drew)); exact Kd.R_mono (Kd.R_far (p := ⟨gb457, 2, none⟩) (Kd.R_far (p := ⟨gb457, 1, none⟩) (Kd.R_far (p := ⟨gb457, 0, none⟩) (Kd.R_types HO465.out BK457.out (by decide)) (fun _ hk => hk.2) (.int .i64 t459)) (fun _ hk => hk.2) (.slice Ao13 t460.length co13)) (fun _ hk => hk.2) (.slice Ao14 t463.length co14)) (fun _ hk => trivial), by repeat (first | (with_reducible first | exact HB.out | apply below_alloc | apply pw_below_drewN | apply below_drew1 | refine below_set ?_ (IsS123.ge HI458.out) | refine below_set ?_ GE457.out | refine below_set ?_ GE468.out) | exact HB.out)⟩

/-! ### spec_SayAt: function 65 -/
def spec_SayAt.f (k : Nat) (a0_0 : Int) (l0_1 : List (List Int)) (l0_2 : List Int) (a1 : Int) (a2 : Int) (a3 : Int) : Option (Int × Bool) := (spec_l15Asked.f k a0_0 l0_1 l0_2 a2 a3).bind fun t479 => (if t479 = true then ((spec_l1In.f a1 0 (wrap64 (a0_0 - 1))).bind fun t480 => (if t480 = true then ((spec_l15Say.f k a0_0 l0_1 l0_2 a1 a2 a3).bind fun t481 => (some (t481, true))) else (some (0, false)))) else (some (0, false)))
theorem spec_SayAt.mono : ∀ a0 a1 a2 a3 a4 a5 k, LeO (spec_SayAt.f k a0 a1 a2 a3 a4 a5) (spec_SayAt.f (k + 1) a0 a1 a2 a3 a4 a5) := by
 intro a0 a1 a2 a3 a4 a5 k
 unfold spec_SayAt.f
 repeat' (first | (with_reducible first | exact spec_l15Asked.mono _ _ _ _ _ _ | exact spec_l15Say.mono _ _ _ _ _ _ _ | exact LeO.refl _ | exact LeO.none _ | refine LeO.ite ?_ ?_ | refine LeO.bind ?_ (fun _ => ?_)) | exact spec_l15Asked.mono _ _ _ _ _ _ | exact spec_l15Say.mono _ _ _ _ _ _ _ | exact LeO.none _ | refine LeO.ite ?_ ?_ | refine LeO.bind ?_ (fun _ => ?_))
set_option maxHeartbeats 8000000 in
set_option maxRecDepth 100000 in
theorem spec_SayAt.calls (k : Nat) (a0_0 : Int) (A0_1 : Option Addr) (c0_1 : Nat) (l0_1 : List (List Int)) (A0_2 : Option Addr) (c0_2 : Nat) (l0_2 : List Int) (a1 : Int) (a2 : Int) (a3 : Int) (r1 : Int) (r2 : Bool) (w : World) (hr0_1 : Kd.C (Kd.slice 3 (Kd.int .i64)) w A0_1 l0_1.length l0_1) (hc0_1 : l0_1.length ≤ c0_1) (hr0_2 : Kd.C (Kd.int .i64) w A0_2 l0_2.length l0_2) (hc0_2 : l0_2.length ≤ c0_2) (h : spec_SayAt.f k a0_0 l0_1 l0_2 a1 a2 a3 = some (r1, r2)) :
  Calls Try.prog 65 #[.agg #[.int .i64 a0_0, .slice A0_1 l0_1.length c0_1, .slice A0_2 l0_2.length c0_2], .int .i64 a1, .int .i64 a2, .int .i64 a3] w fun e w' => e = .returned (.tuple #[.int .i64 r1, .bool r2]) ∧ Below w.heap.size w w' := by
 have hu38 := Try.underlying38
 have HR0_1 := Aside0.mk hr0_1; have HC0_1 := Aside0.mk hc0_1; clear hr0_1 hc0_1; have HR0_2 := Aside0.mk hr0_2; have HC0_2 := Aside0.mk hc0_2; clear hr0_2 hc0_2
 have HB := Aside0.mk (Below.refl w.heap.size w)
 have H : ((spec_l15Asked.f k a0_0 l0_1 l0_2 a2 a3).bind fun t479 => (if t479 = true then ((spec_l1In.f a1 0 (wrap64 (a0_0 - 1))).bind fun t480 => (if t480 = true then ((spec_l15Say.f k a0_0 l0_1 l0_2 a1 a2 a3).bind fun t481 => (some (t481, true))) else (some (0, false)))) else (some (0, false)))) = some (r1, r2) := h
 clear h; replace H := bS H; obtain ⟨t479, A5, H⟩ := H
 replace H : (if t479 = true then ((spec_l1In.f a1 0 (wrap64 (a0_0 - 1))).bind fun t480 => (if t480 = true then ((spec_l15Say.f k a0_0 l0_1 l0_2 a1 a2 a3).bind fun t481 => (some (t481, true))) else (some (0, false)))) else (some (0, false))) = some (r1, r2) := H
 by_cases c6 : t479 = true
 ·subst c6
  have H1 : ((spec_l1In.f a1 0 (wrap64 (a0_0 - 1))).bind fun t480 => (if t480 = true then ((spec_l15Say.f k a0_0 l0_1 l0_2 a1 a2 a3).bind fun t481 => (some (t481, true))) else (some (0, false)))) = some (r1, r2) := by rw [if_pos rfl] at H; exact H
  clear H
  have H := H1
  clear H1; replace H := bS H; obtain ⟨t480, A7, H⟩ := H
  replace H : (if t480 = true then ((spec_l15Say.f k a0_0 l0_1 l0_2 a1 a2 a3).bind fun t481 => (some (t481, true))) else (some (0, false))) = some (r1, r2) := H
  by_cases c8 : t480 = true
  ·subst c8
   have H1 : ((spec_l15Say.f k a0_0 l0_1 l0_2 a1 a2 a3).bind fun t481 => (some (t481, true))) = some (r1, r2) := by rw [if_pos rfl] at H; exact H
   clear H
   have H := H1
   clear H1; replace H := bS H; obtain ⟨t481, A9, H⟩ := H
   replace H : (some (t481, true)) = some (r1, r2) := H
   simp only [Option.some.injEq, Prod.mk.injEq] at H
   obtain ⟨rfl, rfl⟩ := H
   go_enter Try.func65, Try.ntmps65
   go_wp2_with (first | ((with_reducible refine gate_dst (N := 4) rfl ?_); refine boxev 4 #[.int .i64 a0_0, .slice A0_1 l0_1.length c0_1, .slice A0_2 l0_2.length c0_2] 38 ?_; intro gb478 hg w10 hbox hb; have BK478 := ak (hbox); have GW478 := ak (hgl hg (belowd HB)); have GE478 := ak (hgl hg (belowd HB)); replace HB := ak (below_step (belowd HB) hb); clear hb hbox hg; obtain ⟨hcz11_0, hcz11_1, hcz11_2, hfz11_0, hfz11_1, hfz11_2⟩ := box3 BK478) | ((with_reducible refine gate_callee (f := 95) rfl ?_); refine goesLa (some 13) rfl Try.func95 #[.agg #[.int .i64 a0_0, .slice A0_1 l0_1.length c0_1, .slice A0_2 l0_2.length c0_2], .int .i64 a2, .int .i64 a3] rfl ?_; (with_reducible refine (spec_l15Asked.calls k a0_0 _ _ l0_1 _ _ l0_2 a2 a3 true _ ?side1 ?side2 ?side3 ?side4 A5.out).mono ?_); (case side1 => exact cd (Kd.C_below HR0_1.out HB.out)); (case side2 => exact HC0_1.out); (case side3 => exact cd (Kd.C_below HR0_2.out HB.out)); (case side4 => exact HC0_2.out); rintro e w12 ⟨rfl, hb⟩; refine ⟨_, rfl, ?_⟩; replace BK478 := ak (blk_below (blkd BK478) hb); replace HB := ak (below_step (belowg1 HB GE478) hb); (try clear hb); obtain ⟨hcz13_0, hcz13_1, hcz13_2, hfz13_0, hfz13_1, hfz13_2⟩ := box3 BK478) | (go_at_call 81; (with_reducible refine (spec_l1In.calls a1 0 (wrap64 (a0_0 - 1)) true _ A7.out).mono ?_); rintro e w' ⟨rfl, ⟨nd, rfl⟩⟩) | ((with_reducible refine gate_callee (f := 96) rfl ?_); refine goesLa (some 27) rfl Try.func96 #[.agg #[.int .i64 a0_0, .slice A0_1 l0_1.length c0_1, .slice A0_2 l0_2.length c0_2], .int .i64 a1, .int .i64 a2, .int .i64 a3] rfl ?_; (with_reducible refine (spec_l15Say.calls k a0_0 _ _ l0_1 _ _ l0_2 a1 a2 a3 t481 _ ?side1 ?side2 ?side3 ?side4 A9.out).mono ?_); (case side1 => exact cd (Kd.C_below HR0_1.out (belowg1 HB GE478))); (case side2 => exact HC0_1.out); (case side3 => exact cd (Kd.C_below HR0_2.out (belowg1 HB GE478))); (case side4 => exact HC0_2.out); rintro e w14 ⟨rfl, hb⟩; refine ⟨_, rfl, ?_⟩; replace BK478 := ak (blk_below (blkd BK478) hb); replace HB := ak (below_step (belowg1 HB GE478) hb); (try clear hb)))
   go_ret2
   exact ⟨er2, belowg1 HB GE478⟩
  ·replace c8 := Bool.eq_false_iff.mpr c8
   subst c8
   have H1 : (some (0, false)) = some (r1, r2) := by rw [if_neg (show ¬ (false = true) by decide)] at H; exact H
   clear H
   have H := H1
   clear H1
   simp only [Option.some.injEq, Prod.mk.injEq] at H
   obtain ⟨rfl, rfl⟩ := H
   go_enter Try.func65, Try.ntmps65
   go_wp2_with (first | ((with_reducible refine gate_dst (N := 4) rfl ?_); refine boxev 4 #[.int .i64 a0_0, .slice A0_1 l0_1.length c0_1, .slice A0_2 l0_2.length c0_2] 38 ?_; intro gb478 hg w15 hbox hb; have BK478 := ak (hbox); have GW478 := ak (hgl hg (belowd HB)); have GE478 := ak (hgl hg (belowd HB)); replace HB := ak (below_step (belowd HB) hb); clear hb hbox hg; obtain ⟨hcz16_0, hcz16_1, hcz16_2, hfz16_0, hfz16_1, hfz16_2⟩ := box3 BK478) | ((with_reducible refine gate_callee (f := 95) rfl ?_); refine goesLa (some 13) rfl Try.func95 #[.agg #[.int .i64 a0_0, .slice A0_1 l0_1.length c0_1, .slice A0_2 l0_2.length c0_2], .int .i64 a2, .int .i64 a3] rfl ?_; (with_reducible refine (spec_l15Asked.calls k a0_0 _ _ l0_1 _ _ l0_2 a2 a3 true _ ?side1 ?side2 ?side3 ?side4 A5.out).mono ?_); (case side1 => exact cd (Kd.C_below HR0_1.out HB.out)); (case side2 => exact HC0_1.out); (case side3 => exact cd (Kd.C_below HR0_2.out HB.out)); (case side4 => exact HC0_2.out); rintro e w17 ⟨rfl, hb⟩; refine ⟨_, rfl, ?_⟩; replace BK478 := ak (blk_below (blkd BK478) hb); replace HB := ak (below_step (belowg1 HB GE478) hb); (try clear hb); obtain ⟨hcz18_0, hcz18_1, hcz18_2, hfz18_0, hfz18_1, hfz18_2⟩ := box3 BK478) | (go_at_call 81; (with_reducible refine (spec_l1In.calls a1 0 (wrap64 (a0_0 - 1)) false _ A7.out).mono ?_); rintro e w' ⟨rfl, ⟨nd, rfl⟩⟩))
   go_ret2
   exact ⟨er2, belowg1 HB GE478⟩
 ·replace c6 := Bool.eq_false_iff.mpr c6
  subst c6
  have H1 : (some (0, false)) = some (r1, r2) := by rw [if_neg (show ¬ (false = true) by decide)] at H; exact H
  clear H
  have H := H1
  clear H1
  simp only [Option.some.injEq, Prod.mk.injEq] at H
  obtain ⟨rfl, rfl⟩ := H
  go_enter Try.func65, Try.ntmps65
  go_wp2_with (first | ((with_reducible refine gate_dst (N := 4) rfl ?_); refine boxev 4 #[.int .i64 a0_0, .slice A0_1 l0_1.length c0_1, .slice A0_2 l0_2.length c0_2] 38 ?_; intro gb478 hg w19 hbox hb; have BK478 := ak (hbox); have GW478 := ak (hgl hg (belowd HB)); have GE478 := ak (hgl hg (belowd HB)); replace HB := ak (below_step (belowd HB) hb); clear hb hbox hg; obtain ⟨hcz20_0, hcz20_1, hcz20_2, hfz20_0, hfz20_1, hfz20_2⟩ := box3 BK478) | ((with_reducible refine gate_callee (f := 95) rfl ?_); refine goesLa (some 13) rfl Try.func95 #[.agg #[.int .i64 a0_0, .slice A0_1 l0_1.length c0_1, .slice A0_2 l0_2.length c0_2], .int .i64 a2, .int .i64 a3] rfl ?_; (with_reducible refine (spec_l15Asked.calls k a0_0 _ _ l0_1 _ _ l0_2 a2 a3 false _ ?side1 ?side2 ?side3 ?side4 A5.out).mono ?_); (case side1 => exact cd (Kd.C_below HR0_1.out HB.out)); (case side2 => exact HC0_1.out); (case side3 => exact cd (Kd.C_below HR0_2.out HB.out)); (case side4 => exact HC0_2.out); rintro e w21 ⟨rfl, hb⟩; refine ⟨_, rfl, ?_⟩; replace BK478 := ak (blk_below (blkd BK478) hb); replace HB := ak (below_step (belowg1 HB GE478) hb); (try clear hb)))
  go_ret2
  exact ⟨er2, belowg1 HB GE478⟩

/-! ### laws_sameRows: function 47 -/
def laws_sameRows.l0 : Nat → List (List Int) → List (List Int) → Int → Int → Option (Bool)
  | 0, _, _, _, _ => none
  | k + 1, x0, x1, x12, x13 => if x13 < x12 then (if 0 ≤ x13 then (if x13 < (x0.length : Int) then (if x13 < (x1.length : Int) then ((laws_sameInts.f k (rd_L1 x0 x13) (rd_L1 x1 x13)).bind fun t484 => (if t484 = true then (laws_sameRows.l0 k x0 x1 x12 (wrap64 (x13 + 1))) else (some false))) else (none)) else (none)) else (none)) else (some true)
def laws_sameRows.f (k : Nat) (l0 : List (List Int)) (l1 : List (List Int)) : Option (Bool) := if (l0.length : Int) = (l1.length : Int) then (laws_sameRows.l0 k l0 l1 (l0.length : Int) 0) else (some false)
theorem laws_sameRows.mono_l : ∀ k, (∀ y0 y1 y2 y3, LeO (laws_sameRows.l0 k y0 y1 y2 y3) (laws_sameRows.l0 (k + 1) y0 y1 y2 y3))
 | 0 => fun _ _ _ _ r h => by simp [laws_sameRows.l0] at h
 | k + 1 => by
  have ih0 := laws_sameRows.mono_l k
  ·intro y0 y1 y2 y3
   unfold laws_sameRows.l0
   repeat' (first | (with_reducible first | exact ih0 _ _ _ _ | exact laws_sameInts.mono _ _ _ | exact LeO.refl _ | exact LeO.none _ | refine LeO.ite ?_ ?_ | refine LeO.bind ?_ (fun _ => ?_)) | exact ih0 _ _ _ _ | exact laws_sameInts.mono _ _ _ | exact LeO.none _ | refine LeO.ite ?_ ?_ | refine LeO.bind ?_ (fun _ => ?_))
theorem laws_sameRows.mono : ∀ a0 a1 k, LeO (laws_sameRows.f k a0 a1) (laws_sameRows.f (k + 1) a0 a1) := by
 intro a0 a1 k
 have ih0 := laws_sameRows.mono_l k
 unfold laws_sameRows.f
 repeat' (first | (with_reducible first | exact ih0 _ _ _ _ | exact laws_sameInts.mono _ _ _ | exact LeO.refl _ | exact LeO.none _ | refine LeO.ite ?_ ?_ | refine LeO.bind ?_ (fun _ => ?_)) | exact ih0 _ _ _ _ | exact laws_sameInts.mono _ _ _ | exact LeO.none _ | refine LeO.ite ?_ ?_ | refine LeO.bind ?_ (fun _ => ?_))
set_option maxHeartbeats 8000000 in
set_option maxRecDepth 100000 in
theorem laws_sameRows.calls (k : Nat) (A0 : Option Addr) (c0 : Nat) (l0 : List (List Int)) (A1 : Option Addr) (c1 : Nat) (l1 : List (List Int)) (r : Bool) (w : World) (hr0 : Kd.C (Kd.slice 3 (Kd.int .i64)) w A0 l0.length l0) (hc0 : l0.length ≤ c0) (hr1 : Kd.C (Kd.slice 3 (Kd.int .i64)) w A1 l1.length l1) (hc1 : l1.length ≤ c1) (h : laws_sameRows.f k l0 l1 = some r) :
  Calls Try.prog 47 #[.slice A0 l0.length c0, .slice A1 l1.length c1] w fun e w' => e = .returned (.bool r) ∧ Drawn0 w w' := by
 have HR0 := Aside0.mk hr0; have HC0 := Aside0.mk hc0; clear hr0 hc0; have HR1 := Aside0.mk hr1; have HC1 := Aside0.mk hc1; clear hr1 hc1
 have H : (if (l0.length : Int) = (l1.length : Int) then (laws_sameRows.l0 k l0 l1 (l0.length : Int) 0) else (some false)) = some r := h
 clear h
 by_cases c3 : (l0.length : Int) = (l1.length : Int)
 ·rw [if_pos c3] at H
  have c3b0 : ((l0.length : Int) == (l1.length : Int)) = true := beq_iff_eq.mpr c3
  have c3b1 : ((l0.length : Int) != (l1.length : Int)) = false := bne_eq_false_iff_eq.mpr c3
  have c3b2 : (l0.length == l1.length) = true := by first | simpa using c3 | (simp at c3 ⊢; omega)
  clear c3
  have H' := Aside0.mk H
  clear H
  go_enter Try.func47, Try.ntmps47
  go_wp2
  repeat (go_quiet (fail); try go_wp2)
  go_loopg [13] k (fun kq v13 w' => ∃ (x13_1 : Int), v13 = .int .i64 x13_1 ∧ Aside0 (laws_sameRows.l0 kq l0 l1 (l0.length : Int) x13_1 = some r) ∧ Aside0 (kq ≤ k) ∧ Drawn0 w w')
  case atStart => exact ⟨(0), er, H', ⟨Nat.le_refl _⟩, drw⟩
  case round =>
   clear H'
   (try clear c1); (try clear c3b0); (try clear c3b1); (try clear c3b2)
   obtain ⟨x13_1, rfl, HA, HK1, ⟨m1, rfl⟩⟩ := hrel
   cases gk with
   | zero => exact absurd HA.out (by simp [laws_sameRows.l0])
   | succ k1 =>
    have H := HA.out; clear HA
    simp only [laws_sameRows.l0] at H
    by_cases c4 : x13_1 < (l0.length : Int)
    ·rw [if_pos c4] at H
     have c4b0 : decide (x13_1 < (l0.length : Int)) = true := decide_eq_true c4
     clear c4; replace H := ifS H; obtain ⟨c5, H⟩ := H; have c5b0 := decide_eq_true c5; clear c5; replace H := ifS H; obtain ⟨c6, H⟩ := H; have c6b0 := decide_eq_true c6; clear c6; replace H := ifS H; obtain ⟨c7, H⟩ := H; have c7b0 := decide_eq_true c7; clear c7; replace H := bS H; obtain ⟨t484, A8, H⟩ := H
     replace H : (if t484 = true then (laws_sameRows.l0 k1 l0 l1 (l0.length : Int) (wrap64 (x13_1 + 1))) else (some false)) = some r := H
     by_cases c9 : t484 = true
     ·subst c9
      have H1 : (laws_sameRows.l0 k1 l0 l1 (l0.length : Int) (wrap64 (x13_1 + 1))) = some r := by rw [if_pos rfl] at H; exact H
      clear H
      have H := H1
      clear H1
      have H' := Aside0.mk H
      clear H
      have p482 : 0 ≤ (x13_1 : Int) := da
      have q482 : x13_1 < (l0.length : Int) := da
      obtain ⟨ad482, A482_0, c482_0, e482, hx482_0, hl482_0, hi482_0⟩ := at_L1 HR0.out x13_1 p482 q482
      cases e482
      have HR482_0 := Aside0.mk hi482_0; have HC482_0 := Aside0.mk hl482_0; clear hi482_0 hl482_0; replace p482 := eq_true p482; replace q482 := eq_true q482
      have p483 : 0 ≤ (x13_1 : Int) := da
      have q483 : x13_1 < (l1.length : Int) := da
      obtain ⟨ad483, A483_0, c483_0, e483, hx483_0, hl483_0, hi483_0⟩ := at_L1 HR1.out x13_1 p483 q483
      cases e483
      have HR483_0 := Aside0.mk hi483_0; have HC483_0 := Aside0.mk hl483_0; clear hi483_0 hl483_0; replace p483 := eq_true p483; replace q483 := eq_true q483
      go_wp2_with (first | (go_at_call 48; (with_reducible refine (laws_sameInts.calls k1 _ _ (rd_L1 l0 x13_1) _ _ (rd_L1 l1 x13_1) true _ ?side1 ?side2 ?side3 ?side4 A8.out).mono ?_); (case side1 => exact cd HR482_0.out); (case side2 => exact HC482_0.out); (case side3 => exact cd HR483_0.out); (case side4 => exact HC483_0.out); rintro e w' ⟨rfl, ⟨nd, rfl⟩⟩; (try first | exact ⟨rfl, _, World.drewN_drewN _ _ _⟩ | exact ⟨rfl, _, Eq.trans (World.drewN_drewN _ _ _) (congrArg (World.drewN _) (Nat.add_assoc _ _ _))⟩)))
      repeat (go_quiet (first | (go_at_call 48; (with_reducible refine (laws_sameInts.calls k1 _ _ (rd_L1 l0 x13_1) _ _ (rd_L1 l1 x13_1) true _ ?side1 ?side2 ?side3 ?side4 A8.out).mono ?_); (case side1 => exact cd HR482_0.out); (case side2 => exact HC482_0.out); (case side3 => exact cd HR483_0.out); (case side4 => exact HC483_0.out); rintro e w' ⟨rfl, ⟨nd, rfl⟩⟩; (try first | exact ⟨rfl, _, World.drewN_drewN _ _ _⟩ | exact ⟨rfl, _, Eq.trans (World.drewN_drewN _ _ _) (congrArg (World.drewN _) (Nat.add_assoc _ _ _))⟩))); try go_wp2_with (first | (go_at_call 48; (with_reducible refine (laws_sameInts.calls k1 _ _ (rd_L1 l0 x13_1) _ _ (rd_L1 l1 x13_1) true _ ?side1 ?side2 ?side3 ?side4 A8.out).mono ?_); (case side1 => exact cd HR482_0.out); (case side2 => exact HC482_0.out); (case side3 => exact cd HR483_0.out); (case side4 => exact HC483_0.out); rintro e w' ⟨rfl, ⟨nd, rfl⟩⟩; (try first | exact ⟨rfl, _, World.drewN_drewN _ _ _⟩ | exact ⟨rfl, _, Eq.trans (World.drewN_drewN _ _ _) (congrArg (World.drewN _) (Nat.add_assoc _ _ _))⟩))))
      go_roundg k1
      case measure => have := HK1.out; omega
      case rel => exact ⟨(wrap64 (x13_1 + 1)), er, H', ⟨by have := HK1.out; omega⟩, drw⟩
     ·replace c9 := Bool.eq_false_iff.mpr c9
      subst c9
      have H1 : (some false) = some r := by rw [if_neg (show ¬ (false = true) by decide)] at H; exact H
      clear H
      have H := H1
      clear H1
      obtain rfl := Option.some.inj H
      have p482 : 0 ≤ (x13_1 : Int) := da
      have q482 : x13_1 < (l0.length : Int) := da
      obtain ⟨ad482, A482_0, c482_0, e482, hx482_0, hl482_0, hi482_0⟩ := at_L1 HR0.out x13_1 p482 q482
      cases e482
      have HR482_0 := Aside0.mk hi482_0; have HC482_0 := Aside0.mk hl482_0; clear hi482_0 hl482_0; replace p482 := eq_true p482; replace q482 := eq_true q482
      have p483 : 0 ≤ (x13_1 : Int) := da
      have q483 : x13_1 < (l1.length : Int) := da
      obtain ⟨ad483, A483_0, c483_0, e483, hx483_0, hl483_0, hi483_0⟩ := at_L1 HR1.out x13_1 p483 q483
      cases e483
      have HR483_0 := Aside0.mk hi483_0; have HC483_0 := Aside0.mk hl483_0; clear hi483_0 hl483_0; replace p483 := eq_true p483; replace q483 := eq_true q483
      go_wp2_with (first | (go_at_call 48; (with_reducible refine (laws_sameInts.calls k1 _ _ (rd_L1 l0 x13_1) _ _ (rd_L1 l1 x13_1) false _ ?side1 ?side2 ?side3 ?side4 A8.out).mono ?_); (case side1 => exact cd HR482_0.out); (case side2 => exact HC482_0.out); (case side3 => exact cd HR483_0.out); (case side4 => exact HC483_0.out); rintro e w' ⟨rfl, ⟨nd, rfl⟩⟩; (try first | exact ⟨rfl, _, World.drewN_drewN _ _ _⟩ | exact ⟨rfl, _, Eq.trans (World.drewN_drewN _ _ _) (congrArg (World.drewN _) (Nat.add_assoc _ _ _))⟩)))
      repeat (go_quiet (first | (go_at_call 48; (with_reducible refine (laws_sameInts.calls k1 _ _ (rd_L1 l0 x13_1) _ _ (rd_L1 l1 x13_1) false _ ?side1 ?side2 ?side3 ?side4 A8.out).mono ?_); (case side1 => exact cd HR482_0.out); (case side2 => exact HC482_0.out); (case side3 => exact cd HR483_0.out); (case side4 => exact HC483_0.out); rintro e w' ⟨rfl, ⟨nd, rfl⟩⟩; (try first | exact ⟨rfl, _, World.drewN_drewN _ _ _⟩ | exact ⟨rfl, _, Eq.trans (World.drewN_drewN _ _ _) (congrArg (World.drewN _) (Nat.add_assoc _ _ _))⟩))); try go_wp2_with (first | (go_at_call 48; (with_reducible refine (laws_sameInts.calls k1 _ _ (rd_L1 l0 x13_1) _ _ (rd_L1 l1 x13_1) false _ ?side1 ?side2 ?side3 ?side4 A8.out).mono ?_); (case side1 => exact cd HR482_0.out); (case side2 => exact HC482_0.out); (case side3 => exact cd HR483_0.out); (case side4 => exact HC483_0.out); rintro e w' ⟨rfl, ⟨nd, rfl⟩⟩; (try first | exact ⟨rfl, _, World.drewN_drewN _ _ _⟩ | exact ⟨rfl, _, Eq.trans (World.drewN_drewN _ _ _) (congrArg (World.drewN _) (Nat.add_assoc _ _ _))⟩))))
      go_ret
      exact ⟨er, drw⟩
    ·rw [if_neg c4] at H
     have c4b0 : decide (x13_1 < (l0.length : Int)) = false := decide_eq_false c4
     clear c4
     obtain rfl := Option.some.inj H
     go_wp2
     repeat (go_quiet (fail); try go_wp2)
     go_ret
     exact ⟨er, drw⟩
 ·rw [if_neg c3] at H
  have c3b0 : ((l0.length : Int) == (l1.length : Int)) = false := beq_eq_false_iff_ne.mpr c3
  have c3b1 : ((l0.length : Int) != (l1.length : Int)) = true := bne_iff_ne.mpr c3
  have c3b2 : (l0.length == l1.length) = false := by first | simpa using c3 | (simp at c3 ⊢; omega)
  obtain rfl := Option.some.inj H
  go_enter Try.func47, Try.ntmps47
  go_wp2
  repeat (go_quiet (fail); try go_wp2)
  go_ret
  exact ⟨er, drw⟩

/-! ### laws_sameTable: function 66 -/
def laws_sameTable.f (k : Nat) (a0_0 : Int) (l0_1 : List (List Int)) (l0_2 : List Int) (a1_0 : Int) (l1_1 : List (List Int)) (l1_2 : List Int) : Option (Bool) := if a0_0 = a1_0 then ((laws_sameRows.f k l0_1 l1_1).bind fun t487 => (if t487 = true then ((laws_sameInts.f k l0_2 l1_2).bind fun t488 => (some t488)) else (some false))) else (some false)
theorem laws_sameTable.mono : ∀ a0 a1 a2 a3 a4 a5 k, LeO (laws_sameTable.f k a0 a1 a2 a3 a4 a5) (laws_sameTable.f (k + 1) a0 a1 a2 a3 a4 a5) := by
 intro a0 a1 a2 a3 a4 a5 k
 unfold laws_sameTable.f
 repeat' (first | (with_reducible first | exact laws_sameInts.mono _ _ _ | exact laws_sameRows.mono _ _ _ | exact LeO.refl _ | exact LeO.none _ | refine LeO.ite ?_ ?_ | refine LeO.bind ?_ (fun _ => ?_)) | exact laws_sameInts.mono _ _ _ | exact laws_sameRows.mono _ _ _ | exact LeO.none _ | refine LeO.ite ?_ ?_ | refine LeO.bind ?_ (fun _ => ?_))
set_option maxHeartbeats 8000000 in
set_option maxRecDepth 100000 in
theorem laws_sameTable.calls (k : Nat) (a0_0 : Int) (A0_1 : Option Addr) (c0_1 : Nat) (l0_1 : List (List Int)) (A0_2 : Option Addr) (c0_2 : Nat) (l0_2 : List Int) (a1_0 : Int) (A1_1 : Option Addr) (c1_1 : Nat) (l1_1 : List (List Int)) (A1_2 : Option Addr) (c1_2 : Nat) (l1_2 : List Int) (r : Bool) (w : World) (hr0_1 : Kd.C (Kd.slice 3 (Kd.int .i64)) w A0_1 l0_1.length l0_1) (hc0_1 : l0_1.length ≤ c0_1) (hr0_2 : Kd.C (Kd.int .i64) w A0_2 l0_2.length l0_2) (hc0_2 : l0_2.length ≤ c0_2) (hr1_1 : Kd.C (Kd.slice 3 (Kd.int .i64)) w A1_1 l1_1.length l1_1) (hc1_1 : l1_1.length ≤ c1_1) (hr1_2 : Kd.C (Kd.int .i64) w A1_2 l1_2.length l1_2) (hc1_2 : l1_2.length ≤ c1_2) (h : laws_sameTable.f k a0_0 l0_1 l0_2 a1_0 l1_1 l1_2 = some r) :
  Calls Try.prog 66 #[.agg #[.int .i64 a0_0, .slice A0_1 l0_1.length c0_1, .slice A0_2 l0_2.length c0_2], .agg #[.int .i64 a1_0, .slice A1_1 l1_1.length c1_1, .slice A1_2 l1_2.length c1_2]] w fun e w' => e = .returned (.bool r) ∧ Below w.heap.size w w' := by
 have hu38 := Try.underlying38
 have HR0_1 := Aside0.mk hr0_1; have HC0_1 := Aside0.mk hc0_1; clear hr0_1 hc0_1; have HR0_2 := Aside0.mk hr0_2; have HC0_2 := Aside0.mk hc0_2; clear hr0_2 hc0_2; have HR1_1 := Aside0.mk hr1_1; have HC1_1 := Aside0.mk hc1_1; clear hr1_1 hc1_1; have HR1_2 := Aside0.mk hr1_2; have HC1_2 := Aside0.mk hc1_2; clear hr1_2 hc1_2
 have HB := Aside0.mk (Below.refl w.heap.size w)
 have H : (if a0_0 = a1_0 then ((laws_sameRows.f k l0_1 l1_1).bind fun t487 => (if t487 = true then ((laws_sameInts.f k l0_2 l1_2).bind fun t488 => (some t488)) else (some false))) else (some false)) = some r := h
 clear h
 by_cases c3 : a0_0 = a1_0
 ·rw [if_pos c3] at H
  have c3b0 : (a0_0 == a1_0) = true := beq_iff_eq.mpr c3
  have c3b1 : (a0_0 != a1_0) = false := bne_eq_false_iff_eq.mpr c3
  clear c3; replace H := bS H; obtain ⟨t487, A4, H⟩ := H
  replace H : (if t487 = true then ((laws_sameInts.f k l0_2 l1_2).bind fun t488 => (some t488)) else (some false)) = some r := H
  by_cases c5 : t487 = true
  ·subst c5
   have H1 : ((laws_sameInts.f k l0_2 l1_2).bind fun t488 => (some t488)) = some r := by rw [if_pos rfl] at H; exact H
   clear H
   have H := H1
   clear H1; replace H := bS H; obtain ⟨t488, A6, H⟩ := H
   replace H : (some t488) = some r := H
   obtain rfl := Option.some.inj H
   go_enter Try.func66, Try.ntmps66
   go_wp2_with (first | ((with_reducible refine gate_dst (N := 2) rfl ?_); refine boxev 2 #[.int .i64 a0_0, .slice A0_1 l0_1.length c0_1, .slice A0_2 l0_2.length c0_2] 38 ?_; intro gb485 hg w7 hbox hb; have BK485 := ak (hbox); have GW485 := ak (hgl hg (belowd HB)); have GE485 := ak (hgl hg (belowd HB)); replace HB := ak (below_step (belowd HB) hb); clear hb hbox hg) | ((with_reducible refine gate_dst (N := 3) rfl ?_); refine boxev 3 #[.int .i64 a1_0, .slice A1_1 l1_1.length c1_1, .slice A1_2 l1_2.length c1_2] 38 ?_; intro gb486 hg w8 hbox hb; have BK486 := ak (hbox); have GW486 := ak (hgl hg (belowg1 HB GE485)); have GE486 := ak (hgl hg (belowg1 HB GE485)); replace HB := ak (below_step (belowg1 HB GE485) hb); have NB485_486 := ak ((by rw [hg]; exact Nat.ne_of_lt (blk_lt (blkd BK485)) : gb485 ≠ gb486)); have NB486_485 := ak ((by rw [hg]; exact Nat.ne_of_gt (blk_lt (blkd BK485)) : gb486 ≠ gb485)); replace BK485 := ak (blk_below (blkd BK485) hb); clear hb hbox hg; have hnb9 := NB485_486.out; have hnc9 := NB486_485.out; obtain ⟨hcz10_0, hcz10_1, hcz10_2, hfz10_0, hfz10_1, hfz10_2⟩ := box3 BK485; obtain ⟨hcz11_0, hcz11_1, hcz11_2, hfz11_0, hfz11_1, hfz11_2⟩ := box3 BK486) | (go_at_call 47; (with_reducible refine (laws_sameRows.calls k _ _ l0_1 _ _ l1_1 true _ ?side1 ?side2 ?side3 ?side4 A4.out).mono ?_); (case side1 => exact cd (Kd.C_below HR0_1.out HB.out)); (case side2 => exact HC0_1.out); (case side3 => exact cd (Kd.C_below HR1_1.out HB.out)); (case side4 => exact HC1_1.out); rintro e w' ⟨rfl, ⟨nd, rfl⟩⟩) | (go_at_call 48; (with_reducible refine (laws_sameInts.calls k _ _ l0_2 _ _ l1_2 t488 _ ?side1 ?side2 ?side3 ?side4 A6.out).mono ?_); (case side1 => exact cd (Kd.C_below HR0_2.out (belowg2 HB GE485 GE486))); (case side2 => exact HC0_2.out); (case side3 => exact cd (Kd.C_below HR1_2.out (belowg2 HB GE485 GE486))); (case side4 => exact HC1_2.out); rintro e w' ⟨rfl, ⟨nd, rfl⟩⟩))
   go_ret
   exact ⟨er2, belowg2 HB GE485 GE486⟩
  ·replace c5 := Bool.eq_false_iff.mpr c5
   subst c5
   have H1 : (some false) = some r := by rw [if_neg (show ¬ (false = true) by decide)] at H; exact H
   clear H
   have H := H1
   clear H1
   obtain rfl := Option.some.inj H
   go_enter Try.func66, Try.ntmps66
   go_wp2_with (first | ((with_reducible refine gate_dst (N := 2) rfl ?_); refine boxev 2 #[.int .i64 a0_0, .slice A0_1 l0_1.length c0_1, .slice A0_2 l0_2.length c0_2] 38 ?_; intro gb485 hg w12 hbox hb; have BK485 := ak (hbox); have GW485 := ak (hgl hg (belowd HB)); have GE485 := ak (hgl hg (belowd HB)); replace HB := ak (below_step (belowd HB) hb); clear hb hbox hg) | ((with_reducible refine gate_dst (N := 3) rfl ?_); refine boxev 3 #[.int .i64 a1_0, .slice A1_1 l1_1.length c1_1, .slice A1_2 l1_2.length c1_2] 38 ?_; intro gb486 hg w13 hbox hb; have BK486 := ak (hbox); have GW486 := ak (hgl hg (belowg1 HB GE485)); have GE486 := ak (hgl hg (belowg1 HB GE485)); replace HB := ak (below_step (belowg1 HB GE485) hb); have NB485_486 := ak ((by rw [hg]; exact Nat.ne_of_lt (blk_lt (blkd BK485)) : gb485 ≠ gb486)); have NB486_485 := ak ((by rw [hg]; exact Nat.ne_of_gt (blk_lt (blkd BK485)) : gb486 ≠ gb485)); replace BK485 := ak (blk_below (blkd BK485) hb); clear hb hbox hg; have hnb14 := NB485_486.out; have hnc14 := NB486_485.out; obtain ⟨hcz15_0, hcz15_1, hcz15_2, hfz15_0, hfz15_1, hfz15_2⟩ := box3 BK485; obtain ⟨hcz16_0, hcz16_1, hcz16_2, hfz16_0, hfz16_1, hfz16_2⟩ := box3 BK486) | (go_at_call 47; (with_reducible refine (laws_sameRows.calls k _ _ l0_1 _ _ l1_1 false _ ?side1 ?side2 ?side3 ?side4 A4.out).mono ?_); (case side1 => exact cd (Kd.C_below HR0_1.out HB.out)); (case side2 => exact HC0_1.out); (case side3 => exact cd (Kd.C_below HR1_1.out HB.out)); (case side4 => exact HC1_1.out); rintro e w' ⟨rfl, ⟨nd, rfl⟩⟩))
   go_ret
   exact ⟨er2, belowg2 HB GE485 GE486⟩
 ·rw [if_neg c3] at H
  have c3b0 : (a0_0 == a1_0) = false := beq_eq_false_iff_ne.mpr c3
  have c3b1 : (a0_0 != a1_0) = true := bne_iff_ne.mpr c3
  obtain rfl := Option.some.inj H
  go_enter Try.func66, Try.ntmps66
  go_wp2_with (first | ((with_reducible refine gate_dst (N := 2) rfl ?_); refine boxev 2 #[.int .i64 a0_0, .slice A0_1 l0_1.length c0_1, .slice A0_2 l0_2.length c0_2] 38 ?_; intro gb485 hg w17 hbox hb; have BK485 := ak (hbox); have GW485 := ak (hgl hg (belowd HB)); have GE485 := ak (hgl hg (belowd HB)); replace HB := ak (below_step (belowd HB) hb); clear hb hbox hg) | ((with_reducible refine gate_dst (N := 3) rfl ?_); refine boxev 3 #[.int .i64 a1_0, .slice A1_1 l1_1.length c1_1, .slice A1_2 l1_2.length c1_2] 38 ?_; intro gb486 hg w18 hbox hb; have BK486 := ak (hbox); have GW486 := ak (hgl hg (belowg1 HB GE485)); have GE486 := ak (hgl hg (belowg1 HB GE485)); replace HB := ak (below_step (belowg1 HB GE485) hb); have NB485_486 := ak ((by rw [hg]; exact Nat.ne_of_lt (blk_lt (blkd BK485)) : gb485 ≠ gb486)); have NB486_485 := ak ((by rw [hg]; exact Nat.ne_of_gt (blk_lt (blkd BK485)) : gb486 ≠ gb485)); replace BK485 := ak (blk_below (blkd BK485) hb); clear hb hbox hg; have hnb19 := NB485_486.out; have hnc19 := NB486_485.out; obtain ⟨hcz20_0, hcz20_1, hcz20_2, hfz20_0, hfz20_1, hfz20_2⟩ := box3 BK485; obtain ⟨hcz21_0, hcz21_1, hcz21_2, hfz21_0, hfz21_1, hfz21_2⟩ := box3 BK486))
  go_ret
  exact ⟨er2, belowg2 HB GE485 GE486⟩

end Go.Proofs.Ytpibdgknmjjolaa.QFnTable
