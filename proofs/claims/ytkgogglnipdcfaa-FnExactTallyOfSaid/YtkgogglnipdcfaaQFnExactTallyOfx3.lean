-- printed by this session's own program (wip/tools/pp.py: the kit's print.py with changes); Lean checks it
import Derived.Test.YtkgogglnipdcfaaQFnExactTallyOfx0
namespace Go.Proofs.Ytkgogglnipdcfaa.QFnExactTallyOf
open Go.RowKit Go.Proofs.YtkgogglnipdcfaaW.PrintWords Go.Proofs.YtkgogglnipdcfaaW.PrintLast Go.Proofs.YtkgogglnipdcfaaW.PrintMore
attribute [local go_sem] max2_int min2_int max_two min_two max_three min_three max_four min_four strLss strGtr strLeq strGeq   -- for this text's walks alone
set_option linter.unusedVariables false
set_option linter.unusedSimpArgs false

/-! ### laws_szStatementS: function 47 -/
def laws_szStatementS.f (l0 : List (S176)) (a1 : Int) : Option (Int) := if (wrap64 (a1 - (l0.length : Int))) < 0 then (some (-1)) else (some (wrap64 (a1 - (l0.length : Int))))
set_option maxHeartbeats 8000000 in
set_option maxRecDepth 100000 in
theorem laws_szStatementS.calls (A0 : Option Addr) (c0 : Nat) (l0 : List (S176)) (a1 : Int) (r : Int) (w : World) (hr0 : Kd.C k176 w A0 l0.length l0) (hc0 : l0.length ≤ c0) (h : laws_szStatementS.f l0 a1 = some r) :
  Calls Try.prog 47 #[.slice A0 l0.length c0, .int .i64 a1] w fun e w' => e = .returned (.int .i64 r) ∧ Drawn0 w w' := by
 have HR0 := Aside0.mk hr0; have HC0 := Aside0.mk hc0; clear hr0 hc0
 have H : (if (wrap64 (a1 - (l0.length : Int))) < 0 then (some (-1)) else (some (wrap64 (a1 - (l0.length : Int))))) = some r := h
 clear h
 by_cases c3 : (wrap64 (a1 - (l0.length : Int))) < 0
 ·rw [if_pos c3] at H
  have c3b0 : decide ((wrap64 (a1 - (l0.length : Int))) < 0) = true := decide_eq_true c3
  clear c3
  obtain rfl := Option.some.inj H
  go_enter Try.func47, Try.ntmps47
  go_wp2
  go_ret
  exact ⟨er, drw⟩
 ·rw [if_neg c3] at H
  have c3b0 : decide ((wrap64 (a1 - (l0.length : Int))) < 0) = false := decide_eq_false c3
  clear c3
  obtain rfl := Option.some.inj H
  go_enter Try.func47, Try.ntmps47
  go_wp2
  go_ret
  exact ⟨er, drw⟩

/-! ### laws_toClaim: function 157 -/
def laws_toClaim.f (a0_0 : Int) (a0_1 : Int) (a0_2 : Int) : Option (Int × Int × Int) := some (a0_0, a0_1, a0_2)
set_option maxHeartbeats 8000000 in
set_option maxRecDepth 100000 in
theorem laws_toClaim.calls (a0_0 : Int) (a0_1 : Int) (a0_2 : Int) (r1 : Int) (r2 : Int) (r3 : Int) (w : World) (h : laws_toClaim.f a0_0 a0_1 a0_2 = some (r1, r2, r3)) :
  Calls Try.prog 157 #[.agg #[.int .i64 a0_0, .int .i64 a0_1, .int .i64 a0_2]] w fun e w' => e = .returned (.agg #[.int .i64 r1, .int .i64 r2, .int .i64 r3]) ∧ Below w.heap.size w w' := by
 have hu174 := Try.underlying174
 have hu85 := Try.underlying85
 have HB := Aside0.mk (Below.refl w.heap.size w)
 have H : (some (a0_0, a0_1, a0_2)) = some (r1, r2, r3) := h
 clear h
 simp only [Option.some.injEq, Prod.mk.injEq] at H
 obtain ⟨rfl, rfl, rfl⟩ := H
 go_enter Try.func157, Try.ntmps157
 go_wp2_with (first | ((with_reducible refine gate_dst (N := 1) rfl ?_); refine boxev 1 #[.int .i64 a0_0, .int .i64 a0_1, .int .i64 a0_2] 174 ?_; intro gb101 hg w2 hbox hb; have BK101 := ak (hbox); have GW101 := ak (hgl hg (belowd HB)); have GE101 := ak (hgl hg (belowd HB)); replace HB := ak (below_step (belowd HB) hb); clear hb hbox hg) | ((with_reducible refine gate_dst (N := 2) rfl ?_); refine boxev 2 #[.int .i64 0, .int .i64 0, .int .i64 0] 85 ?_; intro gb102 hg w3 hbox hb; have BK102 := ak (hbox); have GW102 := ak (hgl hg (belowg1 HB GE101)); have GE102 := ak (hgl hg (belowg1 HB GE101)); replace HB := ak (below_step (belowg1 HB GE101) hb); have NB101_102 := ak ((by rw [hg]; exact Nat.ne_of_lt (blk_lt (blkd BK101)) : gb101 ≠ gb102)); have NB102_101 := ak ((by rw [hg]; exact Nat.ne_of_gt (blk_lt (blkd BK101)) : gb102 ≠ gb101)); replace BK101 := ak (blk_below (blkd BK101) hb); clear hb hbox hg) | ((with_reducible refine gate_dst (N := 3) rfl ?_); refine boxev 3 #[.int .i64 0, .int .i64 0, .int .i64 0] 85 ?_; intro gb103 hg w4 hbox hb; have BK103 := ak (hbox); have GW103 := ak (hgl hg (belowg2 HB GE101 GE102)); have GE103 := ak (hgl hg (belowg2 HB GE101 GE102)); replace HB := ak (below_step (belowg2 HB GE101 GE102) hb); have NB101_103 := ak ((by rw [hg]; exact Nat.ne_of_lt (blk_lt (blkd BK101)) : gb101 ≠ gb103)); have NB103_101 := ak ((by rw [hg]; exact Nat.ne_of_gt (blk_lt (blkd BK101)) : gb103 ≠ gb101)); replace BK101 := ak (blk_below (blkd BK101) hb); have NB102_103 := ak ((by rw [hg]; exact Nat.ne_of_lt (blk_lt (blkd BK102)) : gb102 ≠ gb103)); have NB103_102 := ak ((by rw [hg]; exact Nat.ne_of_gt (blk_lt (blkd BK102)) : gb103 ≠ gb102)); replace BK102 := ak (blk_below (blkd BK102) hb); clear hb hbox hg; have hnb5 := NB101_102.out; have hnc5 := NB102_101.out; have hnb6 := NB101_103.out; have hnc6 := NB103_101.out; obtain ⟨hcz7_0, hcz7_1, hcz7_2, hfz7_0, hfz7_1, hfz7_2⟩ := box3 BK101; have hnb8 := NB103_102.out; have hnc8 := NB102_103.out; obtain ⟨hcz9_0, hcz9_1, hcz9_2, hfz9_0, hfz9_1, hfz9_2⟩ := box3 BK103; obtain ⟨hcz10_0, hcz10_1, hcz10_2, hfz10_0, hfz10_1, hfz10_2⟩ := box3 BK102))
 refine bodyPost_ret (results_cell_row rfl _ _ gb102 85 #[.int .i64 a0_0, .int .i64 a0_1, .int .i64 a0_2] (0, 0) _ rfl (by (with_reducible repeat (first | refine blk_drewN ?_ _ | refine blk_drew ?_ | refine blk_alloc ?_ _)); refine blk_put (cs := #[.int .i64 a0_0, .int .i64 a0_1, .int .i64 0]) ?_ 2 _ rfl; (with_reducible repeat (first | refine blk_drewN ?_ _ | refine blk_drew ?_ | refine blk_alloc ?_ _)); refine blk_put (cs := #[.int .i64 a0_0, .int .i64 0, .int .i64 0]) ?_ 1 _ rfl; (with_reducible repeat (first | refine blk_drewN ?_ _ | refine blk_drew ?_ | refine blk_alloc ?_ _)); refine blk_put (cs := #[.int .i64 0, .int .i64 0, .int .i64 0]) ?_ 0 _ rfl; (with_reducible repeat (first | refine blk_drewN ?_ _ | refine blk_drew ?_ | refine blk_alloc ?_ _)); refine blk_far ?_ NB102_103.out _; (with_reducible repeat (first | refine blk_drewN ?_ _ | refine blk_drew ?_ | refine blk_alloc ?_ _)); refine blk_far ?_ NB102_103.out _; (with_reducible repeat (first | refine blk_drewN ?_ _ | refine blk_drew ?_ | refine blk_alloc ?_ _)); refine blk_far ?_ NB102_103.out _; (with_reducible repeat (first | refine blk_drewN ?_ _ | refine blk_drew ?_ | refine blk_alloc ?_ _)); exact BK102.out) Try.underlying85 rfl (by kernel_rfl)) rfl ?_
 exact ⟨er2, belowg3 HB GE101 GE102 GE103⟩

/-! ### laws_toStatement: function 137 -/
def laws_toStatement.f (a0_0 : Int) (a0_1 : Int) (a0_2 : Int) (a0_3 : Int) (a0_4 : Bool) : Option (Int × Int × Int × Int × Bool) := (laws_toClaim.f a0_1 a0_2 a0_3).bind fun bt107 => (some (a0_0, bt107.1, bt107.2.1, bt107.2.2, a0_4))
set_option maxHeartbeats 8000000 in
set_option maxRecDepth 100000 in
theorem laws_toStatement.calls (a0_0 : Int) (a0_1 : Int) (a0_2 : Int) (a0_3 : Int) (a0_4 : Bool) (r1 : Int) (r2 : Int) (r3 : Int) (r4 : Int) (r5 : Bool) (w : World) (h : laws_toStatement.f a0_0 a0_1 a0_2 a0_3 a0_4 = some (r1, r2, r3, r4, r5)) :
  Calls Try.prog 137 #[.agg #[.int .i64 a0_0, .int .i64 a0_1, .int .i64 a0_2, .int .i64 a0_3, .bool a0_4]] w fun e w' => e = .returned (.agg #[.int .i64 r1, .int .i64 r2, .int .i64 r3, .int .i64 r4, .bool r5]) ∧ Below w.heap.size w w' := by
 have hu176 := Try.underlying176
 have hu91 := Try.underlying91
 have hu174 := Try.underlying174
 have hu85 := Try.underlying85
 have HB := Aside0.mk (Below.refl w.heap.size w)
 have H : ((laws_toClaim.f a0_1 a0_2 a0_3).bind fun bt107 => (some (a0_0, bt107.1, bt107.2.1, bt107.2.2, a0_4))) = some (r1, r2, r3, r4, r5) := h
 clear h; replace H := bS H; obtain ⟨⟨t107, t108, t109⟩, A2, H⟩ := H
 replace H : (some (a0_0, t107, t108, t109, a0_4)) = some (r1, r2, r3, r4, r5) := H
 simp only [Option.some.injEq, Prod.mk.injEq] at H
 obtain ⟨rfl, rfl, rfl, rfl, rfl⟩ := H
 go_enter Try.func137, Try.ntmps137
 go_wp2_with (first | ((with_reducible refine gate_dst (N := 1) rfl ?_); refine boxev 1 #[.int .i64 a0_0, .int .i64 a0_1, .int .i64 a0_2, .int .i64 a0_3, .bool a0_4] 176 ?_; intro gb104 hg w3 hbox hb; have BK104 := ak (hbox); have GW104 := ak (hgl hg (belowd HB)); have GE104 := ak (hgl hg (belowd HB)); replace HB := ak (below_step (belowd HB) hb); clear hb hbox hg) | ((with_reducible refine gate_dst (N := 2) rfl ?_); refine boxev 2 #[.int .i64 0, .int .i64 0, .int .i64 0, .int .i64 0, .bool false] 91 ?_; intro gb105 hg w4 hbox hb; have BK105 := ak (hbox); have GW105 := ak (hgl hg (belowg1 HB GE104)); have GE105 := ak (hgl hg (belowg1 HB GE104)); replace HB := ak (below_step (belowg1 HB GE104) hb); have NB104_105 := ak ((by rw [hg]; exact Nat.ne_of_lt (blk_lt (blkd BK104)) : gb104 ≠ gb105)); have NB105_104 := ak ((by rw [hg]; exact Nat.ne_of_gt (blk_lt (blkd BK104)) : gb105 ≠ gb104)); replace BK104 := ak (blk_below (blkd BK104) hb); clear hb hbox hg) | ((with_reducible refine gate_dst (N := 3) rfl ?_); refine boxev 3 #[.int .i64 0, .int .i64 0, .int .i64 0, .int .i64 0, .bool false] 91 ?_; intro gb106 hg w5 hbox hb; have BK106 := ak (hbox); have GW106 := ak (hgl hg (belowg2 HB GE104 GE105)); have GE106 := ak (hgl hg (belowg2 HB GE104 GE105)); replace HB := ak (below_step (belowg2 HB GE104 GE105) hb); have NB104_106 := ak ((by rw [hg]; exact Nat.ne_of_lt (blk_lt (blkd BK104)) : gb104 ≠ gb106)); have NB106_104 := ak ((by rw [hg]; exact Nat.ne_of_gt (blk_lt (blkd BK104)) : gb106 ≠ gb104)); replace BK104 := ak (blk_below (blkd BK104) hb); have NB105_106 := ak ((by rw [hg]; exact Nat.ne_of_lt (blk_lt (blkd BK105)) : gb105 ≠ gb106)); have NB106_105 := ak ((by rw [hg]; exact Nat.ne_of_gt (blk_lt (blkd BK105)) : gb106 ≠ gb105)); replace BK105 := ak (blk_below (blkd BK105) hb); clear hb hbox hg; have hnb6 := NB104_105.out; have hnc6 := NB105_104.out; have hnb7 := NB104_106.out; have hnc7 := NB106_104.out; obtain ⟨hcz8_0, hcz8_1, hcz8_2, hcz8_3, hcz8_4, hfz8_0, hfz8_1, hfz8_2, hfz8_3, hfz8_4⟩ := box5 BK104; have hnb9 := NB106_105.out; have hnc9 := NB105_106.out; obtain ⟨hcz10_0, hcz10_1, hcz10_2, hcz10_3, hcz10_4, hfz10_0, hfz10_1, hfz10_2, hfz10_3, hfz10_4⟩ := box5 BK106) | ((with_reducible refine gate_callee (f := 157) rfl ?_); refine goesLa (some 9) rfl Try.func157 #[.agg #[.int .i64 a0_1, .int .i64 a0_2, .int .i64 a0_3]] rfl ?_; (with_reducible refine (laws_toClaim.calls a0_1 a0_2 a0_3 t107 t108 t109 _ A2.out).mono ?_); rintro e w11 ⟨rfl, hb⟩; refine ⟨_, rfl, ?_⟩; replace BK104 := ak (blk_below (g := gb104) (o := .cells #[.int .i64 a0_0, .int .i64 a0_1, .int .i64 a0_2, .int .i64 a0_3, .bool a0_4] 176 (0, 0)) (by (with_reducible repeat (first | refine blk_drewN ?_ _ | refine blk_drew ?_ | refine blk_alloc ?_ _)); refine blk_far ?_ NB104_106.out _; (with_reducible repeat (first | refine blk_drewN ?_ _ | refine blk_drew ?_ | refine blk_alloc ?_ _)); exact BK104.out) hb); replace BK105 := ak (blk_below (g := gb105) (o := .cells #[.int .i64 0, .int .i64 0, .int .i64 0, .int .i64 0, .bool false] 91 (0, 0)) (by (with_reducible repeat (first | refine blk_drewN ?_ _ | refine blk_drew ?_ | refine blk_alloc ?_ _)); refine blk_far ?_ NB105_106.out _; (with_reducible repeat (first | refine blk_drewN ?_ _ | refine blk_drew ?_ | refine blk_alloc ?_ _)); exact BK105.out) hb); replace BK106 := ak (blk_below (g := gb106) (o := .cells #[.int .i64 a0_0, .int .i64 0, .int .i64 0, .int .i64 0, .bool false] 91 (0, 0)) (by (with_reducible repeat (first | refine blk_drewN ?_ _ | refine blk_drew ?_ | refine blk_alloc ?_ _)); refine blk_put (cs := #[.int .i64 0, .int .i64 0, .int .i64 0, .int .i64 0, .bool false]) ?_ 0 _ rfl; (with_reducible repeat (first | refine blk_drewN ?_ _ | refine blk_drew ?_ | refine blk_alloc ?_ _)); exact BK106.out) hb); replace HB := ak (below_step (belowg3 HB GE104 GE105 GE106) hb); (try clear hb); obtain ⟨hcz12_0, hcz12_1, hcz12_2, hcz12_3, hcz12_4, hfz12_0, hfz12_1, hfz12_2, hfz12_3, hfz12_4⟩ := box5 BK106; obtain ⟨hcz13_0, hcz13_1, hcz13_2, hcz13_3, hcz13_4, hfz13_0, hfz13_1, hfz13_2, hfz13_3, hfz13_4⟩ := box5 BK104; obtain ⟨hcz14_0, hcz14_1, hcz14_2, hcz14_3, hcz14_4, hfz14_0, hfz14_1, hfz14_2, hfz14_3, hfz14_4⟩ := box5 BK105))
 refine bodyPost_ret (results_cell_row rfl _ _ gb105 91 #[.int .i64 a0_0, .int .i64 t107, .int .i64 t108, .int .i64 t109, .bool a0_4] (0, 0) _ rfl (by (with_reducible repeat (first | refine blk_drewN ?_ _ | refine blk_drew ?_ | refine blk_alloc ?_ _)); refine blk_put (cs := #[.int .i64 a0_0, .int .i64 t107, .int .i64 t108, .int .i64 t109, .bool false]) ?_ 4 _ rfl; (with_reducible repeat (first | refine blk_drewN ?_ _ | refine blk_drew ?_ | refine blk_alloc ?_ _)); refine blk_put (cs := #[.int .i64 a0_0, .int .i64 t107, .int .i64 t108, .int .i64 0, .bool false]) ?_ 3 _ rfl; (with_reducible repeat (first | refine blk_drewN ?_ _ | refine blk_drew ?_ | refine blk_alloc ?_ _)); refine blk_put (cs := #[.int .i64 a0_0, .int .i64 t107, .int .i64 0, .int .i64 0, .bool false]) ?_ 2 _ rfl; (with_reducible repeat (first | refine blk_drewN ?_ _ | refine blk_drew ?_ | refine blk_alloc ?_ _)); refine blk_put (cs := #[.int .i64 a0_0, .int .i64 0, .int .i64 0, .int .i64 0, .bool false]) ?_ 1 _ rfl; (with_reducible repeat (first | refine blk_drewN ?_ _ | refine blk_drew ?_ | refine blk_alloc ?_ _)); refine blk_put (cs := #[.int .i64 0, .int .i64 0, .int .i64 0, .int .i64 0, .bool false]) ?_ 0 _ rfl; (with_reducible repeat (first | refine blk_drewN ?_ _ | refine blk_drew ?_ | refine blk_alloc ?_ _)); refine blk_far ?_ NB105_106.out _; (with_reducible repeat (first | refine blk_drewN ?_ _ | refine blk_drew ?_ | refine blk_alloc ?_ _)); refine blk_far ?_ NB105_106.out _; (with_reducible repeat (first | refine blk_drewN ?_ _ | refine blk_drew ?_ | refine blk_alloc ?_ _)); refine blk_far ?_ NB105_106.out _; (with_reducible repeat (first | refine blk_drewN ?_ _ | refine blk_drew ?_ | refine blk_alloc ?_ _)); refine blk_far ?_ NB105_106.out _; (with_reducible repeat (first | refine blk_drewN ?_ _ | refine blk_drew ?_ | refine blk_alloc ?_ _)); exact BK105.out) Try.underlying91 rfl (by kernel_rfl)) rfl ?_
 exact ⟨er2, belowg3 HB GE104 GE105 GE106⟩

/-! ### laws_toStatementS: function 49 -/
def laws_toStatementS.l0 : Nat → List (S176) → List (S91) → Int → Option ((List (S91)))
  | 0, _, _, _ => none
  | k + 1, x0, x3, x4 => if x4 < (x0.length : Int) then (if 0 ≤ x4 then ((laws_toStatement.f ((rd_T176 x0 x4).f0) ((rd_T176 x0 x4).f1.f0) ((rd_T176 x0 x4).f1.f1) ((rd_T176 x0 x4).f1.f2) ((rd_T176 x0 x4).f2)).bind fun bt114 => (if x4 < (x3.length : Int) then (laws_toStatementS.l0 k x0 (x3.set (x4 : Int).toNat (⟨bt114.1, (⟨bt114.2.1, bt114.2.2.1, bt114.2.2.2.1⟩ : S85), bt114.2.2.2.2⟩ : S91)) (wrap64 (x4 + 1))) else (none))) else (none)) else (some x3)
def laws_toStatementS.f (k : Nat) (l0 : List (S176)) : Option ((List (S91))) := if 0 ≤ (l0.length : Int) then (if ((l0.length : Int) : Int).toNat ≤ 7036874417766 then (laws_toStatementS.l0 k l0 (List.replicate ((l0.length : Int) : Int).toNat z91) 0) else (none)) else (none)
theorem laws_toStatementS.mono_l : ∀ k, (∀ y0 y1 y2, LeO (laws_toStatementS.l0 k y0 y1 y2) (laws_toStatementS.l0 (k + 1) y0 y1 y2))
 | 0 => fun _ _ _ r h => by simp [laws_toStatementS.l0] at h
 | k + 1 => by
  have ih0 := laws_toStatementS.mono_l k
  ·intro y0 y1 y2
   unfold laws_toStatementS.l0
   repeat' (first | (with_reducible first | exact ih0 _ _ _ | exact LeO.refl _ | exact LeO.none _ | refine LeO.ite ?_ ?_ | refine LeO.bind ?_ (fun _ => ?_)) | exact ih0 _ _ _ | exact LeO.none _ | refine LeO.ite ?_ ?_ | refine LeO.bind ?_ (fun _ => ?_))
theorem laws_toStatementS.mono : ∀ a0 k, LeO (laws_toStatementS.f k a0) (laws_toStatementS.f (k + 1) a0) := by
 intro a0 k
 have ih0 := laws_toStatementS.mono_l k
 unfold laws_toStatementS.f
 repeat' (first | (with_reducible first | exact ih0 _ _ _ | exact LeO.refl _ | exact LeO.none _ | refine LeO.ite ?_ ?_ | refine LeO.bind ?_ (fun _ => ?_)) | exact ih0 _ _ _ | exact LeO.none _ | refine LeO.ite ?_ ?_ | refine LeO.bind ?_ (fun _ => ?_))
set_option maxHeartbeats 8000000 in
set_option maxRecDepth 100000 in
theorem laws_toStatementS.calls (k : Nat) (A0 : Option Addr) (c0 : Nat) (l0 : List (S176)) (r : List (S91)) (w : World) (hr0 : Kd.C k176 w A0 l0.length l0) (hc0 : l0.length ≤ c0) (h : laws_toStatementS.f k l0 = some r) :
  Calls Try.prog 49 #[.slice A0 l0.length c0] w fun e w' => ∃ v0_ : Value, e = .returned (v0_) ∧ Kd.R k91 91 w' w.heap.size (fun _ => True) v0_ r ∧ Below w.heap.size w w' := by
 have hu176 := Try.underlying176
 have hu91 := Try.underlying91
 have HR0 := Aside0.mk hr0; have HC0 := Aside0.mk hc0; clear hr0 hc0
 have HB := Aside0.mk (Below.refl w.heap.size w)
 have H : (if 0 ≤ (l0.length : Int) then (if ((l0.length : Int) : Int).toNat ≤ 7036874417766 then (laws_toStatementS.l0 k l0 (List.replicate ((l0.length : Int) : Int).toNat z91) 0) else (none)) else (none)) = some r := h
 clear h; replace H := ifS H; obtain ⟨c2, H⟩ := H; have c2b0 := eq_true c2
 have c2b1 : decide (0 ≤ (l0.length : Int)) = true := decide_eq_true c2
 clear c2; replace H := ifS H; obtain ⟨c3, H⟩ := H; have c3b0 := eq_true c3
 have c3b1 : decide (((l0.length : Int) : Int).toNat ≤ 7036874417766) = true := decide_eq_true c3
 clear c3
 obtain ⟨y110, hy_⟩ : ∃ y_ : List (S91), y_ = (List.replicate ((l0.length : Int) : Int).toNat z91) := ⟨_, rfl⟩
 replace H : (laws_toStatementS.l0 k l0 y110 0) = some r := yH
 have Ny110 := ak hy_; clear hy_
 have H' := Aside0.mk H
 clear H
 go_enter Try.func49, Try.ntmps49
 go_wp2_with (first | ((with_reducible refine gate_dst (N := 7) rfl ?_); refine Kd.R_make k91 _ 91 rfl (N := 7) rfl 73 _ _ rfl (l0.length : Int) rfl rfl Try.underlying73 (.agg #[(.int .i64 0), (.int .i64 0), (.int .i64 0), (.int .i64 0), (.bool false)]) 40 info91 rfl (by decide) (by omega) z91 (ok := fun _ => True) (okp := fun _ => True) (k91_mkM _ _ _ z91 ) (fun _ hk => hk) trivial (da) (Nat.le_trans (Nat.mul_le_mul_right _ (da : (l0.length : Int).toNat ≤ 7036874417766)) (by omega)) (Below.refl _ _) (Nat.le_refl _) ?_; intro v111 w4 ho5 hb hg_ hnew_; clear hg_ hnew_; (first | rw [← Ny110.out] at ho5 | (simp only [Int.reduceToNat] at ho5; rw [← Ny110.out] at ho5)); have HO112 := ak (Kd.R_lower ho5 (below_size (belowd HB))); replace HB := ak (below_step (belowd HB) hb); clear hb ho5))
 go_loopg [4] k (fun kq v4 w' => ∃ (x3_1 : List (S91)) (x4_1 : Int), v4 = .int .i64 x4_1 ∧ Aside0 (laws_toStatementS.l0 kq l0 x3_1 x4_1 = some r) ∧ Aside0 (kq ≤ k) ∧ Aside0 (Kd.R k91 91 w' w.heap.size (fun _ => True) v111 x3_1) ∧ Aside0 (Below w.heap.size w w'))
 case atStart => exact ⟨(y110), (0), er, H', ⟨Nat.le_refl _⟩, ⟨rdl HO112⟩, ⟨belowd HB⟩⟩
 case round =>
  clear H'
  (try clear c2b0); (try clear c2b1); (try clear c3b0); (try clear c3b1)
  obtain ⟨x3_1, x4_1, rfl, HA, HK1, HO_3, HB⟩ := hrel
  cases gk with
  | zero => exact absurd HA.out (by simp [laws_toStatementS.l0])
  | succ k1 =>
   have H := HA.out; clear HA
   simp only [laws_toStatementS.l0] at H
   by_cases c6 : x4_1 < (l0.length : Int)
   ·rw [if_pos c6] at H
    have c6b0 : decide (x4_1 < (l0.length : Int)) = true := decide_eq_true c6
    clear c6; replace H := ifS H; obtain ⟨c7, H⟩ := H; have c7b0 := decide_eq_true c7; clear c7; replace H := bS H; obtain ⟨⟨t114, t115, t116, t117, t118⟩, A8, H⟩ := H
    replace H : (if x4_1 < (x3_1.length : Int) then (laws_toStatementS.l0 k1 l0 (x3_1.set (x4_1 : Int).toNat (⟨t114, (⟨t115, t116, t117⟩ : S85), t118⟩ : S91)) (wrap64 (x4_1 + 1))) else (none)) = some r := H
    replace H := ifS H; obtain ⟨c9, H⟩ := H; have c9b0 := decide_eq_true c9; clear c9
    obtain ⟨y119, hy_⟩ : ∃ y_ : List (S91), y_ = (x3_1.set (x4_1 : Int).toNat (⟨t114, (⟨t115, t116, t117⟩ : S85), t118⟩ : S91)) := ⟨_, rfl⟩
    replace H : (laws_toStatementS.l0 k1 l0 y119 (wrap64 (x4_1 + 1))) = some r := yH
    have Ny119 := ak hy_; clear hy_
    have H' := Aside0.mk H
    clear H
    have p113 : 0 ≤ (x4_1 : Int) := da
    have q113 : x4_1 < (l0.length : Int) := da
    obtain ⟨ad113, e113, hx113_0, hx113_1, hx113_2, hx113_3, hx113_4⟩ := at_T176 HR0.out x4_1 p113 q113
    cases e113
    replace hx113_0 := (HB.out.cell (World.block_lt_of_cell? w _ hx113_0)).trans hx113_0
    replace hx113_1 := (HB.out.cell (World.block_lt_of_cell? w _ hx113_1)).trans hx113_1
    replace hx113_2 := (HB.out.cell (World.block_lt_of_cell? w _ hx113_2)).trans hx113_2
    replace hx113_3 := (HB.out.cell (World.block_lt_of_cell? w _ hx113_3)).trans hx113_3
    replace hx113_4 := (HB.out.cell (World.block_lt_of_cell? w _ hx113_4)).trans hx113_4
    replace p113 := eq_true p113; replace q113 := eq_true q113
    go_wp2_with (first | ((with_reducible refine gate_callee (f := 137) rfl ?_); refine goesLa (some 20) rfl Try.func137 #[.agg #[.int .i64 ((rd_T176 l0 x4_1).f0), .int .i64 ((rd_T176 l0 x4_1).f1.f0), .int .i64 ((rd_T176 l0 x4_1).f1.f1), .int .i64 ((rd_T176 l0 x4_1).f1.f2), .bool ((rd_T176 l0 x4_1).f2)]] rfl ?_; (with_reducible refine (laws_toStatement.calls ((rd_T176 l0 x4_1).f0) ((rd_T176 l0 x4_1).f1.f0) ((rd_T176 l0 x4_1).f1.f1) ((rd_T176 l0 x4_1).f1.f2) ((rd_T176 l0 x4_1).f2) t114 t115 t116 t117 t118 _ A8.out).mono ?_); rintro e w11 ⟨rfl, hb⟩; refine ⟨_, rfl, ?_⟩; replace HO_3 := ak (Kd.R_below (rdl HO_3) hb); replace HB := ak (below_step (belowd HB) hb); (try clear hb); have p10 : 0 ≤ (x4_1 : Int) := da; have q10 : (x4_1 : Int) < ((x3_1.length : Int) : Int) := da; obtain ⟨go10, co10, eo10, gb10, gl10, cl10, HG10⟩ := Kd.R_form HO_3.out (by omega); (first | cases eo10 | (injection eo10 with ea_ en_ ec_; (first | subst ea_ | (injection ea_ with ea_; subst ea_)); subst ec_; clear en_)); have GB10 := Aside0.mk gb10; have GG10 := Aside0.mk HG10; clear gb10 gl10 HG10; obtain ⟨ce10, hcl10, hM10, hcc10, hfr10⟩ := Kd.R_elem HO_3.out z91 (x4_1 : Int) p10 q10; obtain rfl := k91_openM hM10; have hx10_0 : w11.cell? ⟨go10, (x4_1 : Int).toNat * 5, none⟩ = some (.int .i64 ((rd_T91 x3_1 x4_1).f0)) := hcc10 0 _ rfl; have hx10_1 : w11.cell? ⟨go10, (x4_1 : Int).toNat * 5 + 1, none⟩ = some (.int .i64 ((rd_T91 x3_1 x4_1).f1.f0)) := hcc10 1 _ rfl; have hx10_2 : w11.cell? ⟨go10, (x4_1 : Int).toNat * 5 + 2, none⟩ = some (.int .i64 ((rd_T91 x3_1 x4_1).f1.f1)) := hcc10 2 _ rfl; have hx10_3 : w11.cell? ⟨go10, (x4_1 : Int).toNat * 5 + 3, none⟩ = some (.int .i64 ((rd_T91 x3_1 x4_1).f1.f2)) := hcc10 3 _ rfl; have hx10_4 : w11.cell? ⟨go10, (x4_1 : Int).toNat * 5 + 4, none⟩ = some (.bool ((rd_T91 x3_1 x4_1).f2)) := hcc10 4 _ rfl; have hf10_0 : w11.frozen? ⟨go10, (x4_1 : Int).toNat * 5, none⟩ = false := hfr10 0; have hf10_1 : w11.frozen? ⟨go10, (x4_1 : Int).toNat * 5 + 1, none⟩ = false := hfr10 1; have hf10_2 : w11.frozen? ⟨go10, (x4_1 : Int).toNat * 5 + 2, none⟩ = false := hfr10 2; have hf10_3 : w11.frozen? ⟨go10, (x4_1 : Int).toNat * 5 + 3, none⟩ = false := hfr10 3; have hf10_4 : w11.frozen? ⟨go10, (x4_1 : Int).toNat * 5 + 4, none⟩ = false := hfr10 4; clear hcl10 hcc10 hfr10 hM10; replace p10 := eq_true p10; replace q10 := eq_true q10; have HX12 := Aside0.mk (show Kd.R k91 91 w11 w.heap.size (fun _ => True) (.slice (some ⟨go10, 0, none⟩) x3_1.length co10) x3_1 from (rdl HO_3)); obtain ⟨ce12, hcl12, hM12, hcc12, hfr12⟩ := Kd.R_elem HX12.out z91 (x4_1 : Int) (da) (by have h_ : (x4_1 : Int) < ((x3_1.length : Int) : Int) := da; first | exact h_ | (have e_ := (Kd.R_reads' HO_3.out).1; omega) | simpa using h_); obtain rfl := k91_openM hM12; have HP12 := Kd.R_seg HX12.out (x4_1 : Int) (da) (by have h_ : (x4_1 : Int) < ((x3_1.length : Int) : Int) := da; first | exact h_ | (have e_ := (Kd.R_reads' HO_3.out).1; omega) | simpa using h_) (seg := [.int .i64 t114, .int .i64 t115, .int .i64 t116, .int .i64 t117, .bool t118]) (j := 0) hcl12 hcc12 (show 5 ≤ 5 from by decide) (x' := (⟨t114, (⟨t115, t116, t117⟩ : S85), t118⟩ : S91)) (k91_mkM _ _ _ (⟨t114, (⟨t115, t116, t117⟩ : S85), t118⟩ : S91) ) (fun _ hk => hk); have hx12_0 := hcc12 0 _ rfl; (try simp only [show (k91).sz = 5 from rfl, Nat.mul_one, Nat.add_zero] at hx12_0); have hf12_0 := hfr12 0; (try simp only [show (k91).sz = 5 from rfl, Nat.mul_one, Nat.add_zero] at hf12_0); have hx12_1 := hcc12 1 _ rfl; (try simp only [show (k91).sz = 5 from rfl, Nat.mul_one, Nat.add_zero] at hx12_1); have hf12_1 := hfr12 1; (try simp only [show (k91).sz = 5 from rfl, Nat.mul_one, Nat.add_zero] at hf12_1); have hx12_2 := hcc12 2 _ rfl; (try simp only [show (k91).sz = 5 from rfl, Nat.mul_one, Nat.add_zero] at hx12_2); have hf12_2 := hfr12 2; (try simp only [show (k91).sz = 5 from rfl, Nat.mul_one, Nat.add_zero] at hf12_2); have hx12_3 := hcc12 3 _ rfl; (try simp only [show (k91).sz = 5 from rfl, Nat.mul_one, Nat.add_zero] at hx12_3); have hf12_3 := hfr12 3; (try simp only [show (k91).sz = 5 from rfl, Nat.mul_one, Nat.add_zero] at hf12_3); have hx12_4 := hcc12 4 _ rfl; (try simp only [show (k91).sz = 5 from rfl, Nat.mul_one, Nat.add_zero] at hx12_4); have hf12_4 := hfr12 4; (try simp only [show (k91).sz = 5 from rfl, Nat.mul_one, Nat.add_zero] at hf12_4); clear hcl12 hcc12 hfr12 hM12) | ((with_reducible refine gate_store (t := 91) (p := 21) rfl ?_); refine store_event (t := 91) (p := 21) (v := ?vo_w13) (w1 := (((((w11.setCell ⟨go10, (x4_1 : Int).toNat * 5, none⟩ (.int .i64 t114)).setCell ⟨go10, (x4_1 : Int).toNat * 5 + 1, none⟩ (.int .i64 t115)).setCell ⟨go10, (x4_1 : Int).toNat * 5 + 2, none⟩ (.int .i64 t116)).setCell ⟨go10, (x4_1 : Int).toNat * 5 + 3, none⟩ (.int .i64 t117)).setCell ⟨go10, (x4_1 : Int).toNat * 5 + 4, none⟩ (.bool t118))) ?hg ?ho ?hn ?hr ?_; (case ho => rfl); (case hg => rfl); (case hn => rfl); (case hr => first | (go_simp; done) | (go_simp; rfl)); intro w13 hw; have hg : w11.grownBy w13 (some go10) := (by rw [hw]; exact HP12.2); have hp_ : Kd.R k91 91 w13 w.heap.size (fun _ => True) (.slice (some ⟨go10, 0, none⟩) x3_1.length co10) y119 := (by rw [hw, Ny119.out]; exact HP12.1); clear HP12; replace HO_3 := ak (hp_); replace HB := ak ((by rw [hw]; exact below_set (below_set (below_set (below_set (below_set (HB.out) GB10.out) GB10.out) GB10.out) GB10.out) GB10.out : Below w.heap.size w w13)); clear hg hw hp_))
    go_roundg k1
    case measure => have := HK1.out; omega
    case rel => exact ⟨(y119), (wrap64 (x4_1 + 1)), er, H', ⟨by have := HK1.out; omega⟩, ⟨rdl HO_3⟩, ⟨belowd HB⟩⟩
   ·rw [if_neg c6] at H
    have c6b0 : decide (x4_1 < (l0.length : Int)) = false := decide_eq_false c6
    clear c6
    obtain rfl := Option.some.inj H
    go_wp2
    go_ret
    exact ⟨_, er2, by (with_reducible repeat (first | apply Kd.R_alloc | apply Kd.R_drewN | apply Kd.R_drew)); exact HO_3.out, belowd HB⟩

/-! ### laws_eqClaim: function 140 -/
def laws_eqClaim.f (a0_0 : Int) (a0_1 : Int) (a0_2 : Int) (a1_0 : Int) (a1_1 : Int) (a1_2 : Int) : Option (Bool) := if a0_0 = a1_0 then (if a0_1 = a1_1 then (if a0_2 = a1_2 then (some true) else (some false)) else (some false)) else (some false)
set_option maxHeartbeats 8000000 in
set_option maxRecDepth 100000 in
theorem laws_eqClaim.calls (a0_0 : Int) (a0_1 : Int) (a0_2 : Int) (a1_0 : Int) (a1_1 : Int) (a1_2 : Int) (r : Bool) (w : World) (h : laws_eqClaim.f a0_0 a0_1 a0_2 a1_0 a1_1 a1_2 = some r) :
  Calls Try.prog 140 #[.agg #[.int .i64 a0_0, .int .i64 a0_1, .int .i64 a0_2], .agg #[.int .i64 a1_0, .int .i64 a1_1, .int .i64 a1_2]] w fun e w' => e = .returned (.bool r) ∧ Below w.heap.size w w' := by
 have hu85 := Try.underlying85
 have HB := Aside0.mk (Below.refl w.heap.size w)
 have H : (if a0_0 = a1_0 then (if a0_1 = a1_1 then (if a0_2 = a1_2 then (some true) else (some false)) else (some false)) else (some false)) = some r := h
 clear h
 by_cases c3 : a0_0 = a1_0
 ·rw [if_pos c3] at H
  have c3b0 : (a0_0 == a1_0) = true := beq_iff_eq.mpr c3
  have c3b1 : (a0_0 != a1_0) = false := bne_eq_false_iff_eq.mpr c3
  clear c3
  by_cases c4 : a0_1 = a1_1
  ·rw [if_pos c4] at H
   have c4b0 : (a0_1 == a1_1) = true := beq_iff_eq.mpr c4
   have c4b1 : (a0_1 != a1_1) = false := bne_eq_false_iff_eq.mpr c4
   clear c4
   by_cases c5 : a0_2 = a1_2
   ·rw [if_pos c5] at H
    have c5b0 : (a0_2 == a1_2) = true := beq_iff_eq.mpr c5
    have c5b1 : (a0_2 != a1_2) = false := bne_eq_false_iff_eq.mpr c5
    clear c5
    obtain rfl := Option.some.inj H
    go_enter Try.func140, Try.ntmps140
    go_wp2_with (first | ((with_reducible refine gate_dst (N := 2) rfl ?_); refine boxev 2 #[.int .i64 a0_0, .int .i64 a0_1, .int .i64 a0_2] 85 ?_; intro gb120 hg w6 hbox hb; have BK120 := ak (hbox); have GW120 := ak (hgl hg (belowd HB)); have GE120 := ak (hgl hg (belowd HB)); replace HB := ak (below_step (belowd HB) hb); clear hb hbox hg) | ((with_reducible refine gate_dst (N := 3) rfl ?_); refine boxev 3 #[.int .i64 a1_0, .int .i64 a1_1, .int .i64 a1_2] 85 ?_; intro gb121 hg w7 hbox hb; have BK121 := ak (hbox); have GW121 := ak (hgl hg (belowg1 HB GE120)); have GE121 := ak (hgl hg (belowg1 HB GE120)); replace HB := ak (below_step (belowg1 HB GE120) hb); have NB120_121 := ak ((by rw [hg]; exact Nat.ne_of_lt (blk_lt (blkd BK120)) : gb120 ≠ gb121)); have NB121_120 := ak ((by rw [hg]; exact Nat.ne_of_gt (blk_lt (blkd BK120)) : gb121 ≠ gb120)); replace BK120 := ak (blk_below (blkd BK120) hb); clear hb hbox hg; have hnb8 := NB120_121.out; have hnc8 := NB121_120.out; obtain ⟨hcz9_0, hcz9_1, hcz9_2, hfz9_0, hfz9_1, hfz9_2⟩ := box3 BK120; obtain ⟨hcz10_0, hcz10_1, hcz10_2, hfz10_0, hfz10_1, hfz10_2⟩ := box3 BK121))
    go_ret
    exact ⟨er2, belowg2 HB GE120 GE121⟩
   ·rw [if_neg c5] at H
    have c5b0 : (a0_2 == a1_2) = false := beq_eq_false_iff_ne.mpr c5
    have c5b1 : (a0_2 != a1_2) = true := bne_iff_ne.mpr c5
    obtain rfl := Option.some.inj H
    go_enter Try.func140, Try.ntmps140
    go_wp2_with (first | ((with_reducible refine gate_dst (N := 2) rfl ?_); refine boxev 2 #[.int .i64 a0_0, .int .i64 a0_1, .int .i64 a0_2] 85 ?_; intro gb120 hg w11 hbox hb; have BK120 := ak (hbox); have GW120 := ak (hgl hg (belowd HB)); have GE120 := ak (hgl hg (belowd HB)); replace HB := ak (below_step (belowd HB) hb); clear hb hbox hg) | ((with_reducible refine gate_dst (N := 3) rfl ?_); refine boxev 3 #[.int .i64 a1_0, .int .i64 a1_1, .int .i64 a1_2] 85 ?_; intro gb121 hg w12 hbox hb; have BK121 := ak (hbox); have GW121 := ak (hgl hg (belowg1 HB GE120)); have GE121 := ak (hgl hg (belowg1 HB GE120)); replace HB := ak (below_step (belowg1 HB GE120) hb); have NB120_121 := ak ((by rw [hg]; exact Nat.ne_of_lt (blk_lt (blkd BK120)) : gb120 ≠ gb121)); have NB121_120 := ak ((by rw [hg]; exact Nat.ne_of_gt (blk_lt (blkd BK120)) : gb121 ≠ gb120)); replace BK120 := ak (blk_below (blkd BK120) hb); clear hb hbox hg; have hnb13 := NB120_121.out; have hnc13 := NB121_120.out; obtain ⟨hcz14_0, hcz14_1, hcz14_2, hfz14_0, hfz14_1, hfz14_2⟩ := box3 BK120; obtain ⟨hcz15_0, hcz15_1, hcz15_2, hfz15_0, hfz15_1, hfz15_2⟩ := box3 BK121))
    go_ret
    exact ⟨er2, belowg2 HB GE120 GE121⟩
  ·rw [if_neg c4] at H
   have c4b0 : (a0_1 == a1_1) = false := beq_eq_false_iff_ne.mpr c4
   have c4b1 : (a0_1 != a1_1) = true := bne_iff_ne.mpr c4
   obtain rfl := Option.some.inj H
   go_enter Try.func140, Try.ntmps140
   go_wp2_with (first | ((with_reducible refine gate_dst (N := 2) rfl ?_); refine boxev 2 #[.int .i64 a0_0, .int .i64 a0_1, .int .i64 a0_2] 85 ?_; intro gb120 hg w16 hbox hb; have BK120 := ak (hbox); have GW120 := ak (hgl hg (belowd HB)); have GE120 := ak (hgl hg (belowd HB)); replace HB := ak (below_step (belowd HB) hb); clear hb hbox hg) | ((with_reducible refine gate_dst (N := 3) rfl ?_); refine boxev 3 #[.int .i64 a1_0, .int .i64 a1_1, .int .i64 a1_2] 85 ?_; intro gb121 hg w17 hbox hb; have BK121 := ak (hbox); have GW121 := ak (hgl hg (belowg1 HB GE120)); have GE121 := ak (hgl hg (belowg1 HB GE120)); replace HB := ak (below_step (belowg1 HB GE120) hb); have NB120_121 := ak ((by rw [hg]; exact Nat.ne_of_lt (blk_lt (blkd BK120)) : gb120 ≠ gb121)); have NB121_120 := ak ((by rw [hg]; exact Nat.ne_of_gt (blk_lt (blkd BK120)) : gb121 ≠ gb120)); replace BK120 := ak (blk_below (blkd BK120) hb); clear hb hbox hg; have hnb18 := NB120_121.out; have hnc18 := NB121_120.out; obtain ⟨hcz19_0, hcz19_1, hcz19_2, hfz19_0, hfz19_1, hfz19_2⟩ := box3 BK120; obtain ⟨hcz20_0, hcz20_1, hcz20_2, hfz20_0, hfz20_1, hfz20_2⟩ := box3 BK121))
   go_ret
   exact ⟨er2, belowg2 HB GE120 GE121⟩
 ·rw [if_neg c3] at H
  have c3b0 : (a0_0 == a1_0) = false := beq_eq_false_iff_ne.mpr c3
  have c3b1 : (a0_0 != a1_0) = true := bne_iff_ne.mpr c3
  obtain rfl := Option.some.inj H
  go_enter Try.func140, Try.ntmps140
  go_wp2_with (first | ((with_reducible refine gate_dst (N := 2) rfl ?_); refine boxev 2 #[.int .i64 a0_0, .int .i64 a0_1, .int .i64 a0_2] 85 ?_; intro gb120 hg w21 hbox hb; have BK120 := ak (hbox); have GW120 := ak (hgl hg (belowd HB)); have GE120 := ak (hgl hg (belowd HB)); replace HB := ak (below_step (belowd HB) hb); clear hb hbox hg) | ((with_reducible refine gate_dst (N := 3) rfl ?_); refine boxev 3 #[.int .i64 a1_0, .int .i64 a1_1, .int .i64 a1_2] 85 ?_; intro gb121 hg w22 hbox hb; have BK121 := ak (hbox); have GW121 := ak (hgl hg (belowg1 HB GE120)); have GE121 := ak (hgl hg (belowg1 HB GE120)); replace HB := ak (below_step (belowg1 HB GE120) hb); have NB120_121 := ak ((by rw [hg]; exact Nat.ne_of_lt (blk_lt (blkd BK120)) : gb120 ≠ gb121)); have NB121_120 := ak ((by rw [hg]; exact Nat.ne_of_gt (blk_lt (blkd BK120)) : gb121 ≠ gb120)); replace BK120 := ak (blk_below (blkd BK120) hb); clear hb hbox hg; have hnb23 := NB120_121.out; have hnc23 := NB121_120.out; obtain ⟨hcz24_0, hcz24_1, hcz24_2, hfz24_0, hfz24_1, hfz24_2⟩ := box3 BK120; obtain ⟨hcz25_0, hcz25_1, hcz25_2, hfz25_0, hfz25_1, hfz25_2⟩ := box3 BK121))
  go_ret
  exact ⟨er2, belowg2 HB GE120 GE121⟩

/-! ### laws_eqClaimS: function 51 -/
def laws_eqClaimS.l0 : Nat → List (S85) → List (S85) → Int → Option (Bool)
  | 0, _, _, _ => none
  | k + 1, x0, x1, x5 => if x5 < (x0.length : Int) then (if 0 ≤ x5 then (if x5 < (x1.length : Int) then ((laws_eqClaim.f ((rd_T85 x0 x5).f0) ((rd_T85 x0 x5).f1) ((rd_T85 x0 x5).f2) ((rd_T85 x1 x5).f0) ((rd_T85 x1 x5).f1) ((rd_T85 x1 x5).f2)).bind fun t124 => (if t124 = true then (laws_eqClaimS.l0 k x0 x1 (wrap64 (x5 + 1))) else (some false))) else (none)) else (none)) else (some true)
def laws_eqClaimS.f (k : Nat) (l0 : List (S85)) (l1 : List (S85)) : Option (Bool) := if (l0.length : Int) = (l1.length : Int) then (laws_eqClaimS.l0 k l0 l1 0) else (some false)
theorem laws_eqClaimS.mono_l : ∀ k, (∀ y0 y1 y2, LeO (laws_eqClaimS.l0 k y0 y1 y2) (laws_eqClaimS.l0 (k + 1) y0 y1 y2))
 | 0 => fun _ _ _ r h => by simp [laws_eqClaimS.l0] at h
 | k + 1 => by
  have ih0 := laws_eqClaimS.mono_l k
  ·intro y0 y1 y2
   unfold laws_eqClaimS.l0
   repeat' (first | (with_reducible first | exact ih0 _ _ _ | exact LeO.refl _ | exact LeO.none _ | refine LeO.ite ?_ ?_ | refine LeO.bind ?_ (fun _ => ?_)) | exact ih0 _ _ _ | exact LeO.none _ | refine LeO.ite ?_ ?_ | refine LeO.bind ?_ (fun _ => ?_))
theorem laws_eqClaimS.mono : ∀ a0 a1 k, LeO (laws_eqClaimS.f k a0 a1) (laws_eqClaimS.f (k + 1) a0 a1) := by
 intro a0 a1 k
 have ih0 := laws_eqClaimS.mono_l k
 unfold laws_eqClaimS.f
 repeat' (first | (with_reducible first | exact ih0 _ _ _ | exact LeO.refl _ | exact LeO.none _ | refine LeO.ite ?_ ?_ | refine LeO.bind ?_ (fun _ => ?_)) | exact ih0 _ _ _ | exact LeO.none _ | refine LeO.ite ?_ ?_ | refine LeO.bind ?_ (fun _ => ?_))
def laws_eqClaimS.T6 : Bool × List (List Nat × List Nat) := (true, [([], []), ([], []), ([0, 1], [0, 1]), ([2], [2]), ([], []), ([], []), ([4, 5], [4, 5]), ([6], [6]), ([3, 7], [3, 7]), ([8], [8])])
def laws_eqClaimS.B6 : List Nat := [0, 0, 3, 7, 0, 0, 48, 112, 255, 511]
theorem laws_eqClaimS.tab6 : rtab .any (opsOf Try.f51 6) = laws_eqClaimS.T6 := by kernel_rfl
theorem laws_eqClaimS.bits6 : waitsOk laws_eqClaimS.T6.2 laws_eqClaimS.B6 = true := by kernel_rfl
set_option maxHeartbeats 8000000 in
set_option maxRecDepth 100000 in
theorem laws_eqClaimS.calls (k : Nat) (A0 : Option Addr) (c0 : Nat) (l0 : List (S85)) (A1 : Option Addr) (c1 : Nat) (l1 : List (S85)) (r : Bool) (w : World) (hr0 : Kd.C k85 w A0 l0.length l0) (hc0 : l0.length ≤ c0) (hr1 : Kd.C k85 w A1 l1.length l1) (hc1 : l1.length ≤ c1) (h : laws_eqClaimS.f k l0 l1 = some r) :
  Calls Try.prog 51 #[.slice A0 l0.length c0, .slice A1 l1.length c1] w fun e w' => e = .returned (.bool r) ∧ Below w.heap.size w w' := by
 have hu85 := Try.underlying85
 have HR0 := Aside0.mk hr0; have HC0 := Aside0.mk hc0; clear hr0 hc0; have HR1 := Aside0.mk hr1; have HC1 := Aside0.mk hc1; clear hr1 hc1
 have HB := Aside0.mk (Below.refl w.heap.size w)
 have H : (if (l0.length : Int) = (l1.length : Int) then (laws_eqClaimS.l0 k l0 l1 0) else (some false)) = some r := h
 clear h
 by_cases c3 : (l0.length : Int) = (l1.length : Int)
 ·rw [if_pos c3] at H
  have c3b0 : ((l0.length : Int) == (l1.length : Int)) = true := beq_iff_eq.mpr c3
  have c3b1 : ((l0.length : Int) != (l1.length : Int)) = false := bne_eq_false_iff_eq.mpr c3
  have c3b2 : (l0.length == l1.length) = true := by first | simpa using c3 | (simp at c3 ⊢; omega)
  clear c3
  have H' := Aside0.mk H
  clear H
  go_enter Try.func51, Try.ntmps51
  go_wp2
  go_loopg [5] k (fun kq v5 w' => ∃ (x5_1 : Int), v5 = .int .i64 x5_1 ∧ Aside0 (laws_eqClaimS.l0 kq l0 l1 x5_1 = some r) ∧ Aside0 (kq ≤ k) ∧ Aside0 (Below w.heap.size w w'))
  case atStart => exact ⟨(0), er, H', ⟨Nat.le_refl _⟩, ⟨belowd HB⟩⟩
  case round =>
   clear H'
   (try clear c1); (try clear c3b0); (try clear c3b1); (try clear c3b2)
   obtain ⟨x5_1, rfl, HA, HK1, HB⟩ := hrel
   cases gk with
   | zero => exact absurd HA.out (by simp [laws_eqClaimS.l0])
   | succ k1 =>
    have H := HA.out; clear HA
    simp only [laws_eqClaimS.l0] at H
    by_cases c4 : x5_1 < (l0.length : Int)
    ·rw [if_pos c4] at H
     have c4b0 : decide (x5_1 < (l0.length : Int)) = true := decide_eq_true c4
     clear c4; replace H := ifS H; obtain ⟨c5, H⟩ := H; have c5b0 := decide_eq_true c5; clear c5; replace H := ifS H; obtain ⟨c6, H⟩ := H; have c6b0 := decide_eq_true c6; clear c6; replace H := bS H; obtain ⟨t124, A7, H⟩ := H
     replace H : (if t124 = true then (laws_eqClaimS.l0 k1 l0 l1 (wrap64 (x5_1 + 1))) else (some false)) = some r := H
     by_cases c8 : t124 = true
     ·subst c8
      have H1 : (laws_eqClaimS.l0 k1 l0 l1 (wrap64 (x5_1 + 1))) = some r := by rw [if_pos rfl] at H; exact H
      clear H
      have H := H1
      clear H1
      have H' := Aside0.mk H
      clear H
      try go_wp2
      replace HB := ak (below_drew1 HB.out)
      have p122 : 0 ≤ (x5_1 : Int) := da
      have q122 : x5_1 < (l0.length : Int) := da
      obtain ⟨ad122, e122, hx122_0, hx122_1, hx122_2⟩ := at_T85 HR0.out x5_1 p122 q122
      have hw122_2 := hx122_2
      have hw122_1 := hx122_1
      have hw122_0 := hx122_0
      cases e122
      replace hx122_0 := (HB.out.cell (World.block_lt_of_cell? w _ hx122_0)).trans hx122_0
      replace hx122_1 := (HB.out.cell (World.block_lt_of_cell? w _ hx122_1)).trans hx122_1
      replace hx122_2 := (HB.out.cell (World.block_lt_of_cell? w _ hx122_2)).trans hx122_2
      replace p122 := eq_true p122; replace q122 := eq_true q122
      have p123 : 0 ≤ (x5_1 : Int) := da
      have q123 : x5_1 < (l1.length : Int) := da
      obtain ⟨ad123, e123, hx123_0, hx123_1, hx123_2⟩ := at_T85 HR1.out x5_1 p123 q123
      have hw123_2 := hx123_2
      have hw123_1 := hx123_1
      have hw123_0 := hx123_0
      cases e123
      replace hx123_0 := (HB.out.cell (World.block_lt_of_cell? w _ hx123_0)).trans hx123_0
      replace hx123_1 := (HB.out.cell (World.block_lt_of_cell? w _ hx123_1)).trans hx123_1
      replace hx123_2 := (HB.out.cell (World.block_lt_of_cell? w _ hx123_2)).trans hx123_2
      replace p123 := eq_true p123; replace q123 := eq_true q123
      refine start_ (n := 10) (S := fun w' => w'.cell? (ad122.add ((x5_1).toNat * 3)) = some (.int .i64 ((rd_T85 l0 x5_1).f0)) ∧ w'.cell? ⟨(ad122.add ((x5_1).toNat * 3)).block, (ad122.add ((x5_1).toNat * 3)).off + 1, none⟩ = some (.int .i64 ((rd_T85 l0 x5_1).f1)) ∧ w'.cell? ⟨(ad122.add ((x5_1).toNat * 3)).block, (ad122.add ((x5_1).toNat * 3)).off + 2, none⟩ = some (.int .i64 ((rd_T85 l0 x5_1).f2)) ∧ w'.cell? (ad123.add ((x5_1).toNat * 3)) = some (.int .i64 ((rd_T85 l1 x5_1).f0)) ∧ w'.cell? ⟨(ad123.add ((x5_1).toNat * 3)).block, (ad123.add ((x5_1).toNat * 3)).off + 1, none⟩ = some (.int .i64 ((rd_T85 l1 x5_1).f1)) ∧ w'.cell? ⟨(ad123.add ((x5_1).toNat * 3)).block, (ad123.add ((x5_1).toNat * 3)).off + 2, none⟩ = some (.int .i64 ((rd_T85 l1 x5_1).f2))) (ds := []) (bl 10 0) (by kernel_rfl) rfl rfl ⟨((HB.out.cell (World.block_lt_of_cell? w _ hw122_0)).trans hw122_0), ((HB.out.cell (World.block_lt_of_cell? w _ hw122_1)).trans hw122_1), ((HB.out.cell (World.block_lt_of_cell? w _ hw122_2)).trans hw122_2), ((HB.out.cell (World.block_lt_of_cell? w _ hw123_0)).trans hw123_0), ((HB.out.cell (World.block_lt_of_cell? w _ hw123_1)).trans hw123_1), ((HB.out.cell (World.block_lt_of_cell? w _ hw123_2)).trans hw123_2)⟩ (fun hHeld => ?_); refine with_tabW laws_eqClaimS.tab6 laws_eqClaimS.bits6 (fun HT_ HW_ => ?_)
      generalize wr.drew = w9 at HB hx122_0 hx122_1 hx122_2 hx123_0 hx123_1 hx123_2 hHeld ⊢
      refine pureA 0 (some 17) 10 1 HT_ ?_
      refine pureA 1 (some 18) 10 3 HT_ ?_
      refine pureA 2 (some 19) 10 7 HT_ ?_
      refine pureA 4 (some 21) 10 23 HT_ ?_
      refine pureA 5 (some 22) 10 55 HT_ ?_
      refine pureA 6 (some 23) 10 119 HT_ ?_
      refine takeA 3 (some 20) 10 127 HT_ HW_ hHeld ?_ (hy := by rintro w' ⟨s0, s1, s2, s3, s4, s5⟩; go_simp; with_reducible rfl)
      refine takeA 7 (some 24) 10 255 HT_ HW_ hHeld ?_ (hy := by rintro w' ⟨s0, s1, s2, s3, s4, s5⟩; go_simp; with_reducible rfl)
      refine oneA 8 (some 25) 10 511 HT_ (fun K hK => ?_)
      refine goes_ Try.func140 (by kernel_rfl) rfl #[.agg #[.int .i64 ((rd_T85 l0 x5_1).f0), .int .i64 ((rd_T85 l0 x5_1).f1), .int .i64 ((rd_T85 l0 x5_1).f2)], .agg #[.int .i64 ((rd_T85 l1 x5_1).f0), .int .i64 ((rd_T85 l1 x5_1).f1), .int .i64 ((rd_T85 l1 x5_1).f2)]] (by rfl) rfl rfl (by (try simp only [List.map_toArray, List.map_cons, List.map_nil]); first | done | rfl | (simp only [List.length_drop, List.length_take]; rfl)) ?_
      with_reducible refine (laws_eqClaim.calls ((rd_T85 l0 x5_1).f0) ((rd_T85 l0 x5_1).f1) ((rd_T85 l0 x5_1).f2) ((rd_T85 l1 x5_1).f0) ((rd_T85 l1 x5_1).f1) ((rd_T85 l1 x5_1).f2) true _ A7.out).mono ?_
      rintro e w10 ⟨rfl, hb⟩
      refine ⟨_, rfl, ?_⟩
      replace HB := ak (below_step (belowd HB) hb)
      (try clear hb); (try clear hb2); (try clear hk); (try clear hi)
      refine hK.out _ _ ⟨((HB.out.cell (World.block_lt_of_cell? w _ hw122_0)).trans hw122_0), ((HB.out.cell (World.block_lt_of_cell? w _ hw122_1)).trans hw122_1), ((HB.out.cell (World.block_lt_of_cell? w _ hw122_2)).trans hw122_2), ((HB.out.cell (World.block_lt_of_cell? w _ hw123_0)).trans hw123_0), ((HB.out.cell (World.block_lt_of_cell? w _ hw123_1)).trans hw123_1), ((HB.out.cell (World.block_lt_of_cell? w _ hw123_2)).trans hw123_2)⟩ (fun hHeld => ?_)
      clear hK K
      refine norm_ (a' := ?_) ?_ ?_
      rotate_left
      ·show Act.put _ (some 25) _ = _
       simp only [Act.put, List.setIfInBounds_toArray, List.set_cons_zero, List.set_cons_succ, i64_w, i32_w]
       rfl
      refine pureA 9 (some 26) 10 1023 HT_ ?_
      refine done_ (done_of HT_.out (by kernel_rfl)) ?_
      try go_wp2
      go_roundg k1
      case measure => have := HK1.out; omega
      case rel => exact ⟨(wrap64 (x5_1 + 1)), er, H', ⟨by have := HK1.out; omega⟩, ⟨belowd HB⟩⟩
     ·replace c8 := Bool.eq_false_iff.mpr c8
      subst c8
      have H1 : (some false) = some r := by rw [if_neg (show ¬ (false = true) by decide)] at H; exact H
      clear H
      have H := H1
      clear H1
      obtain rfl := Option.some.inj H
      try go_wp2
      replace HB := ak (below_drew1 HB.out)
      have p122 : 0 ≤ (x5_1 : Int) := da
      have q122 : x5_1 < (l0.length : Int) := da
      obtain ⟨ad122, e122, hx122_0, hx122_1, hx122_2⟩ := at_T85 HR0.out x5_1 p122 q122
      have hw122_2 := hx122_2
      have hw122_1 := hx122_1
      have hw122_0 := hx122_0
      cases e122
      replace hx122_0 := (HB.out.cell (World.block_lt_of_cell? w _ hx122_0)).trans hx122_0
      replace hx122_1 := (HB.out.cell (World.block_lt_of_cell? w _ hx122_1)).trans hx122_1
      replace hx122_2 := (HB.out.cell (World.block_lt_of_cell? w _ hx122_2)).trans hx122_2
      replace p122 := eq_true p122; replace q122 := eq_true q122
      have p123 : 0 ≤ (x5_1 : Int) := da
      have q123 : x5_1 < (l1.length : Int) := da
      obtain ⟨ad123, e123, hx123_0, hx123_1, hx123_2⟩ := at_T85 HR1.out x5_1 p123 q123
      have hw123_2 := hx123_2
      have hw123_1 := hx123_1
      have hw123_0 := hx123_0
      cases e123
      replace hx123_0 := (HB.out.cell (World.block_lt_of_cell? w _ hx123_0)).trans hx123_0
      replace hx123_1 := (HB.out.cell (World.block_lt_of_cell? w _ hx123_1)).trans hx123_1
      replace hx123_2 := (HB.out.cell (World.block_lt_of_cell? w _ hx123_2)).trans hx123_2
      replace p123 := eq_true p123; replace q123 := eq_true q123
      refine start_ (n := 10) (S := fun w' => w'.cell? (ad122.add ((x5_1).toNat * 3)) = some (.int .i64 ((rd_T85 l0 x5_1).f0)) ∧ w'.cell? ⟨(ad122.add ((x5_1).toNat * 3)).block, (ad122.add ((x5_1).toNat * 3)).off + 1, none⟩ = some (.int .i64 ((rd_T85 l0 x5_1).f1)) ∧ w'.cell? ⟨(ad122.add ((x5_1).toNat * 3)).block, (ad122.add ((x5_1).toNat * 3)).off + 2, none⟩ = some (.int .i64 ((rd_T85 l0 x5_1).f2)) ∧ w'.cell? (ad123.add ((x5_1).toNat * 3)) = some (.int .i64 ((rd_T85 l1 x5_1).f0)) ∧ w'.cell? ⟨(ad123.add ((x5_1).toNat * 3)).block, (ad123.add ((x5_1).toNat * 3)).off + 1, none⟩ = some (.int .i64 ((rd_T85 l1 x5_1).f1)) ∧ w'.cell? ⟨(ad123.add ((x5_1).toNat * 3)).block, (ad123.add ((x5_1).toNat * 3)).off + 2, none⟩ = some (.int .i64 ((rd_T85 l1 x5_1).f2))) (ds := []) (bl 10 0) (by kernel_rfl) rfl rfl ⟨((HB.out.cell (World.block_lt_of_cell? w _ hw122_0)).trans hw122_0), ((HB.out.cell (World.block_lt_of_cell? w _ hw122_1)).trans hw122_1), ((HB.out.cell (World.block_lt_of_cell? w _ hw122_2)).trans hw122_2), ((HB.out.cell (World.block_lt_of_cell? w _ hw123_0)).trans hw123_0), ((HB.out.cell (World.block_lt_of_cell? w _ hw123_1)).trans hw123_1), ((HB.out.cell (World.block_lt_of_cell? w _ hw123_2)).trans hw123_2)⟩ (fun hHeld => ?_); refine with_tabW laws_eqClaimS.tab6 laws_eqClaimS.bits6 (fun HT_ HW_ => ?_)
      generalize wr.drew = w11 at HB hx122_0 hx122_1 hx122_2 hx123_0 hx123_1 hx123_2 hHeld ⊢
      refine pureA 0 (some 17) 10 1 HT_ ?_
      refine pureA 1 (some 18) 10 3 HT_ ?_
      refine pureA 2 (some 19) 10 7 HT_ ?_
      refine pureA 4 (some 21) 10 23 HT_ ?_
      refine pureA 5 (some 22) 10 55 HT_ ?_
      refine pureA 6 (some 23) 10 119 HT_ ?_
      refine takeA 3 (some 20) 10 127 HT_ HW_ hHeld ?_ (hy := by rintro w' ⟨s0, s1, s2, s3, s4, s5⟩; go_simp; with_reducible rfl)
      refine takeA 7 (some 24) 10 255 HT_ HW_ hHeld ?_ (hy := by rintro w' ⟨s0, s1, s2, s3, s4, s5⟩; go_simp; with_reducible rfl)
      refine oneA 8 (some 25) 10 511 HT_ (fun K hK => ?_)
      refine goes_ Try.func140 (by kernel_rfl) rfl #[.agg #[.int .i64 ((rd_T85 l0 x5_1).f0), .int .i64 ((rd_T85 l0 x5_1).f1), .int .i64 ((rd_T85 l0 x5_1).f2)], .agg #[.int .i64 ((rd_T85 l1 x5_1).f0), .int .i64 ((rd_T85 l1 x5_1).f1), .int .i64 ((rd_T85 l1 x5_1).f2)]] (by rfl) rfl rfl (by (try simp only [List.map_toArray, List.map_cons, List.map_nil]); first | done | rfl | (simp only [List.length_drop, List.length_take]; rfl)) ?_
      with_reducible refine (laws_eqClaim.calls ((rd_T85 l0 x5_1).f0) ((rd_T85 l0 x5_1).f1) ((rd_T85 l0 x5_1).f2) ((rd_T85 l1 x5_1).f0) ((rd_T85 l1 x5_1).f1) ((rd_T85 l1 x5_1).f2) false _ A7.out).mono ?_
      rintro e w12 ⟨rfl, hb⟩
      refine ⟨_, rfl, ?_⟩
      replace HB := ak (below_step (belowd HB) hb)
      (try clear hb); (try clear hb2); (try clear hk); (try clear hi)
      refine hK.out _ _ ⟨((HB.out.cell (World.block_lt_of_cell? w _ hw122_0)).trans hw122_0), ((HB.out.cell (World.block_lt_of_cell? w _ hw122_1)).trans hw122_1), ((HB.out.cell (World.block_lt_of_cell? w _ hw122_2)).trans hw122_2), ((HB.out.cell (World.block_lt_of_cell? w _ hw123_0)).trans hw123_0), ((HB.out.cell (World.block_lt_of_cell? w _ hw123_1)).trans hw123_1), ((HB.out.cell (World.block_lt_of_cell? w _ hw123_2)).trans hw123_2)⟩ (fun hHeld => ?_)
      clear hK K
      refine norm_ (a' := ?_) ?_ ?_
      rotate_left
      ·show Act.put _ (some 25) _ = _
       simp only [Act.put, List.setIfInBounds_toArray, List.set_cons_zero, List.set_cons_succ, i64_w, i32_w]
       rfl
      refine pureA 9 (some 26) 10 1023 HT_ ?_
      refine done_ (done_of HT_.out (by kernel_rfl)) ?_
      try go_wp2
      go_ret
      exact ⟨er2, belowd HB⟩
    ·rw [if_neg c4] at H
     have c4b0 : decide (x5_1 < (l0.length : Int)) = false := decide_eq_false c4
     clear c4
     obtain rfl := Option.some.inj H
     go_wp2
     go_ret
     exact ⟨er2, belowd HB⟩
 ·rw [if_neg c3] at H
  have c3b0 : ((l0.length : Int) == (l1.length : Int)) = false := beq_eq_false_iff_ne.mpr c3
  have c3b1 : ((l0.length : Int) != (l1.length : Int)) = true := bne_iff_ne.mpr c3
  have c3b2 : (l0.length == l1.length) = false := by first | simpa using c3 | (simp at c3 ⊢; omega)
  obtain rfl := Option.some.inj H
  go_enter Try.func51, Try.ntmps51
  go_wp2
  go_ret
  exact ⟨er2, belowd HB⟩

/-! ### laws_eqStatement: function 141 -/
def laws_eqStatement.f (a0_0 : Int) (a0_1 : Int) (a0_2 : Int) (a0_3 : Int) (a0_4 : Bool) (a1_0 : Int) (a1_1 : Int) (a1_2 : Int) (a1_3 : Int) (a1_4 : Bool) : Option (Bool) := if a0_0 = a1_0 then ((laws_eqClaim.f a0_1 a0_2 a0_3 a1_1 a1_2 a1_3).bind fun t127 => (if t127 = true then (if (a0_4 != a1_4) = true then (some false) else (some true)) else (some false))) else (some false)
set_option maxHeartbeats 8000000 in
set_option maxRecDepth 100000 in
theorem laws_eqStatement.calls (a0_0 : Int) (a0_1 : Int) (a0_2 : Int) (a0_3 : Int) (a0_4 : Bool) (a1_0 : Int) (a1_1 : Int) (a1_2 : Int) (a1_3 : Int) (a1_4 : Bool) (r : Bool) (w : World) (h : laws_eqStatement.f a0_0 a0_1 a0_2 a0_3 a0_4 a1_0 a1_1 a1_2 a1_3 a1_4 = some r) :
  Calls Try.prog 141 #[.agg #[.int .i64 a0_0, .int .i64 a0_1, .int .i64 a0_2, .int .i64 a0_3, .bool a0_4], .agg #[.int .i64 a1_0, .int .i64 a1_1, .int .i64 a1_2, .int .i64 a1_3, .bool a1_4]] w fun e w' => e = .returned (.bool r) ∧ Below w.heap.size w w' := by
 have hu91 := Try.underlying91
 have hu85 := Try.underlying85
 have HB := Aside0.mk (Below.refl w.heap.size w)
 have H : (if a0_0 = a1_0 then ((laws_eqClaim.f a0_1 a0_2 a0_3 a1_1 a1_2 a1_3).bind fun t127 => (if t127 = true then (if (a0_4 != a1_4) = true then (some false) else (some true)) else (some false))) else (some false)) = some r := h
 clear h
 by_cases c3 : a0_0 = a1_0
 ·rw [if_pos c3] at H
  have c3b0 : (a0_0 == a1_0) = true := beq_iff_eq.mpr c3
  have c3b1 : (a0_0 != a1_0) = false := bne_eq_false_iff_eq.mpr c3
  clear c3; replace H := bS H; obtain ⟨t127, A4, H⟩ := H
  replace H : (if t127 = true then (if (a0_4 != a1_4) = true then (some false) else (some true)) else (some false)) = some r := H
  by_cases c5 : t127 = true
  ·subst c5
   have H1 : (if (a0_4 != a1_4) = true then (some false) else (some true)) = some r := by rw [if_pos rfl] at H; exact H
   clear H
   have H := H1
   clear H1
   by_cases c6 : (a0_4 != a1_4) = true
   ·rw [if_pos c6] at H
    have c6b0 : (a0_4 != a1_4) = true := c6
    (try (have c6b1 : decide (a0_4 = a1_4) = false := by simpa using c6))
    (try (have c6b2 : (a0_4 == a1_4) = false := by simpa using c6))
    (try (have c6b3 : ¬ (a0_4 = a1_4) := by simpa using c6))
    clear c6
    obtain rfl := Option.some.inj H
    go_enter Try.func141, Try.ntmps141
    go_wp2_with (first | ((with_reducible refine gate_dst (N := 2) rfl ?_); refine boxev 2 #[.int .i64 a0_0, .int .i64 a0_1, .int .i64 a0_2, .int .i64 a0_3, .bool a0_4] 91 ?_; intro gb125 hg w7 hbox hb; have BK125 := ak (hbox); have GW125 := ak (hgl hg (belowd HB)); have GE125 := ak (hgl hg (belowd HB)); replace HB := ak (below_step (belowd HB) hb); clear hb hbox hg) | ((with_reducible refine gate_dst (N := 3) rfl ?_); refine boxev 3 #[.int .i64 a1_0, .int .i64 a1_1, .int .i64 a1_2, .int .i64 a1_3, .bool a1_4] 91 ?_; intro gb126 hg w8 hbox hb; have BK126 := ak (hbox); have GW126 := ak (hgl hg (belowg1 HB GE125)); have GE126 := ak (hgl hg (belowg1 HB GE125)); replace HB := ak (below_step (belowg1 HB GE125) hb); have NB125_126 := ak ((by rw [hg]; exact Nat.ne_of_lt (blk_lt (blkd BK125)) : gb125 ≠ gb126)); have NB126_125 := ak ((by rw [hg]; exact Nat.ne_of_gt (blk_lt (blkd BK125)) : gb126 ≠ gb125)); replace BK125 := ak (blk_below (blkd BK125) hb); clear hb hbox hg; have hnb9 := NB125_126.out; have hnc9 := NB126_125.out; obtain ⟨hcz10_0, hcz10_1, hcz10_2, hcz10_3, hcz10_4, hfz10_0, hfz10_1, hfz10_2, hfz10_3, hfz10_4⟩ := box5 BK125; obtain ⟨hcz11_0, hcz11_1, hcz11_2, hcz11_3, hcz11_4, hfz11_0, hfz11_1, hfz11_2, hfz11_3, hfz11_4⟩ := box5 BK126) | ((with_reducible refine gate_callee (f := 140) rfl ?_); refine goesLa (some 14) rfl Try.func140 #[.agg #[.int .i64 a0_1, .int .i64 a0_2, .int .i64 a0_3], .agg #[.int .i64 a1_1, .int .i64 a1_2, .int .i64 a1_3]] rfl ?_; (with_reducible refine (laws_eqClaim.calls a0_1 a0_2 a0_3 a1_1 a1_2 a1_3 true _ A4.out).mono ?_); rintro e w12 ⟨rfl, hb⟩; refine ⟨_, rfl, ?_⟩; replace BK125 := ak (blk_below (blkd BK125) hb); replace BK126 := ak (blk_below (blkd BK126) hb); replace HB := ak (below_step (belowg2 HB GE125 GE126) hb); (try clear hb); obtain ⟨hcz13_0, hcz13_1, hcz13_2, hcz13_3, hcz13_4, hfz13_0, hfz13_1, hfz13_2, hfz13_3, hfz13_4⟩ := box5 BK125; obtain ⟨hcz14_0, hcz14_1, hcz14_2, hcz14_3, hcz14_4, hfz14_0, hfz14_1, hfz14_2, hfz14_3, hfz14_4⟩ := box5 BK126))
    go_ret
    exact ⟨er2, belowg2 HB GE125 GE126⟩
   ·rw [if_neg c6] at H
    have c6b0 : (a0_4 != a1_4) = false := by simpa using c6
    (try (have c6b1 : decide (a0_4 = a1_4) = true := by simpa using c6))
    (try (have c6b2 : (a0_4 == a1_4) = true := by simpa using c6))
    clear c6
    obtain rfl := Option.some.inj H
    go_enter Try.func141, Try.ntmps141
    go_wp2_with (first | ((with_reducible refine gate_dst (N := 2) rfl ?_); refine boxev 2 #[.int .i64 a0_0, .int .i64 a0_1, .int .i64 a0_2, .int .i64 a0_3, .bool a0_4] 91 ?_; intro gb125 hg w15 hbox hb; have BK125 := ak (hbox); have GW125 := ak (hgl hg (belowd HB)); have GE125 := ak (hgl hg (belowd HB)); replace HB := ak (below_step (belowd HB) hb); clear hb hbox hg) | ((with_reducible refine gate_dst (N := 3) rfl ?_); refine boxev 3 #[.int .i64 a1_0, .int .i64 a1_1, .int .i64 a1_2, .int .i64 a1_3, .bool a1_4] 91 ?_; intro gb126 hg w16 hbox hb; have BK126 := ak (hbox); have GW126 := ak (hgl hg (belowg1 HB GE125)); have GE126 := ak (hgl hg (belowg1 HB GE125)); replace HB := ak (below_step (belowg1 HB GE125) hb); have NB125_126 := ak ((by rw [hg]; exact Nat.ne_of_lt (blk_lt (blkd BK125)) : gb125 ≠ gb126)); have NB126_125 := ak ((by rw [hg]; exact Nat.ne_of_gt (blk_lt (blkd BK125)) : gb126 ≠ gb125)); replace BK125 := ak (blk_below (blkd BK125) hb); clear hb hbox hg; have hnb17 := NB125_126.out; have hnc17 := NB126_125.out; obtain ⟨hcz18_0, hcz18_1, hcz18_2, hcz18_3, hcz18_4, hfz18_0, hfz18_1, hfz18_2, hfz18_3, hfz18_4⟩ := box5 BK125; obtain ⟨hcz19_0, hcz19_1, hcz19_2, hcz19_3, hcz19_4, hfz19_0, hfz19_1, hfz19_2, hfz19_3, hfz19_4⟩ := box5 BK126) | ((with_reducible refine gate_callee (f := 140) rfl ?_); refine goesLa (some 14) rfl Try.func140 #[.agg #[.int .i64 a0_1, .int .i64 a0_2, .int .i64 a0_3], .agg #[.int .i64 a1_1, .int .i64 a1_2, .int .i64 a1_3]] rfl ?_; (with_reducible refine (laws_eqClaim.calls a0_1 a0_2 a0_3 a1_1 a1_2 a1_3 true _ A4.out).mono ?_); rintro e w20 ⟨rfl, hb⟩; refine ⟨_, rfl, ?_⟩; replace BK125 := ak (blk_below (blkd BK125) hb); replace BK126 := ak (blk_below (blkd BK126) hb); replace HB := ak (below_step (belowg2 HB GE125 GE126) hb); (try clear hb); obtain ⟨hcz21_0, hcz21_1, hcz21_2, hcz21_3, hcz21_4, hfz21_0, hfz21_1, hfz21_2, hfz21_3, hfz21_4⟩ := box5 BK125; obtain ⟨hcz22_0, hcz22_1, hcz22_2, hcz22_3, hcz22_4, hfz22_0, hfz22_1, hfz22_2, hfz22_3, hfz22_4⟩ := box5 BK126))
    go_ret
    exact ⟨er2, belowg2 HB GE125 GE126⟩
  ·replace c5 := Bool.eq_false_iff.mpr c5
   subst c5
   have H1 : (some false) = some r := by rw [if_neg (show ¬ (false = true) by decide)] at H; exact H
   clear H
   have H := H1
   clear H1
   obtain rfl := Option.some.inj H
   go_enter Try.func141, Try.ntmps141
   go_wp2_with (first | ((with_reducible refine gate_dst (N := 2) rfl ?_); refine boxev 2 #[.int .i64 a0_0, .int .i64 a0_1, .int .i64 a0_2, .int .i64 a0_3, .bool a0_4] 91 ?_; intro gb125 hg w23 hbox hb; have BK125 := ak (hbox); have GW125 := ak (hgl hg (belowd HB)); have GE125 := ak (hgl hg (belowd HB)); replace HB := ak (below_step (belowd HB) hb); clear hb hbox hg) | ((with_reducible refine gate_dst (N := 3) rfl ?_); refine boxev 3 #[.int .i64 a1_0, .int .i64 a1_1, .int .i64 a1_2, .int .i64 a1_3, .bool a1_4] 91 ?_; intro gb126 hg w24 hbox hb; have BK126 := ak (hbox); have GW126 := ak (hgl hg (belowg1 HB GE125)); have GE126 := ak (hgl hg (belowg1 HB GE125)); replace HB := ak (below_step (belowg1 HB GE125) hb); have NB125_126 := ak ((by rw [hg]; exact Nat.ne_of_lt (blk_lt (blkd BK125)) : gb125 ≠ gb126)); have NB126_125 := ak ((by rw [hg]; exact Nat.ne_of_gt (blk_lt (blkd BK125)) : gb126 ≠ gb125)); replace BK125 := ak (blk_below (blkd BK125) hb); clear hb hbox hg; have hnb25 := NB125_126.out; have hnc25 := NB126_125.out; obtain ⟨hcz26_0, hcz26_1, hcz26_2, hcz26_3, hcz26_4, hfz26_0, hfz26_1, hfz26_2, hfz26_3, hfz26_4⟩ := box5 BK125; obtain ⟨hcz27_0, hcz27_1, hcz27_2, hcz27_3, hcz27_4, hfz27_0, hfz27_1, hfz27_2, hfz27_3, hfz27_4⟩ := box5 BK126) | ((with_reducible refine gate_callee (f := 140) rfl ?_); refine goesLa (some 14) rfl Try.func140 #[.agg #[.int .i64 a0_1, .int .i64 a0_2, .int .i64 a0_3], .agg #[.int .i64 a1_1, .int .i64 a1_2, .int .i64 a1_3]] rfl ?_; (with_reducible refine (laws_eqClaim.calls a0_1 a0_2 a0_3 a1_1 a1_2 a1_3 false _ A4.out).mono ?_); rintro e w28 ⟨rfl, hb⟩; refine ⟨_, rfl, ?_⟩; replace BK125 := ak (blk_below (blkd BK125) hb); replace BK126 := ak (blk_below (blkd BK126) hb); replace HB := ak (below_step (belowg2 HB GE125 GE126) hb); (try clear hb)))
   go_ret
   exact ⟨er2, belowg2 HB GE125 GE126⟩
 ·rw [if_neg c3] at H
  have c3b0 : (a0_0 == a1_0) = false := beq_eq_false_iff_ne.mpr c3
  have c3b1 : (a0_0 != a1_0) = true := bne_iff_ne.mpr c3
  obtain rfl := Option.some.inj H
  go_enter Try.func141, Try.ntmps141
  go_wp2_with (first | ((with_reducible refine gate_dst (N := 2) rfl ?_); refine boxev 2 #[.int .i64 a0_0, .int .i64 a0_1, .int .i64 a0_2, .int .i64 a0_3, .bool a0_4] 91 ?_; intro gb125 hg w29 hbox hb; have BK125 := ak (hbox); have GW125 := ak (hgl hg (belowd HB)); have GE125 := ak (hgl hg (belowd HB)); replace HB := ak (below_step (belowd HB) hb); clear hb hbox hg) | ((with_reducible refine gate_dst (N := 3) rfl ?_); refine boxev 3 #[.int .i64 a1_0, .int .i64 a1_1, .int .i64 a1_2, .int .i64 a1_3, .bool a1_4] 91 ?_; intro gb126 hg w30 hbox hb; have BK126 := ak (hbox); have GW126 := ak (hgl hg (belowg1 HB GE125)); have GE126 := ak (hgl hg (belowg1 HB GE125)); replace HB := ak (below_step (belowg1 HB GE125) hb); have NB125_126 := ak ((by rw [hg]; exact Nat.ne_of_lt (blk_lt (blkd BK125)) : gb125 ≠ gb126)); have NB126_125 := ak ((by rw [hg]; exact Nat.ne_of_gt (blk_lt (blkd BK125)) : gb126 ≠ gb125)); replace BK125 := ak (blk_below (blkd BK125) hb); clear hb hbox hg; have hnb31 := NB125_126.out; have hnc31 := NB126_125.out; obtain ⟨hcz32_0, hcz32_1, hcz32_2, hcz32_3, hcz32_4, hfz32_0, hfz32_1, hfz32_2, hfz32_3, hfz32_4⟩ := box5 BK125; obtain ⟨hcz33_0, hcz33_1, hcz33_2, hcz33_3, hcz33_4, hfz33_0, hfz33_1, hfz33_2, hfz33_3, hfz33_4⟩ := box5 BK126))
  go_ret
  exact ⟨er2, belowg2 HB GE125 GE126⟩

/-! ### laws_eqStatementS: function 52 -/
def laws_eqStatementS.l0 : Nat → List (S91) → List (S91) → Int → Option (Bool)
  | 0, _, _, _ => none
  | k + 1, x0, x1, x5 => if x5 < (x0.length : Int) then (if 0 ≤ x5 then (if x5 < (x1.length : Int) then ((laws_eqStatement.f ((rd_T91 x0 x5).f0) ((rd_T91 x0 x5).f1.f0) ((rd_T91 x0 x5).f1.f1) ((rd_T91 x0 x5).f1.f2) ((rd_T91 x0 x5).f2) ((rd_T91 x1 x5).f0) ((rd_T91 x1 x5).f1.f0) ((rd_T91 x1 x5).f1.f1) ((rd_T91 x1 x5).f1.f2) ((rd_T91 x1 x5).f2)).bind fun t130 => (if t130 = true then (laws_eqStatementS.l0 k x0 x1 (wrap64 (x5 + 1))) else (some false))) else (none)) else (none)) else (some true)
def laws_eqStatementS.f (k : Nat) (l0 : List (S91)) (l1 : List (S91)) : Option (Bool) := if (l0.length : Int) = (l1.length : Int) then (laws_eqStatementS.l0 k l0 l1 0) else (some false)
theorem laws_eqStatementS.mono_l : ∀ k, (∀ y0 y1 y2, LeO (laws_eqStatementS.l0 k y0 y1 y2) (laws_eqStatementS.l0 (k + 1) y0 y1 y2))
 | 0 => fun _ _ _ r h => by simp [laws_eqStatementS.l0] at h
 | k + 1 => by
  have ih0 := laws_eqStatementS.mono_l k
  ·intro y0 y1 y2
   unfold laws_eqStatementS.l0
   repeat' (first | (with_reducible first | exact ih0 _ _ _ | exact LeO.refl _ | exact LeO.none _ | refine LeO.ite ?_ ?_ | refine LeO.bind ?_ (fun _ => ?_)) | exact ih0 _ _ _ | exact LeO.none _ | refine LeO.ite ?_ ?_ | refine LeO.bind ?_ (fun _ => ?_))
theorem laws_eqStatementS.mono : ∀ a0 a1 k, LeO (laws_eqStatementS.f k a0 a1) (laws_eqStatementS.f (k + 1) a0 a1) := by
 intro a0 a1 k
 have ih0 := laws_eqStatementS.mono_l k
 unfold laws_eqStatementS.f
 repeat' (first | (with_reducible first | exact ih0 _ _ _ | exact LeO.refl _ | exact LeO.none _ | refine LeO.ite ?_ ?_ | refine LeO.bind ?_ (fun _ => ?_)) | exact ih0 _ _ _ | exact LeO.none _ | refine LeO.ite ?_ ?_ | refine LeO.bind ?_ (fun _ => ?_))
def laws_eqStatementS.T6 : Bool × List (List Nat × List Nat) := (true, [([], []), ([], []), ([0, 1], [0, 1]), ([2], [2]), ([], []), ([], []), ([4, 5], [4, 5]), ([6], [6]), ([3, 7], [3, 7]), ([8], [8])])
def laws_eqStatementS.B6 : List Nat := [0, 0, 3, 7, 0, 0, 48, 112, 255, 511]
theorem laws_eqStatementS.tab6 : rtab .any (opsOf Try.f52 6) = laws_eqStatementS.T6 := by kernel_rfl
theorem laws_eqStatementS.bits6 : waitsOk laws_eqStatementS.T6.2 laws_eqStatementS.B6 = true := by kernel_rfl
set_option maxHeartbeats 8000000 in
set_option maxRecDepth 100000 in
theorem laws_eqStatementS.calls (k : Nat) (A0 : Option Addr) (c0 : Nat) (l0 : List (S91)) (A1 : Option Addr) (c1 : Nat) (l1 : List (S91)) (r : Bool) (w : World) (hr0 : Kd.C k91 w A0 l0.length l0) (hc0 : l0.length ≤ c0) (hr1 : Kd.C k91 w A1 l1.length l1) (hc1 : l1.length ≤ c1) (h : laws_eqStatementS.f k l0 l1 = some r) :
  Calls Try.prog 52 #[.slice A0 l0.length c0, .slice A1 l1.length c1] w fun e w' => e = .returned (.bool r) ∧ Below w.heap.size w w' := by
 have hu91 := Try.underlying91
 have HR0 := Aside0.mk hr0; have HC0 := Aside0.mk hc0; clear hr0 hc0; have HR1 := Aside0.mk hr1; have HC1 := Aside0.mk hc1; clear hr1 hc1
 have HB := Aside0.mk (Below.refl w.heap.size w)
 have H : (if (l0.length : Int) = (l1.length : Int) then (laws_eqStatementS.l0 k l0 l1 0) else (some false)) = some r := h
 clear h
 by_cases c3 : (l0.length : Int) = (l1.length : Int)
 ·rw [if_pos c3] at H
  have c3b0 : ((l0.length : Int) == (l1.length : Int)) = true := beq_iff_eq.mpr c3
  have c3b1 : ((l0.length : Int) != (l1.length : Int)) = false := bne_eq_false_iff_eq.mpr c3
  have c3b2 : (l0.length == l1.length) = true := by first | simpa using c3 | (simp at c3 ⊢; omega)
  clear c3
  have H' := Aside0.mk H
  clear H
  go_enter Try.func52, Try.ntmps52
  go_wp2
  go_loopg [5] k (fun kq v5 w' => ∃ (x5_1 : Int), v5 = .int .i64 x5_1 ∧ Aside0 (laws_eqStatementS.l0 kq l0 l1 x5_1 = some r) ∧ Aside0 (kq ≤ k) ∧ Aside0 (Below w.heap.size w w'))
  case atStart => exact ⟨(0), er, H', ⟨Nat.le_refl _⟩, ⟨belowd HB⟩⟩
  case round =>
   clear H'
   (try clear c1); (try clear c3b0); (try clear c3b1); (try clear c3b2)
   obtain ⟨x5_1, rfl, HA, HK1, HB⟩ := hrel
   cases gk with
   | zero => exact absurd HA.out (by simp [laws_eqStatementS.l0])
   | succ k1 =>
    have H := HA.out; clear HA
    simp only [laws_eqStatementS.l0] at H
    by_cases c4 : x5_1 < (l0.length : Int)
    ·rw [if_pos c4] at H
     have c4b0 : decide (x5_1 < (l0.length : Int)) = true := decide_eq_true c4
     clear c4; replace H := ifS H; obtain ⟨c5, H⟩ := H; have c5b0 := decide_eq_true c5; clear c5; replace H := ifS H; obtain ⟨c6, H⟩ := H; have c6b0 := decide_eq_true c6; clear c6; replace H := bS H; obtain ⟨t130, A7, H⟩ := H
     replace H : (if t130 = true then (laws_eqStatementS.l0 k1 l0 l1 (wrap64 (x5_1 + 1))) else (some false)) = some r := H
     by_cases c8 : t130 = true
     ·subst c8
      have H1 : (laws_eqStatementS.l0 k1 l0 l1 (wrap64 (x5_1 + 1))) = some r := by rw [if_pos rfl] at H; exact H
      clear H
      have H := H1
      clear H1
      have H' := Aside0.mk H
      clear H
      try go_wp2
      replace HB := ak (below_drew1 HB.out)
      have p128 : 0 ≤ (x5_1 : Int) := da
      have q128 : x5_1 < (l0.length : Int) := da
      obtain ⟨ad128, e128, hx128_0, hx128_1, hx128_2, hx128_3, hx128_4⟩ := at_T91 HR0.out x5_1 p128 q128
      have hw128_4 := hx128_4
      have hw128_3 := hx128_3
      have hw128_2 := hx128_2
      have hw128_1 := hx128_1
      have hw128_0 := hx128_0
      cases e128
      replace hx128_0 := (HB.out.cell (World.block_lt_of_cell? w _ hx128_0)).trans hx128_0
      replace hx128_1 := (HB.out.cell (World.block_lt_of_cell? w _ hx128_1)).trans hx128_1
      replace hx128_2 := (HB.out.cell (World.block_lt_of_cell? w _ hx128_2)).trans hx128_2
      replace hx128_3 := (HB.out.cell (World.block_lt_of_cell? w _ hx128_3)).trans hx128_3
      replace hx128_4 := (HB.out.cell (World.block_lt_of_cell? w _ hx128_4)).trans hx128_4
      replace p128 := eq_true p128; replace q128 := eq_true q128
      have p129 : 0 ≤ (x5_1 : Int) := da
      have q129 : x5_1 < (l1.length : Int) := da
      obtain ⟨ad129, e129, hx129_0, hx129_1, hx129_2, hx129_3, hx129_4⟩ := at_T91 HR1.out x5_1 p129 q129
      have hw129_4 := hx129_4
      have hw129_3 := hx129_3
      have hw129_2 := hx129_2
      have hw129_1 := hx129_1
      have hw129_0 := hx129_0
      cases e129
      replace hx129_0 := (HB.out.cell (World.block_lt_of_cell? w _ hx129_0)).trans hx129_0
      replace hx129_1 := (HB.out.cell (World.block_lt_of_cell? w _ hx129_1)).trans hx129_1
      replace hx129_2 := (HB.out.cell (World.block_lt_of_cell? w _ hx129_2)).trans hx129_2
      replace hx129_3 := (HB.out.cell (World.block_lt_of_cell? w _ hx129_3)).trans hx129_3
      replace hx129_4 := (HB.out.cell (World.block_lt_of_cell? w _ hx129_4)).trans hx129_4
      replace p129 := eq_true p129; replace q129 := eq_true q129
      refine start_ (n := 10) (S := fun w' => w'.cell? (ad128.add ((x5_1).toNat * 5)) = some (.int .i64 ((rd_T91 l0 x5_1).f0)) ∧ w'.cell? ⟨(ad128.add ((x5_1).toNat * 5)).block, (ad128.add ((x5_1).toNat * 5)).off + 1, none⟩ = some (.int .i64 ((rd_T91 l0 x5_1).f1.f0)) ∧ w'.cell? ⟨(ad128.add ((x5_1).toNat * 5)).block, (ad128.add ((x5_1).toNat * 5)).off + 2, none⟩ = some (.int .i64 ((rd_T91 l0 x5_1).f1.f1)) ∧ w'.cell? ⟨(ad128.add ((x5_1).toNat * 5)).block, (ad128.add ((x5_1).toNat * 5)).off + 3, none⟩ = some (.int .i64 ((rd_T91 l0 x5_1).f1.f2)) ∧ w'.cell? ⟨(ad128.add ((x5_1).toNat * 5)).block, (ad128.add ((x5_1).toNat * 5)).off + 4, none⟩ = some (.bool ((rd_T91 l0 x5_1).f2)) ∧ w'.cell? (ad129.add ((x5_1).toNat * 5)) = some (.int .i64 ((rd_T91 l1 x5_1).f0)) ∧ w'.cell? ⟨(ad129.add ((x5_1).toNat * 5)).block, (ad129.add ((x5_1).toNat * 5)).off + 1, none⟩ = some (.int .i64 ((rd_T91 l1 x5_1).f1.f0)) ∧ w'.cell? ⟨(ad129.add ((x5_1).toNat * 5)).block, (ad129.add ((x5_1).toNat * 5)).off + 2, none⟩ = some (.int .i64 ((rd_T91 l1 x5_1).f1.f1)) ∧ w'.cell? ⟨(ad129.add ((x5_1).toNat * 5)).block, (ad129.add ((x5_1).toNat * 5)).off + 3, none⟩ = some (.int .i64 ((rd_T91 l1 x5_1).f1.f2)) ∧ w'.cell? ⟨(ad129.add ((x5_1).toNat * 5)).block, (ad129.add ((x5_1).toNat * 5)).off + 4, none⟩ = some (.bool ((rd_T91 l1 x5_1).f2))) (ds := []) (bl 10 0) (by kernel_rfl) rfl rfl ⟨((HB.out.cell (World.block_lt_of_cell? w _ hw128_0)).trans hw128_0), ((HB.out.cell (World.block_lt_of_cell? w _ hw128_1)).trans hw128_1), ((HB.out.cell (World.block_lt_of_cell? w _ hw128_2)).trans hw128_2), ((HB.out.cell (World.block_lt_of_cell? w _ hw128_3)).trans hw128_3), ((HB.out.cell (World.block_lt_of_cell? w _ hw128_4)).trans hw128_4), ((HB.out.cell (World.block_lt_of_cell? w _ hw129_0)).trans hw129_0), ((HB.out.cell (World.block_lt_of_cell? w _ hw129_1)).trans hw129_1), ((HB.out.cell (World.block_lt_of_cell? w _ hw129_2)).trans hw129_2), ((HB.out.cell (World.block_lt_of_cell? w _ hw129_3)).trans hw129_3), ((HB.out.cell (World.block_lt_of_cell? w _ hw129_4)).trans hw129_4)⟩ (fun hHeld => ?_); refine with_tabW laws_eqStatementS.tab6 laws_eqStatementS.bits6 (fun HT_ HW_ => ?_)
      generalize wr.drew = w9 at HB hx128_0 hx128_1 hx128_2 hx128_3 hx128_4 hx129_0 hx129_1 hx129_2 hx129_3 hx129_4 hHeld ⊢
      refine pureA 0 (some 17) 10 1 HT_ ?_
      refine pureA 1 (some 18) 10 3 HT_ ?_
      refine pureA 2 (some 19) 10 7 HT_ ?_
      refine pureA 4 (some 21) 10 23 HT_ ?_
      refine pureA 5 (some 22) 10 55 HT_ ?_
      refine pureA 6 (some 23) 10 119 HT_ ?_
      refine takeA 3 (some 20) 10 127 HT_ HW_ hHeld ?_ (hy := by rintro w' ⟨s0, s1, s2, s3, s4, s5, s6, s7, s8, s9⟩; go_simp; with_reducible rfl)
      refine takeA 7 (some 24) 10 255 HT_ HW_ hHeld ?_ (hy := by rintro w' ⟨s0, s1, s2, s3, s4, s5, s6, s7, s8, s9⟩; go_simp; with_reducible rfl)
      refine oneA 8 (some 25) 10 511 HT_ (fun K hK => ?_)
      refine goes_ Try.func141 (by kernel_rfl) rfl #[.agg #[.int .i64 ((rd_T91 l0 x5_1).f0), .int .i64 ((rd_T91 l0 x5_1).f1.f0), .int .i64 ((rd_T91 l0 x5_1).f1.f1), .int .i64 ((rd_T91 l0 x5_1).f1.f2), .bool ((rd_T91 l0 x5_1).f2)], .agg #[.int .i64 ((rd_T91 l1 x5_1).f0), .int .i64 ((rd_T91 l1 x5_1).f1.f0), .int .i64 ((rd_T91 l1 x5_1).f1.f1), .int .i64 ((rd_T91 l1 x5_1).f1.f2), .bool ((rd_T91 l1 x5_1).f2)]] (by rfl) rfl rfl (by (try simp only [List.map_toArray, List.map_cons, List.map_nil]); first | done | rfl | (simp only [List.length_drop, List.length_take]; rfl)) ?_
      with_reducible refine (laws_eqStatement.calls ((rd_T91 l0 x5_1).f0) ((rd_T91 l0 x5_1).f1.f0) ((rd_T91 l0 x5_1).f1.f1) ((rd_T91 l0 x5_1).f1.f2) ((rd_T91 l0 x5_1).f2) ((rd_T91 l1 x5_1).f0) ((rd_T91 l1 x5_1).f1.f0) ((rd_T91 l1 x5_1).f1.f1) ((rd_T91 l1 x5_1).f1.f2) ((rd_T91 l1 x5_1).f2) true _ A7.out).mono ?_
      rintro e w10 ⟨rfl, hb⟩
      refine ⟨_, rfl, ?_⟩
      replace HB := ak (below_step (belowd HB) hb)
      (try clear hb); (try clear hb2); (try clear hk); (try clear hi)
      refine hK.out _ _ ⟨((HB.out.cell (World.block_lt_of_cell? w _ hw128_0)).trans hw128_0), ((HB.out.cell (World.block_lt_of_cell? w _ hw128_1)).trans hw128_1), ((HB.out.cell (World.block_lt_of_cell? w _ hw128_2)).trans hw128_2), ((HB.out.cell (World.block_lt_of_cell? w _ hw128_3)).trans hw128_3), ((HB.out.cell (World.block_lt_of_cell? w _ hw128_4)).trans hw128_4), ((HB.out.cell (World.block_lt_of_cell? w _ hw129_0)).trans hw129_0), ((HB.out.cell (World.block_lt_of_cell? w _ hw129_1)).trans hw129_1), ((HB.out.cell (World.block_lt_of_cell? w _ hw129_2)).trans hw129_2), ((HB.out.cell (World.block_lt_of_cell? w _ hw129_3)).trans hw129_3), ((HB.out.cell (World.block_lt_of_cell? w _ hw129_4)).trans hw129_4)⟩ (fun hHeld => ?_)
      clear hK K
      refine norm_ (a' := ?_) ?_ ?_
      rotate_left
      ·show Act.put _ (some 25) _ = _
       simp only [Act.put, List.setIfInBounds_toArray, List.set_cons_zero, List.set_cons_succ, i64_w, i32_w]
       rfl
      refine pureA 9 (some 26) 10 1023 HT_ ?_
      refine done_ (done_of HT_.out (by kernel_rfl)) ?_
      try go_wp2
      go_roundg k1
      case measure => have := HK1.out; omega
      case rel => exact ⟨(wrap64 (x5_1 + 1)), er, H', ⟨by have := HK1.out; omega⟩, ⟨belowd HB⟩⟩
     ·replace c8 := Bool.eq_false_iff.mpr c8
      subst c8
      have H1 : (some false) = some r := by rw [if_neg (show ¬ (false = true) by decide)] at H; exact H
      clear H
      have H := H1
      clear H1
      obtain rfl := Option.some.inj H
      try go_wp2
      replace HB := ak (below_drew1 HB.out)
      have p128 : 0 ≤ (x5_1 : Int) := da
      have q128 : x5_1 < (l0.length : Int) := da
      obtain ⟨ad128, e128, hx128_0, hx128_1, hx128_2, hx128_3, hx128_4⟩ := at_T91 HR0.out x5_1 p128 q128
      have hw128_4 := hx128_4
      have hw128_3 := hx128_3
      have hw128_2 := hx128_2
      have hw128_1 := hx128_1
      have hw128_0 := hx128_0
      cases e128
      replace hx128_0 := (HB.out.cell (World.block_lt_of_cell? w _ hx128_0)).trans hx128_0
      replace hx128_1 := (HB.out.cell (World.block_lt_of_cell? w _ hx128_1)).trans hx128_1
      replace hx128_2 := (HB.out.cell (World.block_lt_of_cell? w _ hx128_2)).trans hx128_2
      replace hx128_3 := (HB.out.cell (World.block_lt_of_cell? w _ hx128_3)).trans hx128_3
      replace hx128_4 := (HB.out.cell (World.block_lt_of_cell? w _ hx128_4)).trans hx128_4
      replace p128 := eq_true p128; replace q128 := eq_true q128
      have p129 : 0 ≤ (x5_1 : Int) := da
      have q129 : x5_1 < (l1.length : Int) := da
      obtain ⟨ad129, e129, hx129_0, hx129_1, hx129_2, hx129_3, hx129_4⟩ := at_T91 HR1.out x5_1 p129 q129
      have hw129_4 := hx129_4
      have hw129_3 := hx129_3
      have hw129_2 := hx129_2
      have hw129_1 := hx129_1
      have hw129_0 := hx129_0
      cases e129
      replace hx129_0 := (HB.out.cell (World.block_lt_of_cell? w _ hx129_0)).trans hx129_0
      replace hx129_1 := (HB.out.cell (World.block_lt_of_cell? w _ hx129_1)).trans hx129_1
      replace hx129_2 := (HB.out.cell (World.block_lt_of_cell? w _ hx129_2)).trans hx129_2
      replace hx129_3 := (HB.out.cell (World.block_lt_of_cell? w _ hx129_3)).trans hx129_3
      replace hx129_4 := (HB.out.cell (World.block_lt_of_cell? w _ hx129_4)).trans hx129_4
      replace p129 := eq_true p129; replace q129 := eq_true q129
      refine start_ (n := 10) (S := fun w' => w'.cell? (ad128.add ((x5_1).toNat * 5)) = some (.int .i64 ((rd_T91 l0 x5_1).f0)) ∧ w'.cell? ⟨(ad128.add ((x5_1).toNat * 5)).block, (ad128.add ((x5_1).toNat * 5)).off + 1, none⟩ = some (.int .i64 ((rd_T91 l0 x5_1).f1.f0)) ∧ w'.cell? ⟨(ad128.add ((x5_1).toNat * 5)).block, (ad128.add ((x5_1).toNat * 5)).off + 2, none⟩ = some (.int .i64 ((rd_T91 l0 x5_1).f1.f1)) ∧ w'.cell? ⟨(ad128.add ((x5_1).toNat * 5)).block, (ad128.add ((x5_1).toNat * 5)).off + 3, none⟩ = some (.int .i64 ((rd_T91 l0 x5_1).f1.f2)) ∧ w'.cell? ⟨(ad128.add ((x5_1).toNat * 5)).block, (ad128.add ((x5_1).toNat * 5)).off + 4, none⟩ = some (.bool ((rd_T91 l0 x5_1).f2)) ∧ w'.cell? (ad129.add ((x5_1).toNat * 5)) = some (.int .i64 ((rd_T91 l1 x5_1).f0)) ∧ w'.cell? ⟨(ad129.add ((x5_1).toNat * 5)).block, (ad129.add ((x5_1).toNat * 5)).off + 1, none⟩ = some (.int .i64 ((rd_T91 l1 x5_1).f1.f0)) ∧ w'.cell? ⟨(ad129.add ((x5_1).toNat * 5)).block, (ad129.add ((x5_1).toNat * 5)).off + 2, none⟩ = some (.int .i64 ((rd_T91 l1 x5_1).f1.f1)) ∧ w'.cell? ⟨(ad129.add ((x5_1).toNat * 5)).block, (ad129.add ((x5_1).toNat * 5)).off + 3, none⟩ = some (.int .i64 ((rd_T91 l1 x5_1).f1.f2)) ∧ w'.cell? ⟨(ad129.add ((x5_1).toNat * 5)).block, (ad129.add ((x5_1).toNat * 5)).off + 4, none⟩ = some (.bool ((rd_T91 l1 x5_1).f2))) (ds := []) (bl 10 0) (by kernel_rfl) rfl rfl ⟨((HB.out.cell (World.block_lt_of_cell? w _ hw128_0)).trans hw128_0), ((HB.out.cell (World.block_lt_of_cell? w _ hw128_1)).trans hw128_1), ((HB.out.cell (World.block_lt_of_cell? w _ hw128_2)).trans hw128_2), ((HB.out.cell (World.block_lt_of_cell? w _ hw128_3)).trans hw128_3), ((HB.out.cell (World.block_lt_of_cell? w _ hw128_4)).trans hw128_4), ((HB.out.cell (World.block_lt_of_cell? w _ hw129_0)).trans hw129_0), ((HB.out.cell (World.block_lt_of_cell? w _ hw129_1)).trans hw129_1), ((HB.out.cell (World.block_lt_of_cell? w _ hw129_2)).trans hw129_2), ((HB.out.cell (World.block_lt_of_cell? w _ hw129_3)).trans hw129_3), ((HB.out.cell (World.block_lt_of_cell? w _ hw129_4)).trans hw129_4)⟩ (fun hHeld => ?_); refine with_tabW laws_eqStatementS.tab6 laws_eqStatementS.bits6 (fun HT_ HW_ => ?_)
      generalize wr.drew = w11 at HB hx128_0 hx128_1 hx128_2 hx128_3 hx128_4 hx129_0 hx129_1 hx129_2 hx129_3 hx129_4 hHeld ⊢
      refine pureA 0 (some 17) 10 1 HT_ ?_
      refine pureA 1 (some 18) 10 3 HT_ ?_
      refine pureA 2 (some 19) 10 7 HT_ ?_
      refine pureA 4 (some 21) 10 23 HT_ ?_
      refine pureA 5 (some 22) 10 55 HT_ ?_
      refine pureA 6 (some 23) 10 119 HT_ ?_
      refine takeA 3 (some 20) 10 127 HT_ HW_ hHeld ?_ (hy := by rintro w' ⟨s0, s1, s2, s3, s4, s5, s6, s7, s8, s9⟩; go_simp; with_reducible rfl)
      refine takeA 7 (some 24) 10 255 HT_ HW_ hHeld ?_ (hy := by rintro w' ⟨s0, s1, s2, s3, s4, s5, s6, s7, s8, s9⟩; go_simp; with_reducible rfl)
      refine oneA 8 (some 25) 10 511 HT_ (fun K hK => ?_)
      refine goes_ Try.func141 (by kernel_rfl) rfl #[.agg #[.int .i64 ((rd_T91 l0 x5_1).f0), .int .i64 ((rd_T91 l0 x5_1).f1.f0), .int .i64 ((rd_T91 l0 x5_1).f1.f1), .int .i64 ((rd_T91 l0 x5_1).f1.f2), .bool ((rd_T91 l0 x5_1).f2)], .agg #[.int .i64 ((rd_T91 l1 x5_1).f0), .int .i64 ((rd_T91 l1 x5_1).f1.f0), .int .i64 ((rd_T91 l1 x5_1).f1.f1), .int .i64 ((rd_T91 l1 x5_1).f1.f2), .bool ((rd_T91 l1 x5_1).f2)]] (by rfl) rfl rfl (by (try simp only [List.map_toArray, List.map_cons, List.map_nil]); first | done | rfl | (simp only [List.length_drop, List.length_take]; rfl)) ?_
      with_reducible refine (laws_eqStatement.calls ((rd_T91 l0 x5_1).f0) ((rd_T91 l0 x5_1).f1.f0) ((rd_T91 l0 x5_1).f1.f1) ((rd_T91 l0 x5_1).f1.f2) ((rd_T91 l0 x5_1).f2) ((rd_T91 l1 x5_1).f0) ((rd_T91 l1 x5_1).f1.f0) ((rd_T91 l1 x5_1).f1.f1) ((rd_T91 l1 x5_1).f1.f2) ((rd_T91 l1 x5_1).f2) false _ A7.out).mono ?_
      rintro e w12 ⟨rfl, hb⟩
      refine ⟨_, rfl, ?_⟩
      replace HB := ak (below_step (belowd HB) hb)
      (try clear hb); (try clear hb2); (try clear hk); (try clear hi)
      refine hK.out _ _ ⟨((HB.out.cell (World.block_lt_of_cell? w _ hw128_0)).trans hw128_0), ((HB.out.cell (World.block_lt_of_cell? w _ hw128_1)).trans hw128_1), ((HB.out.cell (World.block_lt_of_cell? w _ hw128_2)).trans hw128_2), ((HB.out.cell (World.block_lt_of_cell? w _ hw128_3)).trans hw128_3), ((HB.out.cell (World.block_lt_of_cell? w _ hw128_4)).trans hw128_4), ((HB.out.cell (World.block_lt_of_cell? w _ hw129_0)).trans hw129_0), ((HB.out.cell (World.block_lt_of_cell? w _ hw129_1)).trans hw129_1), ((HB.out.cell (World.block_lt_of_cell? w _ hw129_2)).trans hw129_2), ((HB.out.cell (World.block_lt_of_cell? w _ hw129_3)).trans hw129_3), ((HB.out.cell (World.block_lt_of_cell? w _ hw129_4)).trans hw129_4)⟩ (fun hHeld => ?_)
      clear hK K
      refine norm_ (a' := ?_) ?_ ?_
      rotate_left
      ·show Act.put _ (some 25) _ = _
       simp only [Act.put, List.setIfInBounds_toArray, List.set_cons_zero, List.set_cons_succ, i64_w, i32_w]
       rfl
      refine pureA 9 (some 26) 10 1023 HT_ ?_
      refine done_ (done_of HT_.out (by kernel_rfl)) ?_
      try go_wp2
      go_ret
      exact ⟨er2, belowd HB⟩
    ·rw [if_neg c4] at H
     have c4b0 : decide (x5_1 < (l0.length : Int)) = false := decide_eq_false c4
     clear c4
     obtain rfl := Option.some.inj H
     go_wp2
     go_ret
     exact ⟨er2, belowd HB⟩
 ·rw [if_neg c3] at H
  have c3b0 : ((l0.length : Int) == (l1.length : Int)) = false := beq_eq_false_iff_ne.mpr c3
  have c3b1 : ((l0.length : Int) != (l1.length : Int)) = true := bne_iff_ne.mpr c3
  have c3b2 : (l0.length == l1.length) = false := by first | simpa using c3 | (simp at c3 ⊢; omega)
  obtain rfl := Option.some.inj H
  go_enter Try.func52, Try.ntmps52
  go_wp2
  go_ret
  exact ⟨er2, belowd HB⟩

/-! ### laws_markStatementS: function 53 -/
def laws_markStatementS.l0 : Nat → List (S91) → Int → Int → Option (Int × (List (S91)))
  | 0, _, _, _ => none
  | k + 1, x0, x1, x5 => if x5 < (x0.length : Int) then (if 0 ≤ x5 then ((some (x0.set (x5 : Int).toNat (⟨x1, (⟨(rd_T91 x0 x5).f1.f0, (rd_T91 x0 x5).f1.f1, (rd_T91 x0 x5).f1.f2⟩ : S85), (rd_T91 x0 x5).f2⟩ : S91) : List (S91))).bind fun y131 => ((some (y131.set (x5 : Int).toNat (⟨(rd_T91 y131 x5).f0, (⟨wrap64 (x1 + 1), (rd_T91 y131 x5).f1.f1, (rd_T91 y131 x5).f1.f2⟩ : S85), (rd_T91 y131 x5).f2⟩ : S91) : List (S91))).bind fun y132 => ((some (y132.set (x5 : Int).toNat (⟨(rd_T91 y132 x5).f0, (⟨(rd_T91 y132 x5).f1.f0, wrap64 ((wrap64 (x1 + 1)) + 1), (rd_T91 y132 x5).f1.f2⟩ : S85), (rd_T91 y132 x5).f2⟩ : S91) : List (S91))).bind fun y133 => ((some (y133.set (x5 : Int).toNat (⟨(rd_T91 y133 x5).f0, (⟨(rd_T91 y133 x5).f1.f0, (rd_T91 y133 x5).f1.f1, wrap64 ((wrap64 ((wrap64 (x1 + 1)) + 1)) + 1)⟩ : S85), (rd_T91 y133 x5).f2⟩ : S91) : List (S91))).bind fun y134 => (laws_markStatementS.l0 k (y134.set (x5 : Int).toNat (⟨(rd_T91 y134 x5).f0, (⟨(rd_T91 y134 x5).f1.f0, (rd_T91 y134 x5).f1.f1, (rd_T91 y134 x5).f1.f2⟩ : S85), ((Int.tmod (wrap64 ((wrap64 ((wrap64 ((wrap64 (x1 + 1)) + 1)) + 1)) + 1)) 3) == 0)⟩ : S91)) (wrap64 ((wrap64 ((wrap64 ((wrap64 ((wrap64 (x1 + 1)) + 1)) + 1)) + 1)) + 1)) (wrap64 (x5 + 1))))))) else (none)) else (some (x1, x0))
def laws_markStatementS.f (k : Nat) (l0 : List (S91)) (a1 : Int) : Option (Int × (List (S91))) := laws_markStatementS.l0 k l0 a1 0
theorem laws_markStatementS.mono_l : ∀ k, (∀ y0 y1 y2, LeO (laws_markStatementS.l0 k y0 y1 y2) (laws_markStatementS.l0 (k + 1) y0 y1 y2))
 | 0 => fun _ _ _ r h => by simp [laws_markStatementS.l0] at h
 | k + 1 => by
  have ih0 := laws_markStatementS.mono_l k
  ·intro y0 y1 y2
   unfold laws_markStatementS.l0
   repeat' (first | (with_reducible first | exact ih0 _ _ _ | exact LeO.refl _ | exact LeO.none _ | refine LeO.ite ?_ ?_ | refine LeO.bind ?_ (fun _ => ?_)) | exact ih0 _ _ _ | exact LeO.none _ | refine LeO.ite ?_ ?_ | refine LeO.bind ?_ (fun _ => ?_))
theorem laws_markStatementS.mono : ∀ a0 a1 k, LeO (laws_markStatementS.f k a0 a1) (laws_markStatementS.f (k + 1) a0 a1) := by
 intro a0 a1 k
 have ih0 := laws_markStatementS.mono_l k
 unfold laws_markStatementS.f
 repeat' (first | (with_reducible first | exact ih0 _ _ _ | exact LeO.refl _ | exact LeO.none _ | refine LeO.ite ?_ ?_ | refine LeO.bind ?_ (fun _ => ?_)) | exact ih0 _ _ _ | exact LeO.none _ | refine LeO.ite ?_ ?_ | refine LeO.bind ?_ (fun _ => ?_))
set_option maxHeartbeats 8000000 in
set_option maxRecDepth 100000 in
theorem laws_markStatementS.calls (k : Nat) (P0_ : Nat → Prop) (u9000_ : Value) (l0 : List (S91)) (a1 : Int) (r1 : Int) (r2 : List (S91)) (w0 w : World) (hB : Below w0.heap.size w0 w) (ho0 : Kd.R k91 91 w w0.heap.size P0_ u9000_ l0) (h : laws_markStatementS.f k l0 a1 = some (r1, r2)) :
  Calls Try.prog 53 #[u9000_, .int .i64 a1] w fun e w' => e = .returned (.int .i64 r1) ∧ Kd.R k91 91 w' w0.heap.size (fun k_ => (P0_ k_ ∨ w.heap.size ≤ k_)) u9000_ r2 ∧ Below w0.heap.size w0 w' ∧ Kept w w' (fun k_ => P0_ k_) := by
 have HO0 := Aside0.mk (show Kd.R k91 91 w w0.heap.size (fun k_ => (P0_ k_ ∨ w.heap.size ≤ k_)) u9000_ l0 from Kd.R_mono ho0 (fun k_ hk => (.inl hk)))
 have HK := Aside0.mk (Kept.refl w (fun k_ => P0_ k_))
 have HW0 := Aside0.mk hB.size
 have HB := Aside0.mk hB; clear hB
 have H : (laws_markStatementS.l0 k l0 a1 0) = some (r1, r2) := h
 clear h
 have H' := Aside0.mk H
 clear H
 go_enter Try.func53, Try.ntmps53
 go_wp2
 go_loopg [1, 5] k (fun kq v1 v5 w' => ∃ (x0_1 : List (S91)) (x1_1 : Int) (x5_1 : Int), v1 = .int .i64 x1_1 ∧ v5 = .int .i64 x5_1 ∧ Aside0 (laws_markStatementS.l0 kq x0_1 x1_1 x5_1 = some (r1, r2)) ∧ Aside0 (kq ≤ k) ∧ Aside0 (Kd.R k91 91 w' w0.heap.size (fun k_ => (P0_ k_ ∨ w.heap.size ≤ k_)) u9000_ x0_1) ∧ Aside0 (Kept w w' (fun k_ => P0_ k_)) ∧ Aside0 (Below w0.heap.size w0 w'))
 case atStart => exact ⟨(l0), (a1), (0), er, er, H', ⟨Nat.le_refl _⟩, ⟨rdl HO0⟩, ⟨by repeat (first | (with_reducible first | exact HK.out | apply Kept.alloc | apply Kept.drewN | apply Kept.drew) | exact HK.out)⟩, ⟨belowd HB⟩⟩
 case round =>
  clear H'
  obtain ⟨x0_1, x1_1, x5_1, rfl, rfl, HA, HK1, HO_0, HK, HB⟩ := hrel
  cases gk with
  | zero => exact absurd HA.out (by simp [laws_markStatementS.l0])
  | succ k1 =>
   have H := HA.out; clear HA
   simp only [laws_markStatementS.l0] at H
   by_cases c3 : x5_1 < (x0_1.length : Int)
   ·rw [if_pos c3] at H
    have c3b0 : decide (x5_1 < (x0_1.length : Int)) = true := decide_eq_true c3
    clear c3; replace H := ifS H; obtain ⟨c4, H⟩ := H; have c4b0 := decide_eq_true c4; clear c4
    obtain ⟨y131, hy_⟩ : ∃ y_ : List (S91), y_ = (x0_1.set (x5_1 : Int).toNat (⟨x1_1, (⟨(rd_T91 x0_1 x5_1).f1.f0, (rd_T91 x0_1 x5_1).f1.f1, (rd_T91 x0_1 x5_1).f1.f2⟩ : S85), (rd_T91 x0_1 x5_1).f2⟩ : S91)) := ⟨_, rfl⟩
    replace H : ((some (y131.set (x5_1 : Int).toNat (⟨(rd_T91 y131 x5_1).f0, (⟨wrap64 (x1_1 + 1), (rd_T91 y131 x5_1).f1.f1, (rd_T91 y131 x5_1).f1.f2⟩ : S85), (rd_T91 y131 x5_1).f2⟩ : S91) : List (S91))).bind fun y132 => ((some (y132.set (x5_1 : Int).toNat (⟨(rd_T91 y132 x5_1).f0, (⟨(rd_T91 y132 x5_1).f1.f0, wrap64 ((wrap64 (x1_1 + 1)) + 1), (rd_T91 y132 x5_1).f1.f2⟩ : S85), (rd_T91 y132 x5_1).f2⟩ : S91) : List (S91))).bind fun y133 => ((some (y133.set (x5_1 : Int).toNat (⟨(rd_T91 y133 x5_1).f0, (⟨(rd_T91 y133 x5_1).f1.f0, (rd_T91 y133 x5_1).f1.f1, wrap64 ((wrap64 ((wrap64 (x1_1 + 1)) + 1)) + 1)⟩ : S85), (rd_T91 y133 x5_1).f2⟩ : S91) : List (S91))).bind fun y134 => (laws_markStatementS.l0 k1 (y134.set (x5_1 : Int).toNat (⟨(rd_T91 y134 x5_1).f0, (⟨(rd_T91 y134 x5_1).f1.f0, (rd_T91 y134 x5_1).f1.f1, (rd_T91 y134 x5_1).f1.f2⟩ : S85), ((Int.tmod (wrap64 ((wrap64 ((wrap64 ((wrap64 (x1_1 + 1)) + 1)) + 1)) + 1)) 3) == 0)⟩ : S91)) (wrap64 ((wrap64 ((wrap64 ((wrap64 ((wrap64 (x1_1 + 1)) + 1)) + 1)) + 1)) + 1)) (wrap64 (x5_1 + 1)))))) = some (r1, r2) := yH
    have Ny131 := ak hy_; clear hy_
    obtain ⟨y132, hy_⟩ : ∃ y_ : List (S91), y_ = (y131.set (x5_1 : Int).toNat (⟨(rd_T91 y131 x5_1).f0, (⟨wrap64 (x1_1 + 1), (rd_T91 y131 x5_1).f1.f1, (rd_T91 y131 x5_1).f1.f2⟩ : S85), (rd_T91 y131 x5_1).f2⟩ : S91)) := ⟨_, rfl⟩
    replace H : ((some (y132.set (x5_1 : Int).toNat (⟨(rd_T91 y132 x5_1).f0, (⟨(rd_T91 y132 x5_1).f1.f0, wrap64 ((wrap64 (x1_1 + 1)) + 1), (rd_T91 y132 x5_1).f1.f2⟩ : S85), (rd_T91 y132 x5_1).f2⟩ : S91) : List (S91))).bind fun y133 => ((some (y133.set (x5_1 : Int).toNat (⟨(rd_T91 y133 x5_1).f0, (⟨(rd_T91 y133 x5_1).f1.f0, (rd_T91 y133 x5_1).f1.f1, wrap64 ((wrap64 ((wrap64 (x1_1 + 1)) + 1)) + 1)⟩ : S85), (rd_T91 y133 x5_1).f2⟩ : S91) : List (S91))).bind fun y134 => (laws_markStatementS.l0 k1 (y134.set (x5_1 : Int).toNat (⟨(rd_T91 y134 x5_1).f0, (⟨(rd_T91 y134 x5_1).f1.f0, (rd_T91 y134 x5_1).f1.f1, (rd_T91 y134 x5_1).f1.f2⟩ : S85), ((Int.tmod (wrap64 ((wrap64 ((wrap64 ((wrap64 (x1_1 + 1)) + 1)) + 1)) + 1)) 3) == 0)⟩ : S91)) (wrap64 ((wrap64 ((wrap64 ((wrap64 ((wrap64 (x1_1 + 1)) + 1)) + 1)) + 1)) + 1)) (wrap64 (x5_1 + 1))))) = some (r1, r2) := yH
    have Ny132 := ak hy_; clear hy_
    obtain ⟨y133, hy_⟩ : ∃ y_ : List (S91), y_ = (y132.set (x5_1 : Int).toNat (⟨(rd_T91 y132 x5_1).f0, (⟨(rd_T91 y132 x5_1).f1.f0, wrap64 ((wrap64 (x1_1 + 1)) + 1), (rd_T91 y132 x5_1).f1.f2⟩ : S85), (rd_T91 y132 x5_1).f2⟩ : S91)) := ⟨_, rfl⟩
    replace H : ((some (y133.set (x5_1 : Int).toNat (⟨(rd_T91 y133 x5_1).f0, (⟨(rd_T91 y133 x5_1).f1.f0, (rd_T91 y133 x5_1).f1.f1, wrap64 ((wrap64 ((wrap64 (x1_1 + 1)) + 1)) + 1)⟩ : S85), (rd_T91 y133 x5_1).f2⟩ : S91) : List (S91))).bind fun y134 => (laws_markStatementS.l0 k1 (y134.set (x5_1 : Int).toNat (⟨(rd_T91 y134 x5_1).f0, (⟨(rd_T91 y134 x5_1).f1.f0, (rd_T91 y134 x5_1).f1.f1, (rd_T91 y134 x5_1).f1.f2⟩ : S85), ((Int.tmod (wrap64 ((wrap64 ((wrap64 ((wrap64 (x1_1 + 1)) + 1)) + 1)) + 1)) 3) == 0)⟩ : S91)) (wrap64 ((wrap64 ((wrap64 ((wrap64 ((wrap64 (x1_1 + 1)) + 1)) + 1)) + 1)) + 1)) (wrap64 (x5_1 + 1)))) = some (r1, r2) := yH
    have Ny133 := ak hy_; clear hy_
    obtain ⟨y134, hy_⟩ : ∃ y_ : List (S91), y_ = (y133.set (x5_1 : Int).toNat (⟨(rd_T91 y133 x5_1).f0, (⟨(rd_T91 y133 x5_1).f1.f0, (rd_T91 y133 x5_1).f1.f1, wrap64 ((wrap64 ((wrap64 (x1_1 + 1)) + 1)) + 1)⟩ : S85), (rd_T91 y133 x5_1).f2⟩ : S91)) := ⟨_, rfl⟩
    replace H : (laws_markStatementS.l0 k1 (y134.set (x5_1 : Int).toNat (⟨(rd_T91 y134 x5_1).f0, (⟨(rd_T91 y134 x5_1).f1.f0, (rd_T91 y134 x5_1).f1.f1, (rd_T91 y134 x5_1).f1.f2⟩ : S85), ((Int.tmod (wrap64 ((wrap64 ((wrap64 ((wrap64 (x1_1 + 1)) + 1)) + 1)) + 1)) 3) == 0)⟩ : S91)) (wrap64 ((wrap64 ((wrap64 ((wrap64 ((wrap64 (x1_1 + 1)) + 1)) + 1)) + 1)) + 1)) (wrap64 (x5_1 + 1))) = some (r1, r2) := yH
    have Ny134 := ak hy_; clear hy_
    obtain ⟨y135, hy_⟩ : ∃ y_ : List (S91), y_ = (y134.set (x5_1 : Int).toNat (⟨(rd_T91 y134 x5_1).f0, (⟨(rd_T91 y134 x5_1).f1.f0, (rd_T91 y134 x5_1).f1.f1, (rd_T91 y134 x5_1).f1.f2⟩ : S85), ((Int.tmod (wrap64 ((wrap64 ((wrap64 ((wrap64 (x1_1 + 1)) + 1)) + 1)) + 1)) 3) == 0)⟩ : S91)) := ⟨_, rfl⟩
    replace H : (laws_markStatementS.l0 k1 y135 (wrap64 ((wrap64 ((wrap64 ((wrap64 ((wrap64 (x1_1 + 1)) + 1)) + 1)) + 1)) + 1)) (wrap64 (x5_1 + 1))) = some (r1, r2) := yH
    have Ny135 := ak hy_; clear hy_
    have H' := Aside0.mk H
    clear H
    obtain ⟨Ao10, co10, eo10⟩ := Kd.R_slice HO_0.out
    subst eo10
    have p5 : 0 ≤ (x5_1 : Int) := da
    have q5 : (x5_1 : Int) < ((x0_1.length : Int) : Int) := da
    obtain ⟨go5, co5, eo5, gb5, gl5, cl5, HG5⟩ := Kd.R_form HO_0.out (by omega)
    (first | cases eo5 | (injection eo5 with ea_ en_ ec_; (first | subst ea_ | (injection ea_ with ea_; subst ea_)); subst ec_; clear en_))
    have GB5 := Aside0.mk gb5; have GG5 := Aside0.mk HG5; clear gb5 gl5 HG5
    have HMgo5 := Aside0.mk (show (P0_ go5 ∨ w.heap.size ≤ go5) from (HO_0.out.1 _ rfl))
    obtain ⟨ce5, hcl5, hM5, hcc5, hfr5⟩ := Kd.R_elem HO_0.out z91 (x5_1 : Int) p5 q5
    obtain rfl := k91_openM hM5
    have hx5_0 : wr.cell? ⟨go5, (x5_1 : Int).toNat * 5, none⟩ = some (.int .i64 ((rd_T91 x0_1 x5_1).f0)) := hcc5 0 _ rfl
    have hx5_1 : wr.cell? ⟨go5, (x5_1 : Int).toNat * 5 + 1, none⟩ = some (.int .i64 ((rd_T91 x0_1 x5_1).f1.f0)) := hcc5 1 _ rfl
    have hx5_2 : wr.cell? ⟨go5, (x5_1 : Int).toNat * 5 + 2, none⟩ = some (.int .i64 ((rd_T91 x0_1 x5_1).f1.f1)) := hcc5 2 _ rfl
    have hx5_3 : wr.cell? ⟨go5, (x5_1 : Int).toNat * 5 + 3, none⟩ = some (.int .i64 ((rd_T91 x0_1 x5_1).f1.f2)) := hcc5 3 _ rfl
    have hx5_4 : wr.cell? ⟨go5, (x5_1 : Int).toNat * 5 + 4, none⟩ = some (.bool ((rd_T91 x0_1 x5_1).f2)) := hcc5 4 _ rfl
    have hf5_0 : wr.frozen? ⟨go5, (x5_1 : Int).toNat * 5, none⟩ = false := hfr5 0
    have hf5_1 : wr.frozen? ⟨go5, (x5_1 : Int).toNat * 5 + 1, none⟩ = false := hfr5 1
    have hf5_2 : wr.frozen? ⟨go5, (x5_1 : Int).toNat * 5 + 2, none⟩ = false := hfr5 2
    have hf5_3 : wr.frozen? ⟨go5, (x5_1 : Int).toNat * 5 + 3, none⟩ = false := hfr5 3
    have hf5_4 : wr.frozen? ⟨go5, (x5_1 : Int).toNat * 5 + 4, none⟩ = false := hfr5 4
    clear hcl5 hcc5 hfr5 hM5; replace p5 := eq_true p5; replace q5 := eq_true q5
    have HX11 := Aside0.mk (show Kd.R k91 91 wr w0.heap.size (fun k_ => (P0_ k_ ∨ w.heap.size ≤ k_)) (.slice (some ⟨go5, 0, none⟩) x0_1.length co10) x0_1 from (rdl HO_0))
    obtain ⟨ce11, hcl11, hM11, hcc11, hfr11⟩ := Kd.R_elem HX11.out z91 (x5_1 : Int) (da) (by have h_ : (x5_1 : Int) < ((x0_1.length : Int) : Int) := da; first | exact h_ | (have e_ := (Kd.R_reads' HO_0.out).1; omega) | simpa using h_)
    obtain rfl := k91_openM hM11
    have HP11 := Kd.R_seg HX11.out (x5_1 : Int) (da) (by have h_ : (x5_1 : Int) < ((x0_1.length : Int) : Int) := da; first | exact h_ | (have e_ := (Kd.R_reads' HO_0.out).1; omega) | simpa using h_) (seg := [.int .i64 x1_1]) (j := 0) hcl11 hcc11 (show 1 ≤ 5 from by decide) (x' := (⟨x1_1, (⟨(rd_T91 x0_1 x5_1).f1.f0, (rd_T91 x0_1 x5_1).f1.f1, (rd_T91 x0_1 x5_1).f1.f2⟩ : S85), (rd_T91 x0_1 x5_1).f2⟩ : S91)) (k91_mkM _ _ _ (⟨x1_1, (⟨(rd_T91 x0_1 x5_1).f1.f0, (rd_T91 x0_1 x5_1).f1.f1, (rd_T91 x0_1 x5_1).f1.f2⟩ : S85), (rd_T91 x0_1 x5_1).f2⟩ : S91) ) (fun _ hk => hk)
    have hx11_0 := hcc11 0 _ rfl
    (try simp only [show (k91).sz = 5 from rfl, Nat.mul_one, Nat.add_zero] at hx11_0)
    have hf11_0 := hfr11 0
    (try simp only [show (k91).sz = 5 from rfl, Nat.mul_one, Nat.add_zero] at hf11_0)
    clear hcl11 hcc11 hfr11 hM11
    go_wp2_with (first | ((with_reducible refine gate_store (t := 3) (p := 16) rfl ?_); refine store_event (t := 3) (p := 16) (v := ?vo_w12) (w1 := (wr.setCell ⟨go5, (x5_1 : Int).toNat * 5, none⟩ (.int .i64 x1_1))) ?hg ?ho ?hn ?hr ?_; (case ho => rfl); (case hg => rfl); (case hn => rfl); (case hr => first | (go_simp; done) | (go_simp; rfl)); intro w12 hw; have hg : wr.grownBy w12 (some go5) := (by rw [hw]; exact HP11.2); have hp_ : Kd.R k91 91 w12 w0.heap.size (fun k_ => (P0_ k_ ∨ w.heap.size ≤ k_)) (.slice (some ⟨go5, 0, none⟩) x0_1.length co10) y131 := (by rw [hw, Ny131.out]; exact HP11.1); clear HP11; replace HB := ak ((by rw [hw]; exact below_set (HB.out) GB5.out : Below w0.heap.size w0 w12)); replace HK := ak (Kept.of_grown (S := (fun k_ => P0_ k_)) hg (by repeat (first | (with_reducible first | exact HK.out | apply Kept.alloc | apply Kept.drewN | apply Kept.drew) | exact HK.out)) (fun k_ e_ => (HO_0.out.1 k_ e_))); replace HO_0 := ak (hp_); clear hg hw hp_; have p6 : 0 ≤ (x5_1 : Int) := da; have q6 : (x5_1 : Int) < ((x0_1.length : Int) : Int) := da; obtain ⟨ce6, hcl6, hM6, hcc6, hfr6⟩ := Kd.R_elem HO_0.out z91 (x5_1 : Int) p6 q6; obtain rfl := k91_openM hM6; have hx6_0 : w12.cell? ⟨go5, (x5_1 : Int).toNat * 5, none⟩ = some (.int .i64 ((rd_T91 y131 x5_1).f0)) := hcc6 0 _ rfl; have hx6_1 : w12.cell? ⟨go5, (x5_1 : Int).toNat * 5 + 1, none⟩ = some (.int .i64 ((rd_T91 y131 x5_1).f1.f0)) := hcc6 1 _ rfl; have hx6_2 : w12.cell? ⟨go5, (x5_1 : Int).toNat * 5 + 2, none⟩ = some (.int .i64 ((rd_T91 y131 x5_1).f1.f1)) := hcc6 2 _ rfl; have hx6_3 : w12.cell? ⟨go5, (x5_1 : Int).toNat * 5 + 3, none⟩ = some (.int .i64 ((rd_T91 y131 x5_1).f1.f2)) := hcc6 3 _ rfl; have hx6_4 : w12.cell? ⟨go5, (x5_1 : Int).toNat * 5 + 4, none⟩ = some (.bool ((rd_T91 y131 x5_1).f2)) := hcc6 4 _ rfl; have hf6_0 : w12.frozen? ⟨go5, (x5_1 : Int).toNat * 5, none⟩ = false := hfr6 0; have hf6_1 : w12.frozen? ⟨go5, (x5_1 : Int).toNat * 5 + 1, none⟩ = false := hfr6 1; have hf6_2 : w12.frozen? ⟨go5, (x5_1 : Int).toNat * 5 + 2, none⟩ = false := hfr6 2; have hf6_3 : w12.frozen? ⟨go5, (x5_1 : Int).toNat * 5 + 3, none⟩ = false := hfr6 3; have hf6_4 : w12.frozen? ⟨go5, (x5_1 : Int).toNat * 5 + 4, none⟩ = false := hfr6 4; clear hcl6 hcc6 hfr6 hM6; replace p6 := eq_true p6; replace q6 := eq_true q6; have HX13 := Aside0.mk (show Kd.R k91 91 w12 w0.heap.size (fun k_ => (P0_ k_ ∨ w.heap.size ≤ k_)) (.slice (some ⟨go5, 0, none⟩) x0_1.length co10) y131 from (rdl HO_0)); obtain ⟨ce13, hcl13, hM13, hcc13, hfr13⟩ := Kd.R_elem HX13.out z91 (x5_1 : Int) (da) (by have h_ : (x5_1 : Int) < ((x0_1.length : Int) : Int) := da; first | exact h_ | (have e_ := (Kd.R_reads' HO_0.out).1; omega) | simpa using h_); obtain rfl := k91_openM hM13; have HP13 := Kd.R_seg HX13.out (x5_1 : Int) (da) (by have h_ : (x5_1 : Int) < ((x0_1.length : Int) : Int) := da; first | exact h_ | (have e_ := (Kd.R_reads' HO_0.out).1; omega) | simpa using h_) (seg := [.int .i64 (wrap64 (x1_1 + 1))]) (j := 1) hcl13 hcc13 (show 2 ≤ 5 from by decide) (x' := (⟨(rd_T91 y131 x5_1).f0, (⟨wrap64 (x1_1 + 1), (rd_T91 y131 x5_1).f1.f1, (rd_T91 y131 x5_1).f1.f2⟩ : S85), (rd_T91 y131 x5_1).f2⟩ : S91)) (k91_mkM _ _ _ (⟨(rd_T91 y131 x5_1).f0, (⟨wrap64 (x1_1 + 1), (rd_T91 y131 x5_1).f1.f1, (rd_T91 y131 x5_1).f1.f2⟩ : S85), (rd_T91 y131 x5_1).f2⟩ : S91) ) (fun _ hk => hk); have hx13_1 := hcc13 1 _ rfl; (try simp only [show (k91).sz = 5 from rfl, Nat.mul_one, Nat.add_zero] at hx13_1); have hf13_1 := hfr13 1; (try simp only [show (k91).sz = 5 from rfl, Nat.mul_one, Nat.add_zero] at hf13_1); clear hcl13 hcc13 hfr13 hM13) | ((with_reducible refine gate_store (t := 3) (p := 24) rfl ?_); refine store_event (t := 3) (p := 24) (v := ?vo_w14) (w1 := (w12.setCell ⟨go5, (x5_1 : Int).toNat * 5 + 1, none⟩ (.int .i64 (wrap64 (x1_1 + 1))))) ?hg ?ho ?hn ?hr ?_; (case ho => rfl); (case hg => rfl); (case hn => rfl); (case hr => first | (go_simp; done) | (go_simp; rfl)); intro w14 hw; have hg : w12.grownBy w14 (some go5) := (by rw [hw]; exact HP13.2); have hp_ : Kd.R k91 91 w14 w0.heap.size (fun k_ => (P0_ k_ ∨ w.heap.size ≤ k_)) (.slice (some ⟨go5, 0, none⟩) x0_1.length co10) y132 := (by rw [hw, Ny132.out]; exact HP13.1); clear HP13; replace HB := ak ((by rw [hw]; exact below_set (HB.out) GB5.out : Below w0.heap.size w0 w14)); replace HK := ak (Kept.of_grown (S := (fun k_ => P0_ k_)) hg (by repeat (first | (with_reducible first | exact HK.out | apply Kept.alloc | apply Kept.drewN | apply Kept.drew) | exact HK.out)) (fun k_ e_ => (HO_0.out.1 k_ e_))); replace HO_0 := ak (hp_); clear hg hw hp_; have p7 : 0 ≤ (x5_1 : Int) := da; have q7 : (x5_1 : Int) < ((x0_1.length : Int) : Int) := da; obtain ⟨ce7, hcl7, hM7, hcc7, hfr7⟩ := Kd.R_elem HO_0.out z91 (x5_1 : Int) p7 q7; obtain rfl := k91_openM hM7; have hx7_0 : w14.cell? ⟨go5, (x5_1 : Int).toNat * 5, none⟩ = some (.int .i64 ((rd_T91 y132 x5_1).f0)) := hcc7 0 _ rfl; have hx7_1 : w14.cell? ⟨go5, (x5_1 : Int).toNat * 5 + 1, none⟩ = some (.int .i64 ((rd_T91 y132 x5_1).f1.f0)) := hcc7 1 _ rfl; have hx7_2 : w14.cell? ⟨go5, (x5_1 : Int).toNat * 5 + 2, none⟩ = some (.int .i64 ((rd_T91 y132 x5_1).f1.f1)) := hcc7 2 _ rfl; have hx7_3 : w14.cell? ⟨go5, (x5_1 : Int).toNat * 5 + 3, none⟩ = some (.int .i64 ((rd_T91 y132 x5_1).f1.f2)) := hcc7 3 _ rfl; have hx7_4 : w14.cell? ⟨go5, (x5_1 : Int).toNat * 5 + 4, none⟩ = some (.bool ((rd_T91 y132 x5_1).f2)) := hcc7 4 _ rfl; have hf7_0 : w14.frozen? ⟨go5, (x5_1 : Int).toNat * 5, none⟩ = false := hfr7 0; have hf7_1 : w14.frozen? ⟨go5, (x5_1 : Int).toNat * 5 + 1, none⟩ = false := hfr7 1; have hf7_2 : w14.frozen? ⟨go5, (x5_1 : Int).toNat * 5 + 2, none⟩ = false := hfr7 2; have hf7_3 : w14.frozen? ⟨go5, (x5_1 : Int).toNat * 5 + 3, none⟩ = false := hfr7 3; have hf7_4 : w14.frozen? ⟨go5, (x5_1 : Int).toNat * 5 + 4, none⟩ = false := hfr7 4; clear hcl7 hcc7 hfr7 hM7; replace p7 := eq_true p7; replace q7 := eq_true q7; have HX15 := Aside0.mk (show Kd.R k91 91 w14 w0.heap.size (fun k_ => (P0_ k_ ∨ w.heap.size ≤ k_)) (.slice (some ⟨go5, 0, none⟩) x0_1.length co10) y132 from (rdl HO_0)); obtain ⟨ce15, hcl15, hM15, hcc15, hfr15⟩ := Kd.R_elem HX15.out z91 (x5_1 : Int) (da) (by have h_ : (x5_1 : Int) < ((x0_1.length : Int) : Int) := da; first | exact h_ | (have e_ := (Kd.R_reads' HO_0.out).1; omega) | simpa using h_); obtain rfl := k91_openM hM15; have HP15 := Kd.R_seg HX15.out (x5_1 : Int) (da) (by have h_ : (x5_1 : Int) < ((x0_1.length : Int) : Int) := da; first | exact h_ | (have e_ := (Kd.R_reads' HO_0.out).1; omega) | simpa using h_) (seg := [.int .i64 (wrap64 ((wrap64 (x1_1 + 1)) + 1))]) (j := 2) hcl15 hcc15 (show 3 ≤ 5 from by decide) (x' := (⟨(rd_T91 y132 x5_1).f0, (⟨(rd_T91 y132 x5_1).f1.f0, wrap64 ((wrap64 (x1_1 + 1)) + 1), (rd_T91 y132 x5_1).f1.f2⟩ : S85), (rd_T91 y132 x5_1).f2⟩ : S91)) (k91_mkM _ _ _ (⟨(rd_T91 y132 x5_1).f0, (⟨(rd_T91 y132 x5_1).f1.f0, wrap64 ((wrap64 (x1_1 + 1)) + 1), (rd_T91 y132 x5_1).f1.f2⟩ : S85), (rd_T91 y132 x5_1).f2⟩ : S91) ) (fun _ hk => hk); have hx15_2 := hcc15 2 _ rfl; (try simp only [show (k91).sz = 5 from rfl, Nat.mul_one, Nat.add_zero] at hx15_2); have hf15_2 := hfr15 2; (try simp only [show (k91).sz = 5 from rfl, Nat.mul_one, Nat.add_zero] at hf15_2); clear hcl15 hcc15 hfr15 hM15) | ((with_reducible refine gate_store (t := 3) (p := 32) rfl ?_); refine store_event (t := 3) (p := 32) (v := ?vo_w16) (w1 := (w14.setCell ⟨go5, (x5_1 : Int).toNat * 5 + 2, none⟩ (.int .i64 (wrap64 ((wrap64 (x1_1 + 1)) + 1))))) ?hg ?ho ?hn ?hr ?_; (case ho => rfl); (case hg => rfl); (case hn => rfl); (case hr => first | (go_simp; done) | (go_simp; rfl)); intro w16 hw; have hg : w14.grownBy w16 (some go5) := (by rw [hw]; exact HP15.2); have hp_ : Kd.R k91 91 w16 w0.heap.size (fun k_ => (P0_ k_ ∨ w.heap.size ≤ k_)) (.slice (some ⟨go5, 0, none⟩) x0_1.length co10) y133 := (by rw [hw, Ny133.out]; exact HP15.1); clear HP15; replace HB := ak ((by rw [hw]; exact below_set (HB.out) GB5.out : Below w0.heap.size w0 w16)); replace HK := ak (Kept.of_grown (S := (fun k_ => P0_ k_)) hg (by repeat (first | (with_reducible first | exact HK.out | apply Kept.alloc | apply Kept.drewN | apply Kept.drew) | exact HK.out)) (fun k_ e_ => (HO_0.out.1 k_ e_))); replace HO_0 := ak (hp_); clear hg hw hp_; have p8 : 0 ≤ (x5_1 : Int) := da; have q8 : (x5_1 : Int) < ((x0_1.length : Int) : Int) := da; obtain ⟨ce8, hcl8, hM8, hcc8, hfr8⟩ := Kd.R_elem HO_0.out z91 (x5_1 : Int) p8 q8; obtain rfl := k91_openM hM8; have hx8_0 : w16.cell? ⟨go5, (x5_1 : Int).toNat * 5, none⟩ = some (.int .i64 ((rd_T91 y133 x5_1).f0)) := hcc8 0 _ rfl; have hx8_1 : w16.cell? ⟨go5, (x5_1 : Int).toNat * 5 + 1, none⟩ = some (.int .i64 ((rd_T91 y133 x5_1).f1.f0)) := hcc8 1 _ rfl; have hx8_2 : w16.cell? ⟨go5, (x5_1 : Int).toNat * 5 + 2, none⟩ = some (.int .i64 ((rd_T91 y133 x5_1).f1.f1)) := hcc8 2 _ rfl; have hx8_3 : w16.cell? ⟨go5, (x5_1 : Int).toNat * 5 + 3, none⟩ = some (.int .i64 ((rd_T91 y133 x5_1).f1.f2)) := hcc8 3 _ rfl; have hx8_4 : w16.cell? ⟨go5, (x5_1 : Int).toNat * 5 + 4, none⟩ = some (.bool ((rd_T91 y133 x5_1).f2)) := hcc8 4 _ rfl; have hf8_0 : w16.frozen? ⟨go5, (x5_1 : Int).toNat * 5, none⟩ = false := hfr8 0; have hf8_1 : w16.frozen? ⟨go5, (x5_1 : Int).toNat * 5 + 1, none⟩ = false := hfr8 1; have hf8_2 : w16.frozen? ⟨go5, (x5_1 : Int).toNat * 5 + 2, none⟩ = false := hfr8 2; have hf8_3 : w16.frozen? ⟨go5, (x5_1 : Int).toNat * 5 + 3, none⟩ = false := hfr8 3; have hf8_4 : w16.frozen? ⟨go5, (x5_1 : Int).toNat * 5 + 4, none⟩ = false := hfr8 4; clear hcl8 hcc8 hfr8 hM8; replace p8 := eq_true p8; replace q8 := eq_true q8; have HX17 := Aside0.mk (show Kd.R k91 91 w16 w0.heap.size (fun k_ => (P0_ k_ ∨ w.heap.size ≤ k_)) (.slice (some ⟨go5, 0, none⟩) x0_1.length co10) y133 from (rdl HO_0)); obtain ⟨ce17, hcl17, hM17, hcc17, hfr17⟩ := Kd.R_elem HX17.out z91 (x5_1 : Int) (da) (by have h_ : (x5_1 : Int) < ((x0_1.length : Int) : Int) := da; first | exact h_ | (have e_ := (Kd.R_reads' HO_0.out).1; omega) | simpa using h_); obtain rfl := k91_openM hM17; have HP17 := Kd.R_seg HX17.out (x5_1 : Int) (da) (by have h_ : (x5_1 : Int) < ((x0_1.length : Int) : Int) := da; first | exact h_ | (have e_ := (Kd.R_reads' HO_0.out).1; omega) | simpa using h_) (seg := [.int .i64 (wrap64 ((wrap64 ((wrap64 (x1_1 + 1)) + 1)) + 1))]) (j := 3) hcl17 hcc17 (show 4 ≤ 5 from by decide) (x' := (⟨(rd_T91 y133 x5_1).f0, (⟨(rd_T91 y133 x5_1).f1.f0, (rd_T91 y133 x5_1).f1.f1, wrap64 ((wrap64 ((wrap64 (x1_1 + 1)) + 1)) + 1)⟩ : S85), (rd_T91 y133 x5_1).f2⟩ : S91)) (k91_mkM _ _ _ (⟨(rd_T91 y133 x5_1).f0, (⟨(rd_T91 y133 x5_1).f1.f0, (rd_T91 y133 x5_1).f1.f1, wrap64 ((wrap64 ((wrap64 (x1_1 + 1)) + 1)) + 1)⟩ : S85), (rd_T91 y133 x5_1).f2⟩ : S91) ) (fun _ hk => hk); have hx17_3 := hcc17 3 _ rfl; (try simp only [show (k91).sz = 5 from rfl, Nat.mul_one, Nat.add_zero] at hx17_3); have hf17_3 := hfr17 3; (try simp only [show (k91).sz = 5 from rfl, Nat.mul_one, Nat.add_zero] at hf17_3); clear hcl17 hcc17 hfr17 hM17) | ((with_reducible refine gate_store (t := 3) (p := 40) rfl ?_); refine store_event (t := 3) (p := 40) (v := ?vo_w18) (w1 := (w16.setCell ⟨go5, (x5_1 : Int).toNat * 5 + 3, none⟩ (.int .i64 (wrap64 ((wrap64 ((wrap64 (x1_1 + 1)) + 1)) + 1))))) ?hg ?ho ?hn ?hr ?_; (case ho => rfl); (case hg => rfl); (case hn => rfl); (case hr => first | (go_simp; done) | (go_simp; rfl)); intro w18 hw; have hg : w16.grownBy w18 (some go5) := (by rw [hw]; exact HP17.2); have hp_ : Kd.R k91 91 w18 w0.heap.size (fun k_ => (P0_ k_ ∨ w.heap.size ≤ k_)) (.slice (some ⟨go5, 0, none⟩) x0_1.length co10) y134 := (by rw [hw, Ny134.out]; exact HP17.1); clear HP17; replace HB := ak ((by rw [hw]; exact below_set (HB.out) GB5.out : Below w0.heap.size w0 w18)); replace HK := ak (Kept.of_grown (S := (fun k_ => P0_ k_)) hg (by repeat (first | (with_reducible first | exact HK.out | apply Kept.alloc | apply Kept.drewN | apply Kept.drew) | exact HK.out)) (fun k_ e_ => (HO_0.out.1 k_ e_))); replace HO_0 := ak (hp_); clear hg hw hp_; have p9 : 0 ≤ (x5_1 : Int) := da; have q9 : (x5_1 : Int) < ((x0_1.length : Int) : Int) := da; obtain ⟨ce9, hcl9, hM9, hcc9, hfr9⟩ := Kd.R_elem HO_0.out z91 (x5_1 : Int) p9 q9; obtain rfl := k91_openM hM9; have hx9_0 : w18.cell? ⟨go5, (x5_1 : Int).toNat * 5, none⟩ = some (.int .i64 ((rd_T91 y134 x5_1).f0)) := hcc9 0 _ rfl; have hx9_1 : w18.cell? ⟨go5, (x5_1 : Int).toNat * 5 + 1, none⟩ = some (.int .i64 ((rd_T91 y134 x5_1).f1.f0)) := hcc9 1 _ rfl; have hx9_2 : w18.cell? ⟨go5, (x5_1 : Int).toNat * 5 + 2, none⟩ = some (.int .i64 ((rd_T91 y134 x5_1).f1.f1)) := hcc9 2 _ rfl; have hx9_3 : w18.cell? ⟨go5, (x5_1 : Int).toNat * 5 + 3, none⟩ = some (.int .i64 ((rd_T91 y134 x5_1).f1.f2)) := hcc9 3 _ rfl; have hx9_4 : w18.cell? ⟨go5, (x5_1 : Int).toNat * 5 + 4, none⟩ = some (.bool ((rd_T91 y134 x5_1).f2)) := hcc9 4 _ rfl; have hf9_0 : w18.frozen? ⟨go5, (x5_1 : Int).toNat * 5, none⟩ = false := hfr9 0; have hf9_1 : w18.frozen? ⟨go5, (x5_1 : Int).toNat * 5 + 1, none⟩ = false := hfr9 1; have hf9_2 : w18.frozen? ⟨go5, (x5_1 : Int).toNat * 5 + 2, none⟩ = false := hfr9 2; have hf9_3 : w18.frozen? ⟨go5, (x5_1 : Int).toNat * 5 + 3, none⟩ = false := hfr9 3; have hf9_4 : w18.frozen? ⟨go5, (x5_1 : Int).toNat * 5 + 4, none⟩ = false := hfr9 4; clear hcl9 hcc9 hfr9 hM9; replace p9 := eq_true p9; replace q9 := eq_true q9; have HX19 := Aside0.mk (show Kd.R k91 91 w18 w0.heap.size (fun k_ => (P0_ k_ ∨ w.heap.size ≤ k_)) (.slice (some ⟨go5, 0, none⟩) x0_1.length co10) y134 from (rdl HO_0)); obtain ⟨ce19, hcl19, hM19, hcc19, hfr19⟩ := Kd.R_elem HX19.out z91 (x5_1 : Int) (da) (by have h_ : (x5_1 : Int) < ((x0_1.length : Int) : Int) := da; first | exact h_ | (have e_ := (Kd.R_reads' HO_0.out).1; omega) | simpa using h_); obtain rfl := k91_openM hM19; have HP19 := Kd.R_seg HX19.out (x5_1 : Int) (da) (by have h_ : (x5_1 : Int) < ((x0_1.length : Int) : Int) := da; first | exact h_ | (have e_ := (Kd.R_reads' HO_0.out).1; omega) | simpa using h_) (seg := [.bool ((Int.tmod (wrap64 ((wrap64 ((wrap64 ((wrap64 (x1_1 + 1)) + 1)) + 1)) + 1)) 3) == 0)]) (j := 4) hcl19 hcc19 (show 5 ≤ 5 from by decide) (x' := (⟨(rd_T91 y134 x5_1).f0, (⟨(rd_T91 y134 x5_1).f1.f0, (rd_T91 y134 x5_1).f1.f1, (rd_T91 y134 x5_1).f1.f2⟩ : S85), ((Int.tmod (wrap64 ((wrap64 ((wrap64 ((wrap64 (x1_1 + 1)) + 1)) + 1)) + 1)) 3) == 0)⟩ : S91)) (k91_mkM _ _ _ (⟨(rd_T91 y134 x5_1).f0, (⟨(rd_T91 y134 x5_1).f1.f0, (rd_T91 y134 x5_1).f1.f1, (rd_T91 y134 x5_1).f1.f2⟩ : S85), ((Int.tmod (wrap64 ((wrap64 ((wrap64 ((wrap64 (x1_1 + 1)) + 1)) + 1)) + 1)) 3) == 0)⟩ : S91) ) (fun _ hk => hk); have hx19_4 := hcc19 4 _ rfl; (try simp only [show (k91).sz = 5 from rfl, Nat.mul_one, Nat.add_zero] at hx19_4); have hf19_4 := hfr19 4; (try simp only [show (k91).sz = 5 from rfl, Nat.mul_one, Nat.add_zero] at hf19_4); clear hcl19 hcc19 hfr19 hM19) | ((with_reducible refine gate_store (t := 4) (p := 49) rfl ?_); refine store_event (t := 4) (p := 49) (v := ?vo_w20) (w1 := (w18.setCell ⟨go5, (x5_1 : Int).toNat * 5 + 4, none⟩ (.bool ((Int.tmod (wrap64 ((wrap64 ((wrap64 ((wrap64 (x1_1 + 1)) + 1)) + 1)) + 1)) 3) == 0)))) ?hg ?ho ?hn ?hr ?_; (case ho => rfl); (case hg => rfl); (case hn => rfl); (case hr => first | (go_simp; done) | (go_simp; rfl)); intro w20 hw; have hg : w18.grownBy w20 (some go5) := (by rw [hw]; exact HP19.2); have hp_ : Kd.R k91 91 w20 w0.heap.size (fun k_ => (P0_ k_ ∨ w.heap.size ≤ k_)) (.slice (some ⟨go5, 0, none⟩) x0_1.length co10) y135 := (by rw [hw, Ny135.out]; exact HP19.1); clear HP19; replace HB := ak ((by rw [hw]; exact below_set (HB.out) GB5.out : Below w0.heap.size w0 w20)); replace HK := ak (Kept.of_grown (S := (fun k_ => P0_ k_)) hg (by repeat (first | (with_reducible first | exact HK.out | apply Kept.alloc | apply Kept.drewN | apply Kept.drew) | exact HK.out)) (fun k_ e_ => (HO_0.out.1 k_ e_))); replace HO_0 := ak (hp_); clear hg hw hp_))
    go_roundg k1
    case measure => have := HK1.out; omega
    case rel => exact ⟨(y135), (wrap64 ((wrap64 ((wrap64 ((wrap64 ((wrap64 (x1_1 + 1)) + 1)) + 1)) + 1)) + 1)), (wrap64 (x5_1 + 1)), er, er, H', ⟨by have := HK1.out; omega⟩, ⟨rdl HO_0⟩, ⟨by repeat (first | (with_reducible first | exact HK.out | apply Kept.alloc | apply Kept.drewN | apply Kept.drew) | exact HK.out)⟩, ⟨belowd HB⟩⟩
   ·rw [if_neg c3] at H
    have c3b0 : decide (x5_1 < (x0_1.length : Int)) = false := decide_eq_false c3
    clear c3
    simp only [Option.some.injEq, Prod.mk.injEq] at H
    obtain ⟨rfl, rfl⟩ := H
    obtain ⟨Ao21, co21, eo21⟩ := Kd.R_slice HO_0.out
    subst eo21; go_wp2
    go_ret
    exact ⟨er2, by (with_reducible repeat (first | apply Kd.R_alloc | apply Kd.R_drewN | apply Kd.R_drew)); exact HO_0.out, belowd HB, by repeat (first | (with_reducible first | exact HK.out | apply Kept.alloc | apply Kept.drewN | apply Kept.drew) | exact HK.out)⟩

/-! ### laws_markClaimS: function 54 -/
def laws_markClaimS.l0 : Nat → List (S85) → Int → Int → Option (Int × (List (S85)))
  | 0, _, _, _ => none
  | k + 1, x0, x1, x5 => if x5 < (x0.length : Int) then (if 0 ≤ x5 then ((some (x0.set (x5 : Int).toNat (⟨x1, (rd_T85 x0 x5).f1, (rd_T85 x0 x5).f2⟩ : S85) : List (S85))).bind fun y136 => ((some (y136.set (x5 : Int).toNat (⟨(rd_T85 y136 x5).f0, wrap64 (x1 + 1), (rd_T85 y136 x5).f2⟩ : S85) : List (S85))).bind fun y137 => (laws_markClaimS.l0 k (y137.set (x5 : Int).toNat (⟨(rd_T85 y137 x5).f0, (rd_T85 y137 x5).f1, wrap64 ((wrap64 (x1 + 1)) + 1)⟩ : S85)) (wrap64 ((wrap64 ((wrap64 (x1 + 1)) + 1)) + 1)) (wrap64 (x5 + 1))))) else (none)) else (some (x1, x0))
def laws_markClaimS.f (k : Nat) (l0 : List (S85)) (a1 : Int) : Option (Int × (List (S85))) := laws_markClaimS.l0 k l0 a1 0
theorem laws_markClaimS.mono_l : ∀ k, (∀ y0 y1 y2, LeO (laws_markClaimS.l0 k y0 y1 y2) (laws_markClaimS.l0 (k + 1) y0 y1 y2))
 | 0 => fun _ _ _ r h => by simp [laws_markClaimS.l0] at h
 | k + 1 => by
  have ih0 := laws_markClaimS.mono_l k
  ·intro y0 y1 y2
   unfold laws_markClaimS.l0
   repeat' (first | (with_reducible first | exact ih0 _ _ _ | exact LeO.refl _ | exact LeO.none _ | refine LeO.ite ?_ ?_ | refine LeO.bind ?_ (fun _ => ?_)) | exact ih0 _ _ _ | exact LeO.none _ | refine LeO.ite ?_ ?_ | refine LeO.bind ?_ (fun _ => ?_))
theorem laws_markClaimS.mono : ∀ a0 a1 k, LeO (laws_markClaimS.f k a0 a1) (laws_markClaimS.f (k + 1) a0 a1) := by
 intro a0 a1 k
 have ih0 := laws_markClaimS.mono_l k
 unfold laws_markClaimS.f
 repeat' (first | (with_reducible first | exact ih0 _ _ _ | exact LeO.refl _ | exact LeO.none _ | refine LeO.ite ?_ ?_ | refine LeO.bind ?_ (fun _ => ?_)) | exact ih0 _ _ _ | exact LeO.none _ | refine LeO.ite ?_ ?_ | refine LeO.bind ?_ (fun _ => ?_))
set_option maxHeartbeats 8000000 in
set_option maxRecDepth 100000 in
theorem laws_markClaimS.calls (k : Nat) (P0_ : Nat → Prop) (u9000_ : Value) (l0 : List (S85)) (a1 : Int) (r1 : Int) (r2 : List (S85)) (w0 w : World) (hB : Below w0.heap.size w0 w) (ho0 : Kd.R k85 85 w w0.heap.size P0_ u9000_ l0) (h : laws_markClaimS.f k l0 a1 = some (r1, r2)) :
  Calls Try.prog 54 #[u9000_, .int .i64 a1] w fun e w' => e = .returned (.int .i64 r1) ∧ Kd.R k85 85 w' w0.heap.size (fun k_ => (P0_ k_ ∨ w.heap.size ≤ k_)) u9000_ r2 ∧ Below w0.heap.size w0 w' ∧ Kept w w' (fun k_ => P0_ k_) := by
 have HO0 := Aside0.mk (show Kd.R k85 85 w w0.heap.size (fun k_ => (P0_ k_ ∨ w.heap.size ≤ k_)) u9000_ l0 from Kd.R_mono ho0 (fun k_ hk => (.inl hk)))
 have HK := Aside0.mk (Kept.refl w (fun k_ => P0_ k_))
 have HW0 := Aside0.mk hB.size
 have HB := Aside0.mk hB; clear hB
 have H : (laws_markClaimS.l0 k l0 a1 0) = some (r1, r2) := h
 clear h
 have H' := Aside0.mk H
 clear H
 go_enter Try.func54, Try.ntmps54
 go_wp2
 go_loopg [1, 5] k (fun kq v1 v5 w' => ∃ (x0_1 : List (S85)) (x1_1 : Int) (x5_1 : Int), v1 = .int .i64 x1_1 ∧ v5 = .int .i64 x5_1 ∧ Aside0 (laws_markClaimS.l0 kq x0_1 x1_1 x5_1 = some (r1, r2)) ∧ Aside0 (kq ≤ k) ∧ Aside0 (Kd.R k85 85 w' w0.heap.size (fun k_ => (P0_ k_ ∨ w.heap.size ≤ k_)) u9000_ x0_1) ∧ Aside0 (Kept w w' (fun k_ => P0_ k_)) ∧ Aside0 (Below w0.heap.size w0 w'))
 case atStart => exact ⟨(l0), (a1), (0), er, er, H', ⟨Nat.le_refl _⟩, ⟨rdl HO0⟩, ⟨by repeat (first | (with_reducible first | exact HK.out | apply Kept.alloc | apply Kept.drewN | apply Kept.drew) | exact HK.out)⟩, ⟨belowd HB⟩⟩
 case round =>
  clear H'
  obtain ⟨x0_1, x1_1, x5_1, rfl, rfl, HA, HK1, HO_0, HK, HB⟩ := hrel
  cases gk with
  | zero => exact absurd HA.out (by simp [laws_markClaimS.l0])
  | succ k1 =>
   have H := HA.out; clear HA
   simp only [laws_markClaimS.l0] at H
   by_cases c3 : x5_1 < (x0_1.length : Int)
   ·rw [if_pos c3] at H
    have c3b0 : decide (x5_1 < (x0_1.length : Int)) = true := decide_eq_true c3
    clear c3; replace H := ifS H; obtain ⟨c4, H⟩ := H; have c4b0 := decide_eq_true c4; clear c4
    obtain ⟨y136, hy_⟩ : ∃ y_ : List (S85), y_ = (x0_1.set (x5_1 : Int).toNat (⟨x1_1, (rd_T85 x0_1 x5_1).f1, (rd_T85 x0_1 x5_1).f2⟩ : S85)) := ⟨_, rfl⟩
    replace H : ((some (y136.set (x5_1 : Int).toNat (⟨(rd_T85 y136 x5_1).f0, wrap64 (x1_1 + 1), (rd_T85 y136 x5_1).f2⟩ : S85) : List (S85))).bind fun y137 => (laws_markClaimS.l0 k1 (y137.set (x5_1 : Int).toNat (⟨(rd_T85 y137 x5_1).f0, (rd_T85 y137 x5_1).f1, wrap64 ((wrap64 (x1_1 + 1)) + 1)⟩ : S85)) (wrap64 ((wrap64 ((wrap64 (x1_1 + 1)) + 1)) + 1)) (wrap64 (x5_1 + 1)))) = some (r1, r2) := yH
    have Ny136 := ak hy_; clear hy_
    obtain ⟨y137, hy_⟩ : ∃ y_ : List (S85), y_ = (y136.set (x5_1 : Int).toNat (⟨(rd_T85 y136 x5_1).f0, wrap64 (x1_1 + 1), (rd_T85 y136 x5_1).f2⟩ : S85)) := ⟨_, rfl⟩
    replace H : (laws_markClaimS.l0 k1 (y137.set (x5_1 : Int).toNat (⟨(rd_T85 y137 x5_1).f0, (rd_T85 y137 x5_1).f1, wrap64 ((wrap64 (x1_1 + 1)) + 1)⟩ : S85)) (wrap64 ((wrap64 ((wrap64 (x1_1 + 1)) + 1)) + 1)) (wrap64 (x5_1 + 1))) = some (r1, r2) := yH
    have Ny137 := ak hy_; clear hy_
    obtain ⟨y138, hy_⟩ : ∃ y_ : List (S85), y_ = (y137.set (x5_1 : Int).toNat (⟨(rd_T85 y137 x5_1).f0, (rd_T85 y137 x5_1).f1, wrap64 ((wrap64 (x1_1 + 1)) + 1)⟩ : S85)) := ⟨_, rfl⟩
    replace H : (laws_markClaimS.l0 k1 y138 (wrap64 ((wrap64 ((wrap64 (x1_1 + 1)) + 1)) + 1)) (wrap64 (x5_1 + 1))) = some (r1, r2) := yH
    have Ny138 := ak hy_; clear hy_
    have H' := Aside0.mk H
    clear H
    obtain ⟨Ao8, co8, eo8⟩ := Kd.R_slice HO_0.out
    subst eo8
    have p5 : 0 ≤ (x5_1 : Int) := da
    have q5 : (x5_1 : Int) < ((x0_1.length : Int) : Int) := da
    obtain ⟨go5, co5, eo5, gb5, gl5, cl5, HG5⟩ := Kd.R_form HO_0.out (by omega)
    (first | cases eo5 | (injection eo5 with ea_ en_ ec_; (first | subst ea_ | (injection ea_ with ea_; subst ea_)); subst ec_; clear en_))
    have GB5 := Aside0.mk gb5; have GG5 := Aside0.mk HG5; clear gb5 gl5 HG5
    have HMgo5 := Aside0.mk (show (P0_ go5 ∨ w.heap.size ≤ go5) from (HO_0.out.1 _ rfl))
    obtain ⟨ce5, hcl5, hM5, hcc5, hfr5⟩ := Kd.R_elem HO_0.out z85 (x5_1 : Int) p5 q5
    obtain rfl := k85_openM hM5
    have hx5_0 : wr.cell? ⟨go5, (x5_1 : Int).toNat * 3, none⟩ = some (.int .i64 ((rd_T85 x0_1 x5_1).f0)) := hcc5 0 _ rfl
    have hx5_1 : wr.cell? ⟨go5, (x5_1 : Int).toNat * 3 + 1, none⟩ = some (.int .i64 ((rd_T85 x0_1 x5_1).f1)) := hcc5 1 _ rfl
    have hx5_2 : wr.cell? ⟨go5, (x5_1 : Int).toNat * 3 + 2, none⟩ = some (.int .i64 ((rd_T85 x0_1 x5_1).f2)) := hcc5 2 _ rfl
    have hf5_0 : wr.frozen? ⟨go5, (x5_1 : Int).toNat * 3, none⟩ = false := hfr5 0
    have hf5_1 : wr.frozen? ⟨go5, (x5_1 : Int).toNat * 3 + 1, none⟩ = false := hfr5 1
    have hf5_2 : wr.frozen? ⟨go5, (x5_1 : Int).toNat * 3 + 2, none⟩ = false := hfr5 2
    clear hcl5 hcc5 hfr5 hM5; replace p5 := eq_true p5; replace q5 := eq_true q5
    have HX9 := Aside0.mk (show Kd.R k85 85 wr w0.heap.size (fun k_ => (P0_ k_ ∨ w.heap.size ≤ k_)) (.slice (some ⟨go5, 0, none⟩) x0_1.length co8) x0_1 from (rdl HO_0))
    obtain ⟨ce9, hcl9, hM9, hcc9, hfr9⟩ := Kd.R_elem HX9.out z85 (x5_1 : Int) (da) (by have h_ : (x5_1 : Int) < ((x0_1.length : Int) : Int) := da; first | exact h_ | (have e_ := (Kd.R_reads' HO_0.out).1; omega) | simpa using h_)
    obtain rfl := k85_openM hM9
    have HP9 := Kd.R_seg HX9.out (x5_1 : Int) (da) (by have h_ : (x5_1 : Int) < ((x0_1.length : Int) : Int) := da; first | exact h_ | (have e_ := (Kd.R_reads' HO_0.out).1; omega) | simpa using h_) (seg := [.int .i64 x1_1]) (j := 0) hcl9 hcc9 (show 1 ≤ 3 from by decide) (x' := (⟨x1_1, (rd_T85 x0_1 x5_1).f1, (rd_T85 x0_1 x5_1).f2⟩ : S85)) (k85_mkM _ _ _ (⟨x1_1, (rd_T85 x0_1 x5_1).f1, (rd_T85 x0_1 x5_1).f2⟩ : S85) ) (fun _ hk => hk)
    have hx9_0 := hcc9 0 _ rfl
    (try simp only [show (k85).sz = 3 from rfl, Nat.mul_one, Nat.add_zero] at hx9_0)
    have hf9_0 := hfr9 0
    (try simp only [show (k85).sz = 3 from rfl, Nat.mul_one, Nat.add_zero] at hf9_0)
    clear hcl9 hcc9 hfr9 hM9
    go_wp2_with (first | ((with_reducible refine gate_store (t := 3) (p := 16) rfl ?_); refine store_event (t := 3) (p := 16) (v := ?vo_w10) (w1 := (wr.setCell ⟨go5, (x5_1 : Int).toNat * 3, none⟩ (.int .i64 x1_1))) ?hg ?ho ?hn ?hr ?_; (case ho => rfl); (case hg => rfl); (case hn => rfl); (case hr => first | (go_simp; done) | (go_simp; rfl)); intro w10 hw; have hg : wr.grownBy w10 (some go5) := (by rw [hw]; exact HP9.2); have hp_ : Kd.R k85 85 w10 w0.heap.size (fun k_ => (P0_ k_ ∨ w.heap.size ≤ k_)) (.slice (some ⟨go5, 0, none⟩) x0_1.length co8) y136 := (by rw [hw, Ny136.out]; exact HP9.1); clear HP9; replace HB := ak ((by rw [hw]; exact below_set (HB.out) GB5.out : Below w0.heap.size w0 w10)); replace HK := ak (Kept.of_grown (S := (fun k_ => P0_ k_)) hg (by repeat (first | (with_reducible first | exact HK.out | apply Kept.alloc | apply Kept.drewN | apply Kept.drew) | exact HK.out)) (fun k_ e_ => (HO_0.out.1 k_ e_))); replace HO_0 := ak (hp_); clear hg hw hp_; have p6 : 0 ≤ (x5_1 : Int) := da; have q6 : (x5_1 : Int) < ((x0_1.length : Int) : Int) := da; obtain ⟨ce6, hcl6, hM6, hcc6, hfr6⟩ := Kd.R_elem HO_0.out z85 (x5_1 : Int) p6 q6; obtain rfl := k85_openM hM6; have hx6_0 : w10.cell? ⟨go5, (x5_1 : Int).toNat * 3, none⟩ = some (.int .i64 ((rd_T85 y136 x5_1).f0)) := hcc6 0 _ rfl; have hx6_1 : w10.cell? ⟨go5, (x5_1 : Int).toNat * 3 + 1, none⟩ = some (.int .i64 ((rd_T85 y136 x5_1).f1)) := hcc6 1 _ rfl; have hx6_2 : w10.cell? ⟨go5, (x5_1 : Int).toNat * 3 + 2, none⟩ = some (.int .i64 ((rd_T85 y136 x5_1).f2)) := hcc6 2 _ rfl; have hf6_0 : w10.frozen? ⟨go5, (x5_1 : Int).toNat * 3, none⟩ = false := hfr6 0; have hf6_1 : w10.frozen? ⟨go5, (x5_1 : Int).toNat * 3 + 1, none⟩ = false := hfr6 1; have hf6_2 : w10.frozen? ⟨go5, (x5_1 : Int).toNat * 3 + 2, none⟩ = false := hfr6 2; clear hcl6 hcc6 hfr6 hM6; replace p6 := eq_true p6; replace q6 := eq_true q6; have HX11 := Aside0.mk (show Kd.R k85 85 w10 w0.heap.size (fun k_ => (P0_ k_ ∨ w.heap.size ≤ k_)) (.slice (some ⟨go5, 0, none⟩) x0_1.length co8) y136 from (rdl HO_0)); obtain ⟨ce11, hcl11, hM11, hcc11, hfr11⟩ := Kd.R_elem HX11.out z85 (x5_1 : Int) (da) (by have h_ : (x5_1 : Int) < ((x0_1.length : Int) : Int) := da; first | exact h_ | (have e_ := (Kd.R_reads' HO_0.out).1; omega) | simpa using h_); obtain rfl := k85_openM hM11; have HP11 := Kd.R_seg HX11.out (x5_1 : Int) (da) (by have h_ : (x5_1 : Int) < ((x0_1.length : Int) : Int) := da; first | exact h_ | (have e_ := (Kd.R_reads' HO_0.out).1; omega) | simpa using h_) (seg := [.int .i64 (wrap64 (x1_1 + 1))]) (j := 1) hcl11 hcc11 (show 2 ≤ 3 from by decide) (x' := (⟨(rd_T85 y136 x5_1).f0, wrap64 (x1_1 + 1), (rd_T85 y136 x5_1).f2⟩ : S85)) (k85_mkM _ _ _ (⟨(rd_T85 y136 x5_1).f0, wrap64 (x1_1 + 1), (rd_T85 y136 x5_1).f2⟩ : S85) ) (fun _ hk => hk); have hx11_1 := hcc11 1 _ rfl; (try simp only [show (k85).sz = 3 from rfl, Nat.mul_one, Nat.add_zero] at hx11_1); have hf11_1 := hfr11 1; (try simp only [show (k85).sz = 3 from rfl, Nat.mul_one, Nat.add_zero] at hf11_1); clear hcl11 hcc11 hfr11 hM11) | ((with_reducible refine gate_store (t := 3) (p := 23) rfl ?_); refine store_event (t := 3) (p := 23) (v := ?vo_w12) (w1 := (w10.setCell ⟨go5, (x5_1 : Int).toNat * 3 + 1, none⟩ (.int .i64 (wrap64 (x1_1 + 1))))) ?hg ?ho ?hn ?hr ?_; (case ho => rfl); (case hg => rfl); (case hn => rfl); (case hr => first | (go_simp; done) | (go_simp; rfl)); intro w12 hw; have hg : w10.grownBy w12 (some go5) := (by rw [hw]; exact HP11.2); have hp_ : Kd.R k85 85 w12 w0.heap.size (fun k_ => (P0_ k_ ∨ w.heap.size ≤ k_)) (.slice (some ⟨go5, 0, none⟩) x0_1.length co8) y137 := (by rw [hw, Ny137.out]; exact HP11.1); clear HP11; replace HB := ak ((by rw [hw]; exact below_set (HB.out) GB5.out : Below w0.heap.size w0 w12)); replace HK := ak (Kept.of_grown (S := (fun k_ => P0_ k_)) hg (by repeat (first | (with_reducible first | exact HK.out | apply Kept.alloc | apply Kept.drewN | apply Kept.drew) | exact HK.out)) (fun k_ e_ => (HO_0.out.1 k_ e_))); replace HO_0 := ak (hp_); clear hg hw hp_; have p7 : 0 ≤ (x5_1 : Int) := da; have q7 : (x5_1 : Int) < ((x0_1.length : Int) : Int) := da; obtain ⟨ce7, hcl7, hM7, hcc7, hfr7⟩ := Kd.R_elem HO_0.out z85 (x5_1 : Int) p7 q7; obtain rfl := k85_openM hM7; have hx7_0 : w12.cell? ⟨go5, (x5_1 : Int).toNat * 3, none⟩ = some (.int .i64 ((rd_T85 y137 x5_1).f0)) := hcc7 0 _ rfl; have hx7_1 : w12.cell? ⟨go5, (x5_1 : Int).toNat * 3 + 1, none⟩ = some (.int .i64 ((rd_T85 y137 x5_1).f1)) := hcc7 1 _ rfl; have hx7_2 : w12.cell? ⟨go5, (x5_1 : Int).toNat * 3 + 2, none⟩ = some (.int .i64 ((rd_T85 y137 x5_1).f2)) := hcc7 2 _ rfl; have hf7_0 : w12.frozen? ⟨go5, (x5_1 : Int).toNat * 3, none⟩ = false := hfr7 0; have hf7_1 : w12.frozen? ⟨go5, (x5_1 : Int).toNat * 3 + 1, none⟩ = false := hfr7 1; have hf7_2 : w12.frozen? ⟨go5, (x5_1 : Int).toNat * 3 + 2, none⟩ = false := hfr7 2; clear hcl7 hcc7 hfr7 hM7; replace p7 := eq_true p7; replace q7 := eq_true q7; have HX13 := Aside0.mk (show Kd.R k85 85 w12 w0.heap.size (fun k_ => (P0_ k_ ∨ w.heap.size ≤ k_)) (.slice (some ⟨go5, 0, none⟩) x0_1.length co8) y137 from (rdl HO_0)); obtain ⟨ce13, hcl13, hM13, hcc13, hfr13⟩ := Kd.R_elem HX13.out z85 (x5_1 : Int) (da) (by have h_ : (x5_1 : Int) < ((x0_1.length : Int) : Int) := da; first | exact h_ | (have e_ := (Kd.R_reads' HO_0.out).1; omega) | simpa using h_); obtain rfl := k85_openM hM13; have HP13 := Kd.R_seg HX13.out (x5_1 : Int) (da) (by have h_ : (x5_1 : Int) < ((x0_1.length : Int) : Int) := da; first | exact h_ | (have e_ := (Kd.R_reads' HO_0.out).1; omega) | simpa using h_) (seg := [.int .i64 (wrap64 ((wrap64 (x1_1 + 1)) + 1))]) (j := 2) hcl13 hcc13 (show 3 ≤ 3 from by decide) (x' := (⟨(rd_T85 y137 x5_1).f0, (rd_T85 y137 x5_1).f1, wrap64 ((wrap64 (x1_1 + 1)) + 1)⟩ : S85)) (k85_mkM _ _ _ (⟨(rd_T85 y137 x5_1).f0, (rd_T85 y137 x5_1).f1, wrap64 ((wrap64 (x1_1 + 1)) + 1)⟩ : S85) ) (fun _ hk => hk); have hx13_2 := hcc13 2 _ rfl; (try simp only [show (k85).sz = 3 from rfl, Nat.mul_one, Nat.add_zero] at hx13_2); have hf13_2 := hfr13 2; (try simp only [show (k85).sz = 3 from rfl, Nat.mul_one, Nat.add_zero] at hf13_2); clear hcl13 hcc13 hfr13 hM13) | ((with_reducible refine gate_store (t := 3) (p := 30) rfl ?_); refine store_event (t := 3) (p := 30) (v := ?vo_w14) (w1 := (w12.setCell ⟨go5, (x5_1 : Int).toNat * 3 + 2, none⟩ (.int .i64 (wrap64 ((wrap64 (x1_1 + 1)) + 1))))) ?hg ?ho ?hn ?hr ?_; (case ho => rfl); (case hg => rfl); (case hn => rfl); (case hr => first | (go_simp; done) | (go_simp; rfl)); intro w14 hw; have hg : w12.grownBy w14 (some go5) := (by rw [hw]; exact HP13.2); have hp_ : Kd.R k85 85 w14 w0.heap.size (fun k_ => (P0_ k_ ∨ w.heap.size ≤ k_)) (.slice (some ⟨go5, 0, none⟩) x0_1.length co8) y138 := (by rw [hw, Ny138.out]; exact HP13.1); clear HP13; replace HB := ak ((by rw [hw]; exact below_set (HB.out) GB5.out : Below w0.heap.size w0 w14)); replace HK := ak (Kept.of_grown (S := (fun k_ => P0_ k_)) hg (by repeat (first | (with_reducible first | exact HK.out | apply Kept.alloc | apply Kept.drewN | apply Kept.drew) | exact HK.out)) (fun k_ e_ => (HO_0.out.1 k_ e_))); replace HO_0 := ak (hp_); clear hg hw hp_))
    go_roundg k1
    case measure => have := HK1.out; omega
    case rel => exact ⟨(y138), (wrap64 ((wrap64 ((wrap64 (x1_1 + 1)) + 1)) + 1)), (wrap64 (x5_1 + 1)), er, er, H', ⟨by have := HK1.out; omega⟩, ⟨rdl HO_0⟩, ⟨by repeat (first | (with_reducible first | exact HK.out | apply Kept.alloc | apply Kept.drewN | apply Kept.drew) | exact HK.out)⟩, ⟨belowd HB⟩⟩
   ·rw [if_neg c3] at H
    have c3b0 : decide (x5_1 < (x0_1.length : Int)) = false := decide_eq_false c3
    clear c3
    simp only [Option.some.injEq, Prod.mk.injEq] at H
    obtain ⟨rfl, rfl⟩ := H
    obtain ⟨Ao15, co15, eo15⟩ := Kd.R_slice HO_0.out
    subst eo15; go_wp2
    go_ret
    exact ⟨er2, by (with_reducible repeat (first | apply Kd.R_alloc | apply Kd.R_drewN | apply Kd.R_drew)); exact HO_0.out, belowd HB, by repeat (first | (with_reducible first | exact HK.out | apply Kept.alloc | apply Kept.drewN | apply Kept.drew) | exact HK.out)⟩

/-! ### laws_szClaimS: function 68 -/
def laws_szClaimS.f (l0 : List (S174)) (a1 : Int) : Option (Int) := if (wrap64 (a1 - (l0.length : Int))) < 0 then (some (-1)) else (some (wrap64 (a1 - (l0.length : Int))))
set_option maxHeartbeats 8000000 in
set_option maxRecDepth 100000 in
theorem laws_szClaimS.calls (A0 : Option Addr) (c0 : Nat) (l0 : List (S174)) (a1 : Int) (r : Int) (w : World) (hr0 : Kd.C k174 w A0 l0.length l0) (hc0 : l0.length ≤ c0) (h : laws_szClaimS.f l0 a1 = some r) :
  Calls Try.prog 68 #[.slice A0 l0.length c0, .int .i64 a1] w fun e w' => e = .returned (.int .i64 r) ∧ Drawn0 w w' := by
 have HR0 := Aside0.mk hr0; have HC0 := Aside0.mk hc0; clear hr0 hc0
 have H : (if (wrap64 (a1 - (l0.length : Int))) < 0 then (some (-1)) else (some (wrap64 (a1 - (l0.length : Int))))) = some r := h
 clear h
 by_cases c3 : (wrap64 (a1 - (l0.length : Int))) < 0
 ·rw [if_pos c3] at H
  have c3b0 : decide ((wrap64 (a1 - (l0.length : Int))) < 0) = true := decide_eq_true c3
  clear c3
  obtain rfl := Option.some.inj H
  go_enter Try.func68, Try.ntmps68
  go_wp2
  go_ret
  exact ⟨er, drw⟩
 ·rw [if_neg c3] at H
  have c3b0 : decide ((wrap64 (a1 - (l0.length : Int))) < 0) = false := decide_eq_false c3
  clear c3
  obtain rfl := Option.some.inj H
  go_enter Try.func68, Try.ntmps68
  go_wp2
  go_ret
  exact ⟨er, drw⟩

end Go.Proofs.Ytkgogglnipdcfaa.QFnExactTallyOf
