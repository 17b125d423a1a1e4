-- printed by this session's own program (wip/tools/pp.py: the kit's print.py with changes); Lean checks it
import Derived.Test.YtkgogglnipdcfaaQFnScoresx0
import Derived.Test.YtkgogglnipdcfaaQFnScoresx1
namespace Go.Proofs.Ytkgogglnipdcfaa.QFnScores
open Go.RowKit Go.Proofs.YtkgogglnipdcfaaW.PrintWords Go.Proofs.YtkgogglnipdcfaaW.PrintLast Go.Proofs.YtkgogglnipdcfaaW.PrintMore
attribute [local go_sem] max2_int min2_int max_two min_two max_three min_three max_four min_four strLss strGtr strLeq strGeq   -- for this text's walks alone
set_option linter.unusedVariables false
set_option linter.unusedSimpArgs false

attribute [local go_sem high] eqA85
/-! ### spec_l1In: function 153 -/
def spec_l1In.f (a0 : Int) (a1 : Int) (a2 : Int) : Option (Bool) := if a0 ≥ a1 then (some (decide (a0 ≤ a2))) else (some false)
set_option maxHeartbeats 8000000 in
set_option maxRecDepth 100000 in
theorem spec_l1In.calls (a0 : Int) (a1 : Int) (a2 : Int) (r : Bool) (w : World) (h : spec_l1In.f a0 a1 a2 = some r) :
  Calls Try.prog 153 #[.int .i64 a0, .int .i64 a1, .int .i64 a2] w fun e w' => e = .returned (.bool r) ∧ Drawn0 w w' := by
 have H : (if a0 ≥ a1 then (some (decide (a0 ≤ a2))) else (some false)) = some r := h
 clear h
 by_cases c4 : a0 ≥ a1
 ·rw [if_pos c4] at H
  have c4b0 : decide (a1 ≤ a0) = true := decide_eq_true c4
  clear c4
  obtain rfl := Option.some.inj H
  go_enter Try.func153, Try.ntmps153
  go_wp2
  go_ret
  exact ⟨er, drw⟩
 ·rw [if_neg c4] at H
  have c4b0 : decide (a1 ≤ a0) = false := decide_eq_false c4
  clear c4
  obtain rfl := Option.some.inj H
  go_enter Try.func153, Try.ntmps153
  go_wp2
  go_ret
  exact ⟨er, drw⟩

/-! ### spec_l12Witness: function 151 -/
def spec_l12Witness.f (a0 : Int) : Option (Bool) := (spec_l1In.f a0 0 6).bind fun t101 => (some t101)
set_option maxHeartbeats 8000000 in
set_option maxRecDepth 100000 in
theorem spec_l12Witness.calls (a0 : Int) (r : Bool) (w : World) (h : spec_l12Witness.f a0 = some r) :
  Calls Try.prog 151 #[.int .i64 a0] w fun e w' => e = .returned (.bool r) ∧ Drawn0 w w' := by
 have H : ((spec_l1In.f a0 0 6).bind fun t101 => (some t101)) = some r := h
 clear h; replace H := bS H; obtain ⟨t101, A2, H⟩ := H
 replace H : (some t101) = some r := H
 obtain rfl := Option.some.inj H
 go_enter Try.func151, Try.ntmps151
 go_wp2_with (first | ((with_reducible refine gate_callee (f := 153) rfl ?_); refine goesLa (some 4) rfl Try.func153 #[.int .i64 a0, .int .i64 0, .int .i64 6] rfl ?_; (with_reducible refine (spec_l1In.calls a0 0 6 t101 _ A2.out).mono ?_); rintro e w' ⟨rfl, ⟨nd, rfl⟩⟩; refine ⟨_, rfl, ?_⟩))
 go_ret
 exact ⟨er, drw⟩

/-! ### spec_GoodClaim: function 152 -/
def spec_GoodClaim.f (a0_0 : Int) (a0_1 : Int) (a0_2 : Int) : Option (Bool) := (spec_l1In.f a0_0 0 20).bind fun t103 => (if t103 = true then ((spec_l1In.f a0_1 0 1000).bind fun t104 => (if t104 = true then ((spec_l1In.f a0_2 0 100).bind fun t105 => (some t105)) else (some false))) else (some false))
set_option maxHeartbeats 8000000 in
set_option maxRecDepth 100000 in
theorem spec_GoodClaim.calls (a0_0 : Int) (a0_1 : Int) (a0_2 : Int) (r : Bool) (w : World) (h : spec_GoodClaim.f a0_0 a0_1 a0_2 = some r) :
  Calls Try.prog 152 #[.agg #[.int .i64 a0_0, .int .i64 a0_1, .int .i64 a0_2]] w fun e w' => e = .returned (.bool r) ∧ Below w.heap.size w w' := by
 have hu85 := Try.underlying85
 have HB := Aside0.mk (Below.refl w.heap.size w)
 have H : ((spec_l1In.f a0_0 0 20).bind fun t103 => (if t103 = true then ((spec_l1In.f a0_1 0 1000).bind fun t104 => (if t104 = true then ((spec_l1In.f a0_2 0 100).bind fun t105 => (some t105)) else (some false))) else (some false))) = some r := h
 clear h; replace H := bS H; obtain ⟨t103, A2, H⟩ := H
 replace H : (if t103 = true then ((spec_l1In.f a0_1 0 1000).bind fun t104 => (if t104 = true then ((spec_l1In.f a0_2 0 100).bind fun t105 => (some t105)) else (some false))) else (some false)) = some r := H
 by_cases c3 : t103 = true
 ·subst c3
  have H1 : ((spec_l1In.f a0_1 0 1000).bind fun t104 => (if t104 = true then ((spec_l1In.f a0_2 0 100).bind fun t105 => (some t105)) else (some false))) = some r := by rw [if_pos rfl] at H; exact H
  clear H
  have H := H1
  clear H1; replace H := bS H; obtain ⟨t104, A4, H⟩ := H
  replace H : (if t104 = true then ((spec_l1In.f a0_2 0 100).bind fun t105 => (some t105)) else (some false)) = some r := H
  by_cases c5 : t104 = true
  ·subst c5
   have H1 : ((spec_l1In.f a0_2 0 100).bind fun t105 => (some t105)) = some r := by rw [if_pos rfl] at H; exact H
   clear H
   have H := H1
   clear H1; replace H := bS H; obtain ⟨t105, A6, H⟩ := H
   replace H : (some t105) = some r := H
   obtain rfl := Option.some.inj H
   go_enter Try.func152, Try.ntmps152
   go_wp2_with (first | ((with_reducible refine gate_dst (N := 1) rfl ?_); refine boxev 1 #[.int .i64 a0_0, .int .i64 a0_1, .int .i64 a0_2] 85 ?_; intro gb102 hg w7 hbox hb; have BK102 := ak (hbox); have GW102 := ak (hgl hg (belowd HB)); have GE102 := ak (hgl hg (belowd HB)); replace HB := ak (below_step (belowd HB) hb); clear hb hbox hg; obtain ⟨hcz8_0, hcz8_1, hcz8_2, hfz8_0, hfz8_1, hfz8_2⟩ := box3 BK102) | ((with_reducible refine gate_callee (f := 153) rfl ?_); refine goesLa (some 5) rfl Try.func153 #[.int .i64 a0_0, .int .i64 0, .int .i64 20] rfl ?_; (with_reducible refine (spec_l1In.calls a0_0 0 20 true _ A2.out).mono ?_); rintro e w' ⟨rfl, ⟨nd, rfl⟩⟩; refine ⟨_, rfl, ?_⟩) | (go_at_call 153; (with_reducible refine (spec_l1In.calls a0_1 0 1000 true _ A4.out).mono ?_); rintro e w' ⟨rfl, ⟨nd, rfl⟩⟩) | (go_at_call 153; (with_reducible refine (spec_l1In.calls a0_2 0 100 t105 _ A6.out).mono ?_); rintro e w' ⟨rfl, ⟨nd, rfl⟩⟩))
   go_ret
   exact ⟨er2, belowg1 HB GE102⟩
  ·replace c5 := Bool.eq_false_iff.mpr c5
   subst c5
   have H1 : (some false) = some r := by rw [if_neg (show ¬ (false = true) by decide)] at H; exact H
   clear H
   have H := H1
   clear H1
   obtain rfl := Option.some.inj H
   go_enter Try.func152, Try.ntmps152
   go_wp2_with (first | ((with_reducible refine gate_dst (N := 1) rfl ?_); refine boxev 1 #[.int .i64 a0_0, .int .i64 a0_1, .int .i64 a0_2] 85 ?_; intro gb102 hg w9 hbox hb; have BK102 := ak (hbox); have GW102 := ak (hgl hg (belowd HB)); have GE102 := ak (hgl hg (belowd HB)); replace HB := ak (below_step (belowd HB) hb); clear hb hbox hg; obtain ⟨hcz10_0, hcz10_1, hcz10_2, hfz10_0, hfz10_1, hfz10_2⟩ := box3 BK102) | ((with_reducible refine gate_callee (f := 153) rfl ?_); refine goesLa (some 5) rfl Try.func153 #[.int .i64 a0_0, .int .i64 0, .int .i64 20] rfl ?_; (with_reducible refine (spec_l1In.calls a0_0 0 20 true _ A2.out).mono ?_); rintro e w' ⟨rfl, ⟨nd, rfl⟩⟩; refine ⟨_, rfl, ?_⟩) | (go_at_call 153; (with_reducible refine (spec_l1In.calls a0_1 0 1000 false _ A4.out).mono ?_); rintro e w' ⟨rfl, ⟨nd, rfl⟩⟩))
   go_ret
   exact ⟨er2, belowg1 HB GE102⟩
 ·replace c3 := Bool.eq_false_iff.mpr c3
  subst c3
  have H1 : (some false) = some r := by rw [if_neg (show ¬ (false = true) by decide)] at H; exact H
  clear H
  have H := H1
  clear H1
  obtain rfl := Option.some.inj H
  go_enter Try.func152, Try.ntmps152
  go_wp2_with (first | ((with_reducible refine gate_dst (N := 1) rfl ?_); refine boxev 1 #[.int .i64 a0_0, .int .i64 a0_1, .int .i64 a0_2] 85 ?_; intro gb102 hg w11 hbox hb; have BK102 := ak (hbox); have GW102 := ak (hgl hg (belowd HB)); have GE102 := ak (hgl hg (belowd HB)); replace HB := ak (below_step (belowd HB) hb); clear hb hbox hg; obtain ⟨hcz12_0, hcz12_1, hcz12_2, hfz12_0, hfz12_1, hfz12_2⟩ := box3 BK102) | ((with_reducible refine gate_callee (f := 153) rfl ?_); refine goesLa (some 5) rfl Try.func153 #[.int .i64 a0_0, .int .i64 0, .int .i64 20] rfl ?_; (with_reducible refine (spec_l1In.calls a0_0 0 20 false _ A2.out).mono ?_); rintro e w' ⟨rfl, ⟨nd, rfl⟩⟩; refine ⟨_, rfl, ?_⟩))
  go_ret
  exact ⟨er2, belowg1 HB GE102⟩

/-! ### spec_l12Good: function 135 -/
def spec_l12Good.l0 : Nat → List (S91) → List (S91) → Int → Int → Option (Bool)
  | 0, _, _, _, _ => none
  | k + 1, x0, x5, x6, x7 => if x7 < x6 then (if 0 ≤ x7 then (if x7 < (x5.length : Int) then ((spec_l12Witness.f ((rd_T91 x5 x7).f0)).bind fun t108 => (if t108 = true then ((spec_GoodClaim.f ((rd_T91 x5 x7).f1.f0) ((rd_T91 x5 x7).f1.f1) ((rd_T91 x5 x7).f1.f2)).bind fun t109 => (if t109 = true then (spec_l12Good.l0 k x0 x5 x6 (wrap64 (x7 + 1))) else (some false))) else (some false))) else (none)) else (none)) else (some (decide ((x0.length : Int) ≤ 60)))
def spec_l12Good.f (k : Nat) (l0 : List (S91)) : Option (Bool) := spec_l12Good.l0 k l0 l0 (l0.length : Int) 0
theorem spec_l12Good.mono_l : ∀ k, (∀ y0 y1 y2 y3, LeO (spec_l12Good.l0 k y0 y1 y2 y3) (spec_l12Good.l0 (k + 1) y0 y1 y2 y3))
 | 0 => fun _ _ _ _ r h => by simp [spec_l12Good.l0] at h
 | k + 1 => by
  have ih0 := spec_l12Good.mono_l k
  ·intro y0 y1 y2 y3
   unfold spec_l12Good.l0
   repeat' (first | (with_reducible first | exact ih0 _ _ _ _ | exact LeO.refl _ | exact LeO.none _ | refine LeO.ite ?_ ?_ | refine LeO.bind ?_ (fun _ => ?_)) | exact ih0 _ _ _ _ | exact LeO.none _ | refine LeO.ite ?_ ?_ | refine LeO.bind ?_ (fun _ => ?_))
theorem spec_l12Good.mono : ∀ a0 k, LeO (spec_l12Good.f k a0) (spec_l12Good.f (k + 1) a0) := by
 intro a0 k
 have ih0 := spec_l12Good.mono_l k
 unfold spec_l12Good.f
 repeat' (first | (with_reducible first | exact ih0 _ _ _ _ | exact LeO.refl _ | exact LeO.none _ | refine LeO.ite ?_ ?_ | refine LeO.bind ?_ (fun _ => ?_)) | exact ih0 _ _ _ _ | exact LeO.none _ | refine LeO.ite ?_ ?_ | refine LeO.bind ?_ (fun _ => ?_))
set_option maxHeartbeats 8000000 in
set_option maxRecDepth 100000 in
theorem spec_l12Good.calls (k : Nat) (A0 : Option Addr) (c0 : Nat) (l0 : List (S91)) (r : Bool) (w : World) (hr0 : Kd.C k91 w A0 l0.length l0) (hc0 : l0.length ≤ c0) (h : spec_l12Good.f k l0 = some r) :
  Calls Try.prog 135 #[.slice A0 l0.length c0] w fun e w' => e = .returned (.bool r) ∧ Below w.heap.size w w' := by
 have hu91 := Try.underlying91
 have hu85 := Try.underlying85
 have HR0 := Aside0.mk hr0; have HC0 := Aside0.mk hc0; clear hr0 hc0
 have HB := Aside0.mk (Below.refl w.heap.size w)
 have H : (spec_l12Good.l0 k l0 l0 (l0.length : Int) 0) = some r := h
 clear h
 have H' := Aside0.mk H
 clear H
 go_enter Try.func135, Try.ntmps135
 go_wp2
 go_loopg [7] k (fun kq v7 w' => ∃ (x7_1 : Int), v7 = .int .i64 x7_1 ∧ Aside0 (spec_l12Good.l0 kq l0 l0 (l0.length : Int) x7_1 = some r) ∧ Aside0 (kq ≤ k) ∧ Aside0 (Below w.heap.size w w'))
 case atStart => exact ⟨(0), er, H', ⟨Nat.le_refl _⟩, ⟨belowd HB⟩⟩
 case round =>
  clear H'
  obtain ⟨x7_1, rfl, HA, HK1, HB⟩ := hrel
  cases gk with
  | zero => exact absurd HA.out (by simp [spec_l12Good.l0])
  | succ k1 =>
   have H := HA.out; clear HA
   simp only [spec_l12Good.l0] at H
   by_cases c2 : x7_1 < (l0.length : Int)
   ·rw [if_pos c2] at H
    have c2b0 : decide (x7_1 < (l0.length : Int)) = true := decide_eq_true c2
    clear c2; replace H := ifS H; obtain ⟨c3, H⟩ := H; have c3b0 := decide_eq_true c3; clear c3; replace H := ifS H; obtain ⟨c4, H⟩ := H; have c4b0 := decide_eq_true c4; clear c4; replace H := bS H; obtain ⟨t108, A5, H⟩ := H
    replace H : (if t108 = true then ((spec_GoodClaim.f ((rd_T91 l0 x7_1).f1.f0) ((rd_T91 l0 x7_1).f1.f1) ((rd_T91 l0 x7_1).f1.f2)).bind fun t109 => (if t109 = true then (spec_l12Good.l0 k1 l0 l0 (l0.length : Int) (wrap64 (x7_1 + 1))) else (some false))) else (some false)) = some r := H
    by_cases c6 : t108 = true
    ·subst c6
     have H1 : ((spec_GoodClaim.f ((rd_T91 l0 x7_1).f1.f0) ((rd_T91 l0 x7_1).f1.f1) ((rd_T91 l0 x7_1).f1.f2)).bind fun t109 => (if t109 = true then (spec_l12Good.l0 k1 l0 l0 (l0.length : Int) (wrap64 (x7_1 + 1))) else (some false))) = some r := by rw [if_pos rfl] at H; exact H
     clear H
     have H := H1
     clear H1; replace H := bS H; obtain ⟨t109, A7, H⟩ := H
     replace H : (if t109 = true then (spec_l12Good.l0 k1 l0 l0 (l0.length : Int) (wrap64 (x7_1 + 1))) else (some false)) = some r := H
     by_cases c8 : t109 = true
     ·subst c8
      have H1 : (spec_l12Good.l0 k1 l0 l0 (l0.length : Int) (wrap64 (x7_1 + 1))) = some r := by rw [if_pos rfl] at H; exact H
      clear H
      have H := H1
      clear H1
      have H' := Aside0.mk H
      clear H
      have p106 : 0 ≤ (x7_1 : Int) := da
      have q106 : x7_1 < (l0.length : Int) := da
      obtain ⟨ad106, e106, hx106_0, hx106_1, hx106_2, hx106_3, hx106_4⟩ := at_T91 HR0.out x7_1 p106 q106
      cases e106
      replace hx106_0 := (HB.out.cell (World.block_lt_of_cell? w _ hx106_0)).trans hx106_0
      replace hx106_1 := (HB.out.cell (World.block_lt_of_cell? w _ hx106_1)).trans hx106_1
      replace hx106_2 := (HB.out.cell (World.block_lt_of_cell? w _ hx106_2)).trans hx106_2
      replace hx106_3 := (HB.out.cell (World.block_lt_of_cell? w _ hx106_3)).trans hx106_3
      replace hx106_4 := (HB.out.cell (World.block_lt_of_cell? w _ hx106_4)).trans hx106_4
      replace p106 := eq_true p106; replace q106 := eq_true q106
      go_wp2_with (first | ((with_reducible refine gate_dst (N := 4) rfl ?_); refine boxev 4 #[.int .i64 0, .int .i64 0, .int .i64 0, .int .i64 0, .bool false] 91 ?_; intro gb107 hg w9 hbox hb; have BK107 := ak (hbox); have GW107 := ak (hgl hg (belowd HB)); have GE107 := ak (hgl hg (belowd HB)); replace HB := ak (below_step (belowd HB) hb); clear hb hbox hg; obtain ⟨hcz10_0, hcz10_1, hcz10_2, hcz10_3, hcz10_4, hfz10_0, hfz10_1, hfz10_2, hfz10_3, hfz10_4⟩ := box5 BK107) | ((with_reducible refine gate_callee (f := 151) rfl ?_); refine goesLa (some 13) rfl Try.func151 #[.int .i64 ((rd_T91 l0 x7_1).f0)] rfl ?_; (with_reducible refine (spec_l12Witness.calls ((rd_T91 l0 x7_1).f0) true _ A5.out).mono ?_); rintro e w' ⟨rfl, ⟨nd, rfl⟩⟩; refine ⟨_, rfl, ?_⟩) | (go_at_call 152; (with_reducible refine (spec_GoodClaim.calls ((rd_T91 l0 x7_1).f1.f0) ((rd_T91 l0 x7_1).f1.f1) ((rd_T91 l0 x7_1).f1.f2) true _ A7.out).mono ?_); rintro e w11 ⟨rfl, hb⟩; replace BK107 := ak (blk_below (g := gb107) (o := .cells #[.int .i64 ((rd_T91 l0 x7_1).f0), .int .i64 ((rd_T91 l0 x7_1).f1.f0), .int .i64 ((rd_T91 l0 x7_1).f1.f1), .int .i64 ((rd_T91 l0 x7_1).f1.f2), .bool ((rd_T91 l0 x7_1).f2)] 91 (0, 0)) (by (with_reducible repeat (first | refine blk_drewN ?_ _ | refine blk_drew ?_ | refine blk_alloc ?_ _)); refine blk_put (cs := #[.int .i64 ((rd_T91 l0 x7_1).f0), .int .i64 ((rd_T91 l0 x7_1).f1.f0), .int .i64 ((rd_T91 l0 x7_1).f1.f1), .int .i64 ((rd_T91 l0 x7_1).f1.f2), .bool false]) ?_ 4 _ rfl; (with_reducible repeat (first | refine blk_drewN ?_ _ | refine blk_drew ?_ | refine blk_alloc ?_ _)); refine blk_put (cs := #[.int .i64 ((rd_T91 l0 x7_1).f0), .int .i64 ((rd_T91 l0 x7_1).f1.f0), .int .i64 ((rd_T91 l0 x7_1).f1.f1), .int .i64 0, .bool false]) ?_ 3 _ rfl; (with_reducible repeat (first | refine blk_drewN ?_ _ | refine blk_drew ?_ | refine blk_alloc ?_ _)); refine blk_put (cs := #[.int .i64 ((rd_T91 l0 x7_1).f0), .int .i64 ((rd_T91 l0 x7_1).f1.f0), .int .i64 0, .int .i64 0, .bool false]) ?_ 2 _ rfl; (with_reducible repeat (first | refine blk_drewN ?_ _ | refine blk_drew ?_ | refine blk_alloc ?_ _)); refine blk_put (cs := #[.int .i64 ((rd_T91 l0 x7_1).f0), .int .i64 0, .int .i64 0, .int .i64 0, .bool false]) ?_ 1 _ rfl; (with_reducible repeat (first | refine blk_drewN ?_ _ | refine blk_drew ?_ | refine blk_alloc ?_ _)); refine blk_put (cs := #[.int .i64 0, .int .i64 0, .int .i64 0, .int .i64 0, .bool false]) ?_ 0 _ rfl; (with_reducible repeat (first | refine blk_drewN ?_ _ | refine blk_drew ?_ | refine blk_alloc ?_ _)); exact BK107.out) hb); replace HB := ak (below_step (belowg1 HB GE107) hb); (try clear hb)))
      go_roundg k1
      case measure => have := HK1.out; omega
      case rel => exact ⟨(wrap64 (x7_1 + 1)), er, H', ⟨by have := HK1.out; omega⟩, ⟨belowg1 HB GE107⟩⟩
     ·replace c8 := Bool.eq_false_iff.mpr c8
      subst c8
      have H1 : (some false) = some r := by rw [if_neg (show ¬ (false = true) by decide)] at H; exact H
      clear H
      have H := H1
      clear H1
      obtain rfl := Option.some.inj H
      have p106 : 0 ≤ (x7_1 : Int) := da
      have q106 : x7_1 < (l0.length : Int) := da
      obtain ⟨ad106, e106, hx106_0, hx106_1, hx106_2, hx106_3, hx106_4⟩ := at_T91 HR0.out x7_1 p106 q106
      cases e106
      replace hx106_0 := (HB.out.cell (World.block_lt_of_cell? w _ hx106_0)).trans hx106_0
      replace hx106_1 := (HB.out.cell (World.block_lt_of_cell? w _ hx106_1)).trans hx106_1
      replace hx106_2 := (HB.out.cell (World.block_lt_of_cell? w _ hx106_2)).trans hx106_2
      replace hx106_3 := (HB.out.cell (World.block_lt_of_cell? w _ hx106_3)).trans hx106_3
      replace hx106_4 := (HB.out.cell (World.block_lt_of_cell? w _ hx106_4)).trans hx106_4
      replace p106 := eq_true p106; replace q106 := eq_true q106
      go_wp2_with (first | ((with_reducible refine gate_dst (N := 4) rfl ?_); refine boxev 4 #[.int .i64 0, .int .i64 0, .int .i64 0, .int .i64 0, .bool false] 91 ?_; intro gb107 hg w12 hbox hb; have BK107 := ak (hbox); have GW107 := ak (hgl hg (belowd HB)); have GE107 := ak (hgl hg (belowd HB)); replace HB := ak (below_step (belowd HB) hb); clear hb hbox hg; obtain ⟨hcz13_0, hcz13_1, hcz13_2, hcz13_3, hcz13_4, hfz13_0, hfz13_1, hfz13_2, hfz13_3, hfz13_4⟩ := box5 BK107) | ((with_reducible refine gate_callee (f := 151) rfl ?_); refine goesLa (some 13) rfl Try.func151 #[.int .i64 ((rd_T91 l0 x7_1).f0)] rfl ?_; (with_reducible refine (spec_l12Witness.calls ((rd_T91 l0 x7_1).f0) true _ A5.out).mono ?_); rintro e w' ⟨rfl, ⟨nd, rfl⟩⟩; refine ⟨_, rfl, ?_⟩) | (go_at_call 152; (with_reducible refine (spec_GoodClaim.calls ((rd_T91 l0 x7_1).f1.f0) ((rd_T91 l0 x7_1).f1.f1) ((rd_T91 l0 x7_1).f1.f2) false _ A7.out).mono ?_); rintro e w14 ⟨rfl, hb⟩; replace BK107 := ak (blk_below (g := gb107) (o := .cells #[.int .i64 ((rd_T91 l0 x7_1).f0), .int .i64 ((rd_T91 l0 x7_1).f1.f0), .int .i64 ((rd_T91 l0 x7_1).f1.f1), .int .i64 ((rd_T91 l0 x7_1).f1.f2), .bool ((rd_T91 l0 x7_1).f2)] 91 (0, 0)) (by (with_reducible repeat (first | refine blk_drewN ?_ _ | refine blk_drew ?_ | refine blk_alloc ?_ _)); refine blk_put (cs := #[.int .i64 ((rd_T91 l0 x7_1).f0), .int .i64 ((rd_T91 l0 x7_1).f1.f0), .int .i64 ((rd_T91 l0 x7_1).f1.f1), .int .i64 ((rd_T91 l0 x7_1).f1.f2), .bool false]) ?_ 4 _ rfl; (with_reducible repeat (first | refine blk_drewN ?_ _ | refine blk_drew ?_ | refine blk_alloc ?_ _)); refine blk_put (cs := #[.int .i64 ((rd_T91 l0 x7_1).f0), .int .i64 ((rd_T91 l0 x7_1).f1.f0), .int .i64 ((rd_T91 l0 x7_1).f1.f1), .int .i64 0, .bool false]) ?_ 3 _ rfl; (with_reducible repeat (first | refine blk_drewN ?_ _ | refine blk_drew ?_ | refine blk_alloc ?_ _)); refine blk_put (cs := #[.int .i64 ((rd_T91 l0 x7_1).f0), .int .i64 ((rd_T91 l0 x7_1).f1.f0), .int .i64 0, .int .i64 0, .bool false]) ?_ 2 _ rfl; (with_reducible repeat (first | refine blk_drewN ?_ _ | refine blk_drew ?_ | refine blk_alloc ?_ _)); refine blk_put (cs := #[.int .i64 ((rd_T91 l0 x7_1).f0), .int .i64 0, .int .i64 0, .int .i64 0, .bool false]) ?_ 1 _ rfl; (with_reducible repeat (first | refine blk_drewN ?_ _ | refine blk_drew ?_ | refine blk_alloc ?_ _)); refine blk_put (cs := #[.int .i64 0, .int .i64 0, .int .i64 0, .int .i64 0, .bool false]) ?_ 0 _ rfl; (with_reducible repeat (first | refine blk_drewN ?_ _ | refine blk_drew ?_ | refine blk_alloc ?_ _)); exact BK107.out) hb); replace HB := ak (below_step (belowg1 HB GE107) hb); (try clear hb)))
      go_ret
      exact ⟨er2, belowg1 HB GE107⟩
    ·replace c6 := Bool.eq_false_iff.mpr c6
     subst c6
     have H1 : (some false) = some r := by rw [if_neg (show ¬ (false = true) by decide)] at H; exact H
     clear H
     have H := H1
     clear H1
     obtain rfl := Option.some.inj H
     have p106 : 0 ≤ (x7_1 : Int) := da
     have q106 : x7_1 < (l0.length : Int) := da
     obtain ⟨ad106, e106, hx106_0, hx106_1, hx106_2, hx106_3, hx106_4⟩ := at_T91 HR0.out x7_1 p106 q106
     cases e106
     replace hx106_0 := (HB.out.cell (World.block_lt_of_cell? w _ hx106_0)).trans hx106_0
     replace hx106_1 := (HB.out.cell (World.block_lt_of_cell? w _ hx106_1)).trans hx106_1
     replace hx106_2 := (HB.out.cell (World.block_lt_of_cell? w _ hx106_2)).trans hx106_2
     replace hx106_3 := (HB.out.cell (World.block_lt_of_cell? w _ hx106_3)).trans hx106_3
     replace hx106_4 := (HB.out.cell (World.block_lt_of_cell? w _ hx106_4)).trans hx106_4
     replace p106 := eq_true p106; replace q106 := eq_true q106
     go_wp2_with (first | ((with_reducible refine gate_dst (N := 4) rfl ?_); refine boxev 4 #[.int .i64 0, .int .i64 0, .int .i64 0, .int .i64 0, .bool false] 91 ?_; intro gb107 hg w15 hbox hb; have BK107 := ak (hbox); have GW107 := ak (hgl hg (belowd HB)); have GE107 := ak (hgl hg (belowd HB)); replace HB := ak (below_step (belowd HB) hb); clear hb hbox hg; obtain ⟨hcz16_0, hcz16_1, hcz16_2, hcz16_3, hcz16_4, hfz16_0, hfz16_1, hfz16_2, hfz16_3, hfz16_4⟩ := box5 BK107) | ((with_reducible refine gate_callee (f := 151) rfl ?_); refine goesLa (some 13) rfl Try.func151 #[.int .i64 ((rd_T91 l0 x7_1).f0)] rfl ?_; (with_reducible refine (spec_l12Witness.calls ((rd_T91 l0 x7_1).f0) false _ A5.out).mono ?_); rintro e w' ⟨rfl, ⟨nd, rfl⟩⟩; refine ⟨_, rfl, ?_⟩))
     go_ret
     exact ⟨er2, belowg1 HB GE107⟩
   ·rw [if_neg c2] at H
    have c2b0 : decide (x7_1 < (l0.length : Int)) = false := decide_eq_false c2
    clear c2
    obtain rfl := Option.some.inj H
    go_wp2
    go_ret
    exact ⟨er2, belowd HB⟩

/-! ### spec_l12Less: function 198 -/
def spec_l12Less.f (a0_0 : Int) (a0_1 : Int) (a0_2 : Int) (a1_0 : Int) (a1_1 : Int) (a1_2 : Int) : Option (Bool) := if a0_0 = a1_0 then (if a0_1 = a1_1 then (some (decide (a0_2 < a1_2))) else (some (decide (a0_1 < a1_1)))) else (some (decide (a0_0 < a1_0)))
set_option maxHeartbeats 8000000 in
set_option maxRecDepth 100000 in
theorem spec_l12Less.calls (a0_0 : Int) (a0_1 : Int) (a0_2 : Int) (a1_0 : Int) (a1_1 : Int) (a1_2 : Int) (r : Bool) (w : World) (h : spec_l12Less.f a0_0 a0_1 a0_2 a1_0 a1_1 a1_2 = some r) :
  Calls Try.prog 198 #[.agg #[.int .i64 a0_0, .int .i64 a0_1, .int .i64 a0_2], .agg #[.int .i64 a1_0, .int .i64 a1_1, .int .i64 a1_2]] w fun e w' => e = .returned (.bool r) ∧ Below w.heap.size w w' := by
 have hu85 := Try.underlying85
 have HB := Aside0.mk (Below.refl w.heap.size w)
 have H : (if a0_0 = a1_0 then (if a0_1 = a1_1 then (some (decide (a0_2 < a1_2))) else (some (decide (a0_1 < a1_1)))) else (some (decide (a0_0 < a1_0)))) = some r := h
 clear h
 by_cases c3 : a0_0 = a1_0
 ·rw [if_pos c3] at H
  have c3b0 : (a0_0 == a1_0) = true := beq_iff_eq.mpr c3
  have c3b1 : (a0_0 != a1_0) = false := bne_eq_false_iff_eq.mpr c3
  clear c3
  by_cases c4 : a0_1 = a1_1
  ·rw [if_pos c4] at H
   have c4b0 : (a0_1 == a1_1) = true := beq_iff_eq.mpr c4
   have c4b1 : (a0_1 != a1_1) = false := bne_eq_false_iff_eq.mpr c4
   clear c4
   obtain rfl := Option.some.inj H
   go_enter Try.func198, Try.ntmps198
   go_wp2_with (first | ((with_reducible refine gate_dst (N := 2) rfl ?_); refine boxev 2 #[.int .i64 a0_0, .int .i64 a0_1, .int .i64 a0_2] 85 ?_; intro gb110 hg w5 hbox hb; have BK110 := ak (hbox); have GW110 := ak (hgl hg (belowd HB)); have GE110 := ak (hgl hg (belowd HB)); replace HB := ak (below_step (belowd HB) hb); clear hb hbox hg) | ((with_reducible refine gate_dst (N := 3) rfl ?_); refine boxev 3 #[.int .i64 a1_0, .int .i64 a1_1, .int .i64 a1_2] 85 ?_; intro gb111 hg w6 hbox hb; have BK111 := ak (hbox); have GW111 := ak (hgl hg (belowg1 HB GE110)); have GE111 := ak (hgl hg (belowg1 HB GE110)); replace HB := ak (below_step (belowg1 HB GE110) hb); have NB110_111 := ak ((by rw [hg]; exact Nat.ne_of_lt (blk_lt (blkd BK110)) : gb110 ≠ gb111)); have NB111_110 := ak ((by rw [hg]; exact Nat.ne_of_gt (blk_lt (blkd BK110)) : gb111 ≠ gb110)); replace BK110 := ak (blk_below (blkd BK110) hb); clear hb hbox hg; have hnb7 := NB110_111.out; have hnc7 := NB111_110.out; obtain ⟨hcz8_0, hcz8_1, hcz8_2, hfz8_0, hfz8_1, hfz8_2⟩ := box3 BK110; obtain ⟨hcz9_0, hcz9_1, hcz9_2, hfz9_0, hfz9_1, hfz9_2⟩ := box3 BK111))
   go_ret
   exact ⟨er2, belowg2 HB GE110 GE111⟩
  ·rw [if_neg c4] at H
   have c4b0 : (a0_1 == a1_1) = false := beq_eq_false_iff_ne.mpr c4
   have c4b1 : (a0_1 != a1_1) = true := bne_iff_ne.mpr c4
   obtain rfl := Option.some.inj H
   go_enter Try.func198, Try.ntmps198
   go_wp2_with (first | ((with_reducible refine gate_dst (N := 2) rfl ?_); refine boxev 2 #[.int .i64 a0_0, .int .i64 a0_1, .int .i64 a0_2] 85 ?_; intro gb110 hg w10 hbox hb; have BK110 := ak (hbox); have GW110 := ak (hgl hg (belowd HB)); have GE110 := ak (hgl hg (belowd HB)); replace HB := ak (below_step (belowd HB) hb); clear hb hbox hg) | ((with_reducible refine gate_dst (N := 3) rfl ?_); refine boxev 3 #[.int .i64 a1_0, .int .i64 a1_1, .int .i64 a1_2] 85 ?_; intro gb111 hg w11 hbox hb; have BK111 := ak (hbox); have GW111 := ak (hgl hg (belowg1 HB GE110)); have GE111 := ak (hgl hg (belowg1 HB GE110)); replace HB := ak (below_step (belowg1 HB GE110) hb); have NB110_111 := ak ((by rw [hg]; exact Nat.ne_of_lt (blk_lt (blkd BK110)) : gb110 ≠ gb111)); have NB111_110 := ak ((by rw [hg]; exact Nat.ne_of_gt (blk_lt (blkd BK110)) : gb111 ≠ gb110)); replace BK110 := ak (blk_below (blkd BK110) hb); clear hb hbox hg; have hnb12 := NB110_111.out; have hnc12 := NB111_110.out; obtain ⟨hcz13_0, hcz13_1, hcz13_2, hfz13_0, hfz13_1, hfz13_2⟩ := box3 BK110; obtain ⟨hcz14_0, hcz14_1, hcz14_2, hfz14_0, hfz14_1, hfz14_2⟩ := box3 BK111))
   go_ret
   exact ⟨er2, belowg2 HB GE110 GE111⟩
 ·rw [if_neg c3] at H
  have c3b0 : (a0_0 == a1_0) = false := beq_eq_false_iff_ne.mpr c3
  have c3b1 : (a0_0 != a1_0) = true := bne_iff_ne.mpr c3
  obtain rfl := Option.some.inj H
  go_enter Try.func198, Try.ntmps198
  go_wp2_with (first | ((with_reducible refine gate_dst (N := 2) rfl ?_); refine boxev 2 #[.int .i64 a0_0, .int .i64 a0_1, .int .i64 a0_2] 85 ?_; intro gb110 hg w15 hbox hb; have BK110 := ak (hbox); have GW110 := ak (hgl hg (belowd HB)); have GE110 := ak (hgl hg (belowd HB)); replace HB := ak (below_step (belowd HB) hb); clear hb hbox hg) | ((with_reducible refine gate_dst (N := 3) rfl ?_); refine boxev 3 #[.int .i64 a1_0, .int .i64 a1_1, .int .i64 a1_2] 85 ?_; intro gb111 hg w16 hbox hb; have BK111 := ak (hbox); have GW111 := ak (hgl hg (belowg1 HB GE110)); have GE111 := ak (hgl hg (belowg1 HB GE110)); replace HB := ak (below_step (belowg1 HB GE110) hb); have NB110_111 := ak ((by rw [hg]; exact Nat.ne_of_lt (blk_lt (blkd BK110)) : gb110 ≠ gb111)); have NB111_110 := ak ((by rw [hg]; exact Nat.ne_of_gt (blk_lt (blkd BK110)) : gb111 ≠ gb110)); replace BK110 := ak (blk_below (blkd BK110) hb); clear hb hbox hg; have hnb17 := NB110_111.out; have hnc17 := NB111_110.out; obtain ⟨hcz18_0, hcz18_1, hcz18_2, hfz18_0, hfz18_1, hfz18_2⟩ := box3 BK110; obtain ⟨hcz19_0, hcz19_1, hcz19_2, hfz19_0, hfz19_1, hfz19_2⟩ := box3 BK111))
  go_ret
  exact ⟨er2, belowg2 HB GE110 GE111⟩

/-! ### spec_l12Claims: function 136 -/
mutual
def spec_l12Claims.l0 : Nat → List (S85) → List (S91) → Int → Int → Option ((List (S85)))
  | 0, _, _, _, _ => none
  | k + 1, x3, x8, x9, x10 => if x10 < x9 then (if 0 ≤ x10 then (if x10 < (x8.length : Int) then (spec_l12Claims.l1 k x3 0 x8 x9 x10 ((rd_T91 x8 x10).f0) ((rd_T91 x8 x10).f1.f0) ((rd_T91 x8 x10).f1.f1) ((rd_T91 x8 x10).f1.f2) ((rd_T91 x8 x10).f2)) else (none)) else (none)) else (some x3)
def spec_l12Claims.l1 : Nat → List (S85) → Int → List (S91) → Int → Int → Int → Int → Int → Int → Bool → Option ((List (S85)))
  | 0, _, _, _, _, _, _, _, _, _, _ => none
  | k + 1, x3, x6, x8, x9, x10, x114000, x114001, x114002, x114003, x114004 => if x6 < (x3.length : Int) then (if 0 ≤ x6 then ((spec_l12Less.f ((rd_T85 x3 x6).f0) ((rd_T85 x3 x6).f1) ((rd_T85 x3 x6).f2) x114001 x114002 x114003).bind fun t115 => (if t115 = true then (spec_l12Claims.l1 k x3 (wrap64 (x6 + 1)) x8 x9 x10 x114000 x114001 x114002 x114003 x114004) else (if (((rd_T85 x3 x6).f0) == x114001 && (((rd_T85 x3 x6).f1) == x114002 && (((rd_T85 x3 x6).f2) == x114003))) = true then (spec_l12Claims.l0 k x3 x8 x9 (wrap64 (x10 + 1))) else ((some (([] : List (S85)) : List (S85))).bind fun y117 => (if x6 ≤ (x3.length : Int) then ((some (x3.take (x6 : Int).toNat : List (S85))).bind fun y120 => (if y117.length + y120.length < 5864062014805 then ((some (y117 ++ y120 : List (S85))).bind fun y124 => (if y124.length < 5864062014805 then ((some (y124 ++ [(⟨x114001, x114002, x114003⟩ : S85)] : List (S85))).bind fun y127 => ((some (x3.drop (x6 : Int).toNat : List (S85))).bind fun y130 => (if y127.length + y130.length < 5864062014805 then (spec_l12Claims.l0 k (y127 ++ y130) x8 x9 (wrap64 (x10 + 1))) else (none)))) else (none))) else (none))) else (none)))))) else (none)) else ((some (([] : List (S85)) : List (S85))).bind fun y137 => (if 0 ≤ x6 then (if x6 ≤ (x3.length : Int) then ((some (x3.take (x6 : Int).toNat : List (S85))).bind fun y140 => (if y137.length + y140.length < 5864062014805 then ((some (y137 ++ y140 : List (S85))).bind fun y144 => (if y144.length < 5864062014805 then ((some (y144 ++ [(⟨x114001, x114002, x114003⟩ : S85)] : List (S85))).bind fun y147 => ((some (x3.drop (x6 : Int).toNat : List (S85))).bind fun y150 => (if y147.length + y150.length < 5864062014805 then (spec_l12Claims.l0 k (y147 ++ y150) x8 x9 (wrap64 (x10 + 1))) else (none)))) else (none))) else (none))) else (none)) else (none)))
end
def spec_l12Claims.f (k : Nat) (l0 : List (S91)) : Option ((List (S85))) := spec_l12Claims.l0 k ([] : List (S85)) l0 (l0.length : Int) 0
theorem spec_l12Claims.mono_l : ∀ k, (∀ y0 y1 y2 y3, LeO (spec_l12Claims.l0 k y0 y1 y2 y3) (spec_l12Claims.l0 (k + 1) y0 y1 y2 y3)) ∧ (∀ y0 y1 y2 y3 y4 y5 y6 y7 y8 y9, LeO (spec_l12Claims.l1 k y0 y1 y2 y3 y4 y5 y6 y7 y8 y9) (spec_l12Claims.l1 (k + 1) y0 y1 y2 y3 y4 y5 y6 y7 y8 y9))
 | 0 => ⟨fun _ _ _ _ r h => by simp [spec_l12Claims.l0] at h, fun _ _ _ _ _ _ _ _ _ _ r h => by simp [spec_l12Claims.l1] at h⟩
 | k + 1 => by
  obtain ⟨ih0, ih1⟩ := spec_l12Claims.mono_l k
  refine ⟨?_, ?_⟩
  ·intro y0 y1 y2 y3
   unfold spec_l12Claims.l0
   repeat' (first | (with_reducible first | exact ih0 _ _ _ _ | exact ih1 _ _ _ _ _ _ _ _ _ _ | exact LeO.refl _ | exact LeO.none _ | refine LeO.ite ?_ ?_ | refine LeO.bind ?_ (fun _ => ?_)) | exact ih0 _ _ _ _ | exact ih1 _ _ _ _ _ _ _ _ _ _ | exact LeO.none _ | refine LeO.ite ?_ ?_ | refine LeO.bind ?_ (fun _ => ?_))
  ·intro y0 y1 y2 y3 y4 y5 y6 y7 y8 y9
   unfold spec_l12Claims.l1
   repeat' (first | (with_reducible first | exact ih0 _ _ _ _ | exact ih1 _ _ _ _ _ _ _ _ _ _ | exact LeO.refl _ | exact LeO.none _ | refine LeO.ite ?_ ?_ | refine LeO.bind ?_ (fun _ => ?_)) | exact ih0 _ _ _ _ | exact ih1 _ _ _ _ _ _ _ _ _ _ | exact LeO.none _ | refine LeO.ite ?_ ?_ | refine LeO.bind ?_ (fun _ => ?_))
theorem spec_l12Claims.mono : ∀ a0 k, LeO (spec_l12Claims.f k a0) (spec_l12Claims.f (k + 1) a0) := by
 intro a0 k
 obtain ⟨ih0, ih1⟩ := spec_l12Claims.mono_l k
 unfold spec_l12Claims.f
 repeat' (first | (with_reducible first | exact ih0 _ _ _ _ | exact ih1 _ _ _ _ _ _ _ _ _ _ | exact LeO.refl _ | exact LeO.none _ | refine LeO.ite ?_ ?_ | refine LeO.bind ?_ (fun _ => ?_)) | exact ih0 _ _ _ _ | exact ih1 _ _ _ _ _ _ _ _ _ _ | exact LeO.none _ | refine LeO.ite ?_ ?_ | refine LeO.bind ?_ (fun _ => ?_))
def spec_l12Claims.T6 : Bool × List (List Nat × List Nat) := (true, [([], []), ([], []), ([1], [1]), ([0, 2], [0, 2]), ([3], [3]), ([4], [4]), ([4], [4]), ([5, 6, 4], [4, 5, 6]), ([7, 4], [4, 7]), ([4], [4]), ([9, 4], [4, 9]), ([8, 10, 4, 4], [4, 8, 10]), ([4, 11], [4, 11])])
def spec_l12Claims.B6 : List Nat := [0, 0, 2, 7, 15, 31, 31, 127, 255, 31, 543, 2047, 4095]
theorem spec_l12Claims.tab6 : rtab .any (opsOf Try.f136 6) = spec_l12Claims.T6 := by kernel_rfl
theorem spec_l12Claims.bits6 : waitsOk spec_l12Claims.T6.2 spec_l12Claims.B6 = true := by kernel_rfl
def spec_l12Claims.T8 : Bool × List (List Nat × List Nat) := (true, [([], []), ([], []), ([1], [1]), ([0, 2], [0, 2]), ([3], [3]), ([4], [4]), ([4], [4]), ([5, 6, 4], [4, 5, 6]), ([7, 4], [4, 7]), ([4], [4]), ([9, 4], [4, 9]), ([8, 10, 4], [4, 8, 10]), ([4, 11], [4, 11])])
def spec_l12Claims.B8 : List Nat := [0, 0, 2, 7, 15, 31, 31, 127, 255, 31, 543, 2047, 4095]
theorem spec_l12Claims.tab8 : rtab .any (opsOf Try.f136 8) = spec_l12Claims.T8 := by kernel_rfl
theorem spec_l12Claims.bits8 : waitsOk spec_l12Claims.T8.2 spec_l12Claims.B8 = true := by kernel_rfl
set_option maxHeartbeats 8000000 in
set_option maxRecDepth 100000 in
theorem spec_l12Claims.calls (k : Nat) (A0 : Option Addr) (c0 : Nat) (l0 : List (S91)) (r : List (S85)) (w : World) (hr0 : Kd.C k91 w A0 l0.length l0) (hc0 : l0.length ≤ c0) (h : spec_l12Claims.f k l0 = some r) :
  Calls Try.prog 136 #[.slice A0 l0.length c0] w fun e w' => ∃ v0_ : Value, e = .returned (v0_) ∧ Kd.R k85 85 w' w.heap.size (fun _ => True) v0_ r ∧ Below w.heap.size w w' := by
 have hu91 := Try.underlying91
 have hu85 := Try.underlying85
 have HR0 := Aside0.mk hr0; have HC0 := Aside0.mk hc0; clear hr0 hc0
 have HB := Aside0.mk (Below.refl w.heap.size w)
 have H : (spec_l12Claims.l0 k ([] : List (S85)) l0 (l0.length : Int) 0) = some r := h
 clear h
 have H' := Aside0.mk H
 clear H
 go_enter Try.func136, Try.ntmps136
 go_wp2
 go_loopg [3, 10] k (fun kq v3 v10 w' => ∃ (x3_1 : List (S85)) (x10_1 : Int), v10 = .int .i64 x10_1 ∧ Aside0 (spec_l12Claims.l0 kq x3_1 l0 (l0.length : Int) x10_1 = some r) ∧ Aside0 (kq ≤ k) ∧ Aside0 (Kd.R k85 85 w' w.heap.size (fun _ => True) v3 x3_1) ∧ Aside0 (Below w.heap.size w w'))
 case atStart => exact ⟨(([] : List (S85))), (0), er, H', ⟨Nat.le_refl _⟩, ⟨by first | exact Kd.R_nil _ _ _ _ _ | exact Kd.N_nil _ _ _ _ _ | exact Kd.V_nil _ _ _ _ _ | exact Kd.Q_nil _ _ _ _ _ | exact Kd.S_nil _ _ _ _ _⟩, ⟨belowd HB⟩⟩
 case round =>
  clear H'
  obtain ⟨x3_1, x10_1, rfl, HA, HK1, HO_3, HB⟩ := hrel
  cases gk with
  | zero => exact absurd HA.out (by simp [spec_l12Claims.l0])
  | succ k1 =>
   have H := HA.out; clear HA
   simp only [spec_l12Claims.l0] at H
   by_cases c2 : x10_1 < (l0.length : Int)
   ·rw [if_pos c2] at H
    have c2b0 : decide (x10_1 < (l0.length : Int)) = true := decide_eq_true c2
    clear c2; replace H := ifS H; obtain ⟨c3, H⟩ := H; have c3b0 := decide_eq_true c3; clear c3; replace H := ifS H; obtain ⟨c4, H⟩ := H; have c4b0 := decide_eq_true c4; clear c4
    have H' := Aside0.mk H
    clear H
    have p112 : 0 ≤ (x10_1 : Int) := da
    have q112 : x10_1 < (l0.length : Int) := da
    obtain ⟨ad112, e112, hx112_0, hx112_1, hx112_2, hx112_3, hx112_4⟩ := at_T91 HR0.out x10_1 p112 q112
    cases e112
    replace hx112_0 := (HB.out.cell (World.block_lt_of_cell? w _ hx112_0)).trans hx112_0
    replace hx112_1 := (HB.out.cell (World.block_lt_of_cell? w _ hx112_1)).trans hx112_1
    replace hx112_2 := (HB.out.cell (World.block_lt_of_cell? w _ hx112_2)).trans hx112_2
    replace hx112_3 := (HB.out.cell (World.block_lt_of_cell? w _ hx112_3)).trans hx112_3
    replace hx112_4 := (HB.out.cell (World.block_lt_of_cell? w _ hx112_4)).trans hx112_4
    replace p112 := eq_true p112; replace q112 := eq_true q112
    go_wp2_with (first | ((with_reducible refine gate_dst (N := 5) rfl ?_); refine boxev 5 #[.int .i64 0, .int .i64 0, .int .i64 0, .int .i64 0, .bool false] 91 ?_; intro gb113 hg w5 hbox hb; replace HO_3 := ak (Kd.R_below (rdl HO_3) hb); have BK113 := ak (hbox); have GW113 := ak (hgl hg (belowd HB)); have GE113 := ak (hgl hg (belowd HB)); replace HB := ak (below_step (belowd HB) hb); clear hb hbox hg; obtain ⟨hcz6_0, hcz6_1, hcz6_2, hcz6_3, hcz6_4, hfz6_0, hfz6_1, hfz6_2, hfz6_3, hfz6_4⟩ := box5 BK113))
    go_loopg [6] k1 (fun kq v6 w' => ∃ (x6_2 : Int), v6 = .int .i64 x6_2 ∧ Aside0 (spec_l12Claims.l1 kq x3_1 x6_2 l0 (l0.length : Int) x10_1 ((rd_T91 l0 x10_1).f0) ((rd_T91 l0 x10_1).f1.f0) ((rd_T91 l0 x10_1).f1.f1) ((rd_T91 l0 x10_1).f1.f2) ((rd_T91 l0 x10_1).f2) = some r) ∧ Aside0 (kq ≤ k1) ∧ Aside0 (Kd.R k85 85 w' w.heap.size (fun _ => True) u3 x3_1) ∧ Aside0 (w'.heap[gb113]? = some (.cells #[.int .i64 ((rd_T91 l0 x10_1).f0), .int .i64 ((rd_T91 l0 x10_1).f1.f0), .int .i64 ((rd_T91 l0 x10_1).f1.f1), .int .i64 ((rd_T91 l0 x10_1).f1.f2), .bool ((rd_T91 l0 x10_1).f2)] 91 (0, 0))) ∧ Aside0 (Below w.heap.size w w'))
    case atStart => exact ⟨(0), er, H', ⟨Nat.le_refl _⟩, ⟨by (with_reducible repeat (first | apply Kd.R_alloc | apply Kd.R_drewN | apply Kd.R_drew)); exact Kd.R_mono (farsR (Kd.R_types HO_3.out BK113.out (by decide))) (fun _ hk => trivial)⟩, ⟨by (with_reducible repeat (first | refine blk_drewN ?_ _ | refine blk_drew ?_ | refine blk_alloc ?_ _)); refine blk_put (cs := #[.int .i64 ((rd_T91 l0 x10_1).f0), .int .i64 ((rd_T91 l0 x10_1).f1.f0), .int .i64 ((rd_T91 l0 x10_1).f1.f1), .int .i64 ((rd_T91 l0 x10_1).f1.f2), .bool false]) ?_ 4 _ rfl; (with_reducible repeat (first | refine blk_drewN ?_ _ | refine blk_drew ?_ | refine blk_alloc ?_ _)); refine blk_put (cs := #[.int .i64 ((rd_T91 l0 x10_1).f0), .int .i64 ((rd_T91 l0 x10_1).f1.f0), .int .i64 ((rd_T91 l0 x10_1).f1.f1), .int .i64 0, .bool false]) ?_ 3 _ rfl; (with_reducible repeat (first | refine blk_drewN ?_ _ | refine blk_drew ?_ | refine blk_alloc ?_ _)); refine blk_put (cs := #[.int .i64 ((rd_T91 l0 x10_1).f0), .int .i64 ((rd_T91 l0 x10_1).f1.f0), .int .i64 0, .int .i64 0, .bool false]) ?_ 2 _ rfl; (with_reducible repeat (first | refine blk_drewN ?_ _ | refine blk_drew ?_ | refine blk_alloc ?_ _)); refine blk_put (cs := #[.int .i64 ((rd_T91 l0 x10_1).f0), .int .i64 0, .int .i64 0, .int .i64 0, .bool false]) ?_ 1 _ rfl; (with_reducible repeat (first | refine blk_drewN ?_ _ | refine blk_drew ?_ | refine blk_alloc ?_ _)); refine blk_put (cs := #[.int .i64 0, .int .i64 0, .int .i64 0, .int .i64 0, .bool false]) ?_ 0 _ rfl; (with_reducible repeat (first | refine blk_drewN ?_ _ | refine blk_drew ?_ | refine blk_alloc ?_ _)); exact BK113.out⟩, ⟨belowg1 HB GE113⟩⟩
    case round =>
     clear H'
     (try clear c2b0); (try clear c3b0); (try clear c4b0); (try clear hcz6_0); (try clear hcz6_1); (try clear hcz6_2); (try clear hcz6_3); (try clear hcz6_4); (try clear hfz6_0); (try clear hfz6_1); (try clear hfz6_2); (try clear hfz6_3); (try clear hfz6_4); (try clear hx112_0); (try clear hx112_1); (try clear hx112_2); (try clear hx112_3); (try clear hx112_4); (try clear p112); (try clear q112)
     obtain ⟨x6_2, rfl, HA, HK2, HO_3, BK113, HB⟩ := hrel
     cases gk with
     | zero => exact absurd HA.out (by simp [spec_l12Claims.l1])
     | succ k2 =>
      have H := HA.out; clear HA
      simp only [spec_l12Claims.l1] at H
      by_cases c7 : x6_2 < (x3_1.length : Int)
      ·rw [if_pos c7] at H
       have c7b0 : decide (x6_2 < (x3_1.length : Int)) = true := decide_eq_true c7
       clear c7; replace H := ifS H; obtain ⟨c8, H⟩ := H; have c8b0 := decide_eq_true c8; clear c8; replace H := bS H; obtain ⟨t115, A9, H⟩ := H
       replace H : (if t115 = true then (spec_l12Claims.l1 k2 x3_1 (wrap64 (x6_2 + 1)) l0 (l0.length : Int) x10_1 ((rd_T91 l0 x10_1).f0) ((rd_T91 l0 x10_1).f1.f0) ((rd_T91 l0 x10_1).f1.f1) ((rd_T91 l0 x10_1).f1.f2) ((rd_T91 l0 x10_1).f2)) else (if (((rd_T85 x3_1 x6_2).f0) == ((rd_T91 l0 x10_1).f1.f0) && (((rd_T85 x3_1 x6_2).f1) == ((rd_T91 l0 x10_1).f1.f1) && (((rd_T85 x3_1 x6_2).f2) == ((rd_T91 l0 x10_1).f1.f2)))) = true then (spec_l12Claims.l0 k2 x3_1 l0 (l0.length : Int) (wrap64 (x10_1 + 1))) else ((some (([] : List (S85)) : List (S85))).bind fun y117 => (if x6_2 ≤ (x3_1.length : Int) then ((some (x3_1.take (x6_2 : Int).toNat : List (S85))).bind fun y120 => (if y117.length + y120.length < 5864062014805 then ((some (y117 ++ y120 : List (S85))).bind fun y124 => (if y124.length < 5864062014805 then ((some (y124 ++ [(⟨((rd_T91 l0 x10_1).f1.f0), ((rd_T91 l0 x10_1).f1.f1), ((rd_T91 l0 x10_1).f1.f2)⟩ : S85)] : List (S85))).bind fun y127 => ((some (x3_1.drop (x6_2 : Int).toNat : List (S85))).bind fun y130 => (if y127.length + y130.length < 5864062014805 then (spec_l12Claims.l0 k2 (y127 ++ y130) l0 (l0.length : Int) (wrap64 (x10_1 + 1))) else (none)))) else (none))) else (none))) else (none))))) = some r := H
       by_cases c10 : t115 = true
       ·subst c10
        have H1 : (spec_l12Claims.l1 k2 x3_1 (wrap64 (x6_2 + 1)) l0 (l0.length : Int) x10_1 ((rd_T91 l0 x10_1).f0) ((rd_T91 l0 x10_1).f1.f0) ((rd_T91 l0 x10_1).f1.f1) ((rd_T91 l0 x10_1).f1.f2) ((rd_T91 l0 x10_1).f2)) = some r := by rw [if_pos rfl] at H; exact H
        clear H
        have H := H1
        clear H1
        have H' := Aside0.mk H
        clear H
        try go_wp2
        replace HO_3 := ak (Kd.R_drew HO_3.out)
        replace BK113 := ak (blk_drew BK113.out)
        replace HB := ak (below_drew1 HB.out)
        obtain ⟨Ao12, co12, eo12⟩ := Kd.R_slice HO_3.out
        (first | subst eo12 | (injection eo12 with f1_ f2_ f3_; have f4_ := f1_.symm; have f5_ := f3_.symm; clear f1_ f2_ f3_; subst f4_; subst f5_))
        have p114 : 0 ≤ (x6_2 : Int) := da
        have q114 : x6_2 < (x3_1.length : Int) := da
        obtain ⟨ad114, e114, hx114_0, hx114_1, hx114_2⟩ := at_T85 (Kd.R_reads' HO_3.out).2.2 x6_2 p114 q114
        cases e114
        replace p114 := eq_true p114; replace q114 := eq_true q114
        refine start_ (n := 13) (S := fun w' => w'.cell? ⟨gb113, 0, none⟩ = some (.int .i64 ((rd_T91 l0 x10_1).f0)) ∧ w'.cell? ⟨gb113, 1, none⟩ = some (.int .i64 ((rd_T91 l0 x10_1).f1.f0)) ∧ w'.cell? ⟨gb113, 2, none⟩ = some (.int .i64 ((rd_T91 l0 x10_1).f1.f1)) ∧ w'.cell? ⟨gb113, 3, none⟩ = some (.int .i64 ((rd_T91 l0 x10_1).f1.f2)) ∧ w'.cell? ⟨gb113, 4, none⟩ = some (.bool ((rd_T91 l0 x10_1).f2)) ∧ w'.cell? (ad114.add ((x6_2).toNat * 3)) = some (.int .i64 ((rd_T85 x3_1 x6_2).f0)) ∧ w'.cell? ⟨(ad114.add ((x6_2).toNat * 3)).block, (ad114.add ((x6_2).toNat * 3)).off + 1, none⟩ = some (.int .i64 ((rd_T85 x3_1 x6_2).f1)) ∧ w'.cell? ⟨(ad114.add ((x6_2).toNat * 3)).block, (ad114.add ((x6_2).toNat * 3)).off + 2, none⟩ = some (.int .i64 ((rd_T85 x3_1 x6_2).f2))) (ds := []) (bl 13 0) (by kernel_rfl) rfl rfl ⟨bq BK113 0, bq BK113 1, bq BK113 2, bq BK113 3, bq BK113 4, hx114_0, hx114_1, hx114_2⟩ (fun hHeld => ?_); refine with_tabW spec_l12Claims.tab6 spec_l12Claims.bits6 (fun HT_ HW_ => ?_)
        generalize wr.drew = w11 at HO_3 BK113 HB hx114_0 hx114_1 hx114_2 hHeld ⊢
        refine pureA 0 (some 14) 13 1 HT_ ?_
        refine pureA 1 (some 15) 13 3 HT_ ?_
        refine pureA 2 (some 16) 13 7 HT_ ?_
        refine pureA 3 (some 17) 13 15 HT_ ?_
        refine pureA 4 (some 18) 13 31 HT_ ?_
        refine pureA 5 (some 19) 13 63 HT_ ?_
        refine pureA 6 (some 20) 13 127 HT_ ?_
        refine pureA 7 (some 21) 13 255 HT_ ?_
        refine pureA 9 (some 23) 13 767 HT_ ?_
        refine takeA 8 (some 22) 13 1023 HT_ HW_ hHeld ?_ (hy := by rintro w' ⟨s0, s1, s2, s3, s4, s5, s6, s7⟩; go_simp; with_reducible rfl)
        refine takeA 10 (some 24) 13 2047 HT_ HW_ hHeld ?_ (hy := by rintro w' ⟨s0, s1, s2, s3, s4, s5, s6, s7⟩; go_simp; with_reducible rfl)
        refine oneA 11 (some 25) 13 4095 HT_ (fun K hK => ?_)
        refine goes_ Try.func198 (by kernel_rfl) rfl #[.agg #[.int .i64 ((rd_T85 x3_1 x6_2).f0), .int .i64 ((rd_T85 x3_1 x6_2).f1), .int .i64 ((rd_T85 x3_1 x6_2).f2)], .agg #[.int .i64 ((rd_T91 l0 x10_1).f1.f0), .int .i64 ((rd_T91 l0 x10_1).f1.f1), .int .i64 ((rd_T91 l0 x10_1).f1.f2)]] (by rfl) rfl rfl (by (try simp only [List.map_toArray, List.map_cons, List.map_nil]); first | done | rfl | (simp only [List.length_drop, List.length_take]; rfl)) ?_
        with_reducible refine (spec_l12Less.calls ((rd_T85 x3_1 x6_2).f0) ((rd_T85 x3_1 x6_2).f1) ((rd_T85 x3_1 x6_2).f2) ((rd_T91 l0 x10_1).f1.f0) ((rd_T91 l0 x10_1).f1.f1) ((rd_T91 l0 x10_1).f1.f2) true _ A9.out).mono ?_
        rintro e w13 ⟨rfl, hb⟩
        have HS5_ := (hb.cell (World.block_lt_of_cell? _ _ (hHeld.2.2.2.2.2.1))).trans (hHeld.2.2.2.2.2.1)
        have HS6_ := (hb.cell (World.block_lt_of_cell? _ _ (hHeld.2.2.2.2.2.2.1))).trans (hHeld.2.2.2.2.2.2.1)
        have HS7_ := (hb.cell (World.block_lt_of_cell? _ _ (hHeld.2.2.2.2.2.2.2))).trans (hHeld.2.2.2.2.2.2.2)
        refine ⟨_, rfl, ?_⟩
        replace HO_3 := ak (Kd.R_below (rdl HO_3) hb)
        replace BK113 := ak (blk_below (blkd BK113) hb)
        replace HB := ak (below_step (belowg1 HB GE113) hb)
        (try clear hb); (try clear hb2); (try clear hk); (try clear hi)
        refine hK.out _ _ ⟨bq BK113 0, bq BK113 1, bq BK113 2, bq BK113 3, bq BK113 4, HS5_, HS6_, HS7_⟩ (fun hHeld => ?_)
        clear hK K
        refine norm_ (a' := ?_) ?_ ?_
        rotate_left
        ·show Act.put _ (some 25) _ = _
         simp only [Act.put, List.setIfInBounds_toArray, List.set_cons_zero, List.set_cons_succ, i64_w, i32_w]
         rfl
        refine pureA 12 (some 26) 13 8191 HT_ ?_
        refine done_ (done_of HT_.out (by kernel_rfl)) ?_
        try go_wp2
        go_roundg k2
        case measure => have := HK1.out; have := HK2.out; omega
        case rel => exact ⟨(wrap64 (x6_2 + 1)), er, H', ⟨by have := HK1.out; have := HK2.out; omega⟩, ⟨rdl HO_3⟩, ⟨blkd BK113⟩, ⟨belowg1 HB GE113⟩⟩
       ·replace c10 := Bool.eq_false_iff.mpr c10
        subst c10
        have H1 : (if (((rd_T85 x3_1 x6_2).f0) == ((rd_T91 l0 x10_1).f1.f0) && (((rd_T85 x3_1 x6_2).f1) == ((rd_T91 l0 x10_1).f1.f1) && (((rd_T85 x3_1 x6_2).f2) == ((rd_T91 l0 x10_1).f1.f2)))) = true then (spec_l12Claims.l0 k2 x3_1 l0 (l0.length : Int) (wrap64 (x10_1 + 1))) else ((some (([] : List (S85)) : List (S85))).bind fun y117 => (if x6_2 ≤ (x3_1.length : Int) then ((some (x3_1.take (x6_2 : Int).toNat : List (S85))).bind fun y120 => (if y117.length + y120.length < 5864062014805 then ((some (y117 ++ y120 : List (S85))).bind fun y124 => (if y124.length < 5864062014805 then ((some (y124 ++ [(⟨((rd_T91 l0 x10_1).f1.f0), ((rd_T91 l0 x10_1).f1.f1), ((rd_T91 l0 x10_1).f1.f2)⟩ : S85)] : List (S85))).bind fun y127 => ((some (x3_1.drop (x6_2 : Int).toNat : List (S85))).bind fun y130 => (if y127.length + y130.length < 5864062014805 then (spec_l12Claims.l0 k2 (y127 ++ y130) l0 (l0.length : Int) (wrap64 (x10_1 + 1))) else (none)))) else (none))) else (none))) else (none)))) = some r := by rw [if_neg (show ¬ (false = true) by decide)] at H; exact H
        clear H
        have H := H1
        clear H1
        by_cases c14 : (((rd_T85 x3_1 x6_2).f0) == ((rd_T91 l0 x10_1).f1.f0) && (((rd_T85 x3_1 x6_2).f1) == ((rd_T91 l0 x10_1).f1.f1) && (((rd_T85 x3_1 x6_2).f2) == ((rd_T91 l0 x10_1).f1.f2)))) = true
        ·rw [if_pos c14] at H
         have c14b0 : (((rd_T85 x3_1 x6_2).f0) == ((rd_T91 l0 x10_1).f1.f0) && (((rd_T85 x3_1 x6_2).f1) == ((rd_T91 l0 x10_1).f1.f1) && (((rd_T85 x3_1 x6_2).f2) == ((rd_T91 l0 x10_1).f1.f2)))) = true := c14
         (try (have c14b1 : decide (((rd_T85 x3_1 x6_2).f0) = ((rd_T91 l0 x10_1).f1.f0) && (((rd_T85 x3_1 x6_2).f1) == ((rd_T91 l0 x10_1).f1.f1) && (((rd_T85 x3_1 x6_2).f2) == ((rd_T91 l0 x10_1).f1.f2)))) = true := by simpa using c14))
         (try (have c14b2 : (((rd_T85 x3_1 x6_2).f0) == ((rd_T91 l0 x10_1).f1.f0) && (((rd_T85 x3_1 x6_2).f1) == ((rd_T91 l0 x10_1).f1.f1) && (((rd_T85 x3_1 x6_2).f2) == ((rd_T91 l0 x10_1).f1.f2)))) = true := by simpa using c14))
         clear c14
         have H' := Aside0.mk H
         clear H
         try go_wp2
         replace HO_3 := ak (Kd.R_drew HO_3.out)
         replace BK113 := ak (blk_drew BK113.out)
         replace HB := ak (below_drew1 HB.out)
         obtain ⟨Ao16, co16, eo16⟩ := Kd.R_slice HO_3.out
         (first | subst eo16 | (injection eo16 with f1_ f2_ f3_; have f4_ := f1_.symm; have f5_ := f3_.symm; clear f1_ f2_ f3_; subst f4_; subst f5_))
         have p114 : 0 ≤ (x6_2 : Int) := da
         have q114 : x6_2 < (x3_1.length : Int) := da
         obtain ⟨ad114, e114, hx114_0, hx114_1, hx114_2⟩ := at_T85 (Kd.R_reads' HO_3.out).2.2 x6_2 p114 q114
         cases e114
         replace p114 := eq_true p114; replace q114 := eq_true q114
         refine start_ (n := 13) (S := fun w' => w'.cell? ⟨gb113, 0, none⟩ = some (.int .i64 ((rd_T91 l0 x10_1).f0)) ∧ w'.cell? ⟨gb113, 1, none⟩ = some (.int .i64 ((rd_T91 l0 x10_1).f1.f0)) ∧ w'.cell? ⟨gb113, 2, none⟩ = some (.int .i64 ((rd_T91 l0 x10_1).f1.f1)) ∧ w'.cell? ⟨gb113, 3, none⟩ = some (.int .i64 ((rd_T91 l0 x10_1).f1.f2)) ∧ w'.cell? ⟨gb113, 4, none⟩ = some (.bool ((rd_T91 l0 x10_1).f2)) ∧ w'.cell? (ad114.add ((x6_2).toNat * 3)) = some (.int .i64 ((rd_T85 x3_1 x6_2).f0)) ∧ w'.cell? ⟨(ad114.add ((x6_2).toNat * 3)).block, (ad114.add ((x6_2).toNat * 3)).off + 1, none⟩ = some (.int .i64 ((rd_T85 x3_1 x6_2).f1)) ∧ w'.cell? ⟨(ad114.add ((x6_2).toNat * 3)).block, (ad114.add ((x6_2).toNat * 3)).off + 2, none⟩ = some (.int .i64 ((rd_T85 x3_1 x6_2).f2))) (ds := []) (bl 13 0) (by kernel_rfl) rfl rfl ⟨bq BK113 0, bq BK113 1, bq BK113 2, bq BK113 3, bq BK113 4, hx114_0, hx114_1, hx114_2⟩ (fun hHeld => ?_); refine with_tabW spec_l12Claims.tab6 spec_l12Claims.bits6 (fun HT_ HW_ => ?_)
         generalize wr.drew = w15 at HO_3 BK113 HB hx114_0 hx114_1 hx114_2 hHeld ⊢
         refine pureA 0 (some 14) 13 1 HT_ ?_
         refine pureA 1 (some 15) 13 3 HT_ ?_
         refine pureA 2 (some 16) 13 7 HT_ ?_
         refine pureA 3 (some 17) 13 15 HT_ ?_
         refine pureA 4 (some 18) 13 31 HT_ ?_
         refine pureA 5 (some 19) 13 63 HT_ ?_
         refine pureA 6 (some 20) 13 127 HT_ ?_
         refine pureA 7 (some 21) 13 255 HT_ ?_
         refine pureA 9 (some 23) 13 767 HT_ ?_
         refine takeA 8 (some 22) 13 1023 HT_ HW_ hHeld ?_ (hy := by rintro w' ⟨s0, s1, s2, s3, s4, s5, s6, s7⟩; go_simp; with_reducible rfl)
         refine takeA 10 (some 24) 13 2047 HT_ HW_ hHeld ?_ (hy := by rintro w' ⟨s0, s1, s2, s3, s4, s5, s6, s7⟩; go_simp; with_reducible rfl)
         refine oneA 11 (some 25) 13 4095 HT_ (fun K hK => ?_)
         refine goes_ Try.func198 (by kernel_rfl) rfl #[.agg #[.int .i64 ((rd_T85 x3_1 x6_2).f0), .int .i64 ((rd_T85 x3_1 x6_2).f1), .int .i64 ((rd_T85 x3_1 x6_2).f2)], .agg #[.int .i64 ((rd_T91 l0 x10_1).f1.f0), .int .i64 ((rd_T91 l0 x10_1).f1.f1), .int .i64 ((rd_T91 l0 x10_1).f1.f2)]] (by rfl) rfl rfl (by (try simp only [List.map_toArray, List.map_cons, List.map_nil]); first | done | rfl | (simp only [List.length_drop, List.length_take]; rfl)) ?_
         with_reducible refine (spec_l12Less.calls ((rd_T85 x3_1 x6_2).f0) ((rd_T85 x3_1 x6_2).f1) ((rd_T85 x3_1 x6_2).f2) ((rd_T91 l0 x10_1).f1.f0) ((rd_T91 l0 x10_1).f1.f1) ((rd_T91 l0 x10_1).f1.f2) false _ A9.out).mono ?_
         rintro e w17 ⟨rfl, hb⟩
         have HS5_ := (hb.cell (World.block_lt_of_cell? _ _ (hHeld.2.2.2.2.2.1))).trans (hHeld.2.2.2.2.2.1)
         have HS6_ := (hb.cell (World.block_lt_of_cell? _ _ (hHeld.2.2.2.2.2.2.1))).trans (hHeld.2.2.2.2.2.2.1)
         have HS7_ := (hb.cell (World.block_lt_of_cell? _ _ (hHeld.2.2.2.2.2.2.2))).trans (hHeld.2.2.2.2.2.2.2)
         refine ⟨_, rfl, ?_⟩
         replace HO_3 := ak (Kd.R_below (rdl HO_3) hb)
         replace BK113 := ak (blk_below (blkd BK113) hb)
         replace HB := ak (below_step (belowg1 HB GE113) hb)
         (try clear hb); (try clear hb2); (try clear hk); (try clear hi)
         refine hK.out _ _ ⟨bq BK113 0, bq BK113 1, bq BK113 2, bq BK113 3, bq BK113 4, HS5_, HS6_, HS7_⟩ (fun hHeld => ?_)
         clear hK K
         refine norm_ (a' := ?_) ?_ ?_
         rotate_left
         ·show Act.put _ (some 25) _ = _
          simp only [Act.put, List.setIfInBounds_toArray, List.set_cons_zero, List.set_cons_succ, i64_w, i32_w]
          rfl
         refine pureA 12 (some 26) 13 8191 HT_ ?_
         refine done_ (done_of HT_.out (by kernel_rfl)) ?_
         try go_wp2
         replace HO_3 := ak (Kd.R_drew HO_3.out)
         replace BK113 := ak (blk_drew BK113.out)
         replace HB := ak (below_drew1 HB.out)
         have p116 : 0 ≤ (x6_2 : Int) := da
         have q116 : x6_2 < (x3_1.length : Int) := da
         obtain ⟨ad116, e116, hx116_0, hx116_1, hx116_2⟩ := at_T85 (Kd.R_reads' HO_3.out).2.2 x6_2 p116 q116
         obtain rfl : ad114 = ad116 := (by injection e116)
         replace p116 := eq_true p116; replace q116 := eq_true q116
         refine start_ (n := 13) (S := fun w' => w'.cell? ⟨gb113, 0, none⟩ = some (.int .i64 ((rd_T91 l0 x10_1).f0)) ∧ w'.cell? ⟨gb113, 1, none⟩ = some (.int .i64 ((rd_T91 l0 x10_1).f1.f0)) ∧ w'.cell? ⟨gb113, 2, none⟩ = some (.int .i64 ((rd_T91 l0 x10_1).f1.f1)) ∧ w'.cell? ⟨gb113, 3, none⟩ = some (.int .i64 ((rd_T91 l0 x10_1).f1.f2)) ∧ w'.cell? ⟨gb113, 4, none⟩ = some (.bool ((rd_T91 l0 x10_1).f2)) ∧ w'.cell? (ad114.add ((x6_2).toNat * 3)) = some (.int .i64 ((rd_T85 x3_1 x6_2).f0)) ∧ w'.cell? ⟨(ad114.add ((x6_2).toNat * 3)).block, (ad114.add ((x6_2).toNat * 3)).off + 1, none⟩ = some (.int .i64 ((rd_T85 x3_1 x6_2).f1)) ∧ w'.cell? ⟨(ad114.add ((x6_2).toNat * 3)).block, (ad114.add ((x6_2).toNat * 3)).off + 2, none⟩ = some (.int .i64 ((rd_T85 x3_1 x6_2).f2))) (ds := []) (bl 13 0) (by kernel_rfl) rfl rfl ⟨bq BK113 0, bq BK113 1, bq BK113 2, bq BK113 3, bq BK113 4, hx116_0, hx116_1, hx116_2⟩ (fun hHeld => ?_); refine with_tabW spec_l12Claims.tab8 spec_l12Claims.bits8 (fun HT_ HW_ => ?_)
         generalize w17.drew = w18 at HO_3 BK113 HB hx116_0 hx116_1 hx116_2 hHeld ⊢
         refine pureA 0 (some 29) 13 1 HT_ ?_
         refine pureA 1 (some 30) 13 3 HT_ ?_
         refine pureA 2 (some 31) 13 7 HT_ ?_
         refine pureA 3 (some 32) 13 15 HT_ ?_
         refine pureA 4 (some 33) 13 31 HT_ ?_
         refine pureA 5 (some 34) 13 63 HT_ ?_
         refine pureA 6 (some 35) 13 127 HT_ ?_
         refine pureA 7 (some 36) 13 255 HT_ ?_
         refine pureA 9 (some 38) 13 767 HT_ ?_
         refine takeA 8 (some 37) 13 1023 HT_ HW_ hHeld ?_ (hy := by rintro w' ⟨s0, s1, s2, s3, s4, s5, s6, s7⟩; go_simp; with_reducible rfl)
         refine takeA 10 (some 39) 13 2047 HT_ HW_ hHeld ?_ (hy := by rintro w' ⟨s0, s1, s2, s3, s4, s5, s6, s7⟩; go_simp; with_reducible rfl)
         refine pureA 11 (some 40) 13 4095 HT_ ?_
         refine pureA 12 (some 41) 13 8191 HT_ ?_
         refine done_ (done_of HT_.out (by kernel_rfl)) ?_
         try go_wp2
         go_roundg k2
         case measure => have := HK1.out; have := HK2.out; omega
         case rel => exact ⟨(x3_1), (wrap64 (x10_1 + 1)), er, H', ⟨by have := HK1.out; have := HK2.out; omega⟩, ⟨rdl HO_3⟩, ⟨belowg1 HB GE113⟩⟩
        ·rw [if_neg c14] at H
         have c14b0 : (((rd_T85 x3_1 x6_2).f0) == ((rd_T91 l0 x10_1).f1.f0) && (((rd_T85 x3_1 x6_2).f1) == ((rd_T91 l0 x10_1).f1.f1) && (((rd_T85 x3_1 x6_2).f2) == ((rd_T91 l0 x10_1).f1.f2)))) = false := by simpa using c14
         (try (have c14b1 : decide (((rd_T85 x3_1 x6_2).f0) = ((rd_T91 l0 x10_1).f1.f0) && (((rd_T85 x3_1 x6_2).f1) == ((rd_T91 l0 x10_1).f1.f1) && (((rd_T85 x3_1 x6_2).f2) == ((rd_T91 l0 x10_1).f1.f2)))) = false := by simpa using c14))
         (try (have c14b2 : (((rd_T85 x3_1 x6_2).f0) == ((rd_T91 l0 x10_1).f1.f0) && (((rd_T85 x3_1 x6_2).f1) == ((rd_T91 l0 x10_1).f1.f1) && (((rd_T85 x3_1 x6_2).f2) == ((rd_T91 l0 x10_1).f1.f2)))) = false := by simpa using c14))
         (try (have c14b3 : ¬ (((rd_T85 x3_1 x6_2).f0) = ((rd_T91 l0 x10_1).f1.f0) && (((rd_T85 x3_1 x6_2).f1) == ((rd_T91 l0 x10_1).f1.f1) && (((rd_T85 x3_1 x6_2).f2) == ((rd_T91 l0 x10_1).f1.f2)))) := by simpa using c14))
         clear c14
         obtain ⟨y117, hy_⟩ : ∃ y_ : List (S85), y_ = (([] : List (S85))) := ⟨_, rfl⟩
         replace H : (if x6_2 ≤ (x3_1.length : Int) then ((some (x3_1.take (x6_2 : Int).toNat : List (S85))).bind fun y120 => (if y117.length + y120.length < 5864062014805 then ((some (y117 ++ y120 : List (S85))).bind fun y124 => (if y124.length < 5864062014805 then ((some (y124 ++ [(⟨((rd_T91 l0 x10_1).f1.f0), ((rd_T91 l0 x10_1).f1.f1), ((rd_T91 l0 x10_1).f1.f2)⟩ : S85)] : List (S85))).bind fun y127 => ((some (x3_1.drop (x6_2 : Int).toNat : List (S85))).bind fun y130 => (if y127.length + y130.length < 5864062014805 then (spec_l12Claims.l0 k2 (y127 ++ y130) l0 (l0.length : Int) (wrap64 (x10_1 + 1))) else (none)))) else (none))) else (none))) else (none)) = some r := yH
         have Ny117 := ak hy_; clear hy_
         have c19b0 := eq_true (da : 0 ≤ x6_2)
         replace H := ifS H; obtain ⟨c20, H⟩ := H; have c20b0 := eq_true c20
         have c20b1 : decide (x6_2 ≤ (x3_1.length : Int)) = true := decide_eq_true c20
         clear c20
         obtain ⟨y120, hy_⟩ : ∃ y_ : List (S85), y_ = (x3_1.take (x6_2 : Int).toNat) := ⟨_, rfl⟩
         replace H : (if y117.length + y120.length < 5864062014805 then ((some (y117 ++ y120 : List (S85))).bind fun y124 => (if y124.length < 5864062014805 then ((some (y124 ++ [(⟨((rd_T91 l0 x10_1).f1.f0), ((rd_T91 l0 x10_1).f1.f1), ((rd_T91 l0 x10_1).f1.f2)⟩ : S85)] : List (S85))).bind fun y127 => ((some (x3_1.drop (x6_2 : Int).toNat : List (S85))).bind fun y130 => (if y127.length + y130.length < 5864062014805 then (spec_l12Claims.l0 k2 (y127 ++ y130) l0 (l0.length : Int) (wrap64 (x10_1 + 1))) else (none)))) else (none))) else (none)) = some r := yH
         have Ny120 := ak hy_; clear hy_; replace H := ifS H; obtain ⟨c21, H⟩ := H; have LMc21 := Aside0.mk c21; clear c21
         obtain ⟨y124, hy_⟩ : ∃ y_ : List (S85), y_ = (y117 ++ y120) := ⟨_, rfl⟩
         replace H : (if y124.length < 5864062014805 then ((some (y124 ++ [(⟨((rd_T91 l0 x10_1).f1.f0), ((rd_T91 l0 x10_1).f1.f1), ((rd_T91 l0 x10_1).f1.f2)⟩ : S85)] : List (S85))).bind fun y127 => ((some (x3_1.drop (x6_2 : Int).toNat : List (S85))).bind fun y130 => (if y127.length + y130.length < 5864062014805 then (spec_l12Claims.l0 k2 (y127 ++ y130) l0 (l0.length : Int) (wrap64 (x10_1 + 1))) else (none)))) else (none)) = some r := yH
         have Ny124 := ak hy_; clear hy_; replace H := ifS H; obtain ⟨c22, H⟩ := H; have LMc22 := Aside0.mk c22; clear c22
         obtain ⟨y127, hy_⟩ : ∃ y_ : List (S85), y_ = (y124 ++ [(⟨((rd_T91 l0 x10_1).f1.f0), ((rd_T91 l0 x10_1).f1.f1), ((rd_T91 l0 x10_1).f1.f2)⟩ : S85)]) := ⟨_, rfl⟩
         replace H : ((some (x3_1.drop (x6_2 : Int).toNat : List (S85))).bind fun y130 => (if y127.length + y130.length < 5864062014805 then (spec_l12Claims.l0 k2 (y127 ++ y130) l0 (l0.length : Int) (wrap64 (x10_1 + 1))) else (none))) = some r := yH
         have Ny127 := ak hy_; clear hy_
         have c23b0 := eq_true (da : 0 ≤ x6_2)
         have c24b0 := eq_true (da : x6_2 ≤ (x3_1.length : Int))
         obtain ⟨y130, hy_⟩ : ∃ y_ : List (S85), y_ = (x3_1.drop (x6_2 : Int).toNat) := ⟨_, rfl⟩
         replace H : (if y127.length + y130.length < 5864062014805 then (spec_l12Claims.l0 k2 (y127 ++ y130) l0 (l0.length : Int) (wrap64 (x10_1 + 1))) else (none)) = some r := yH
         have Ny130 := ak hy_; clear hy_; replace H := ifS H; obtain ⟨c25, H⟩ := H; have LMc25 := Aside0.mk c25; clear c25
         obtain ⟨y134, hy_⟩ : ∃ y_ : List (S85), y_ = (y127 ++ y130) := ⟨_, rfl⟩
         replace H : (spec_l12Claims.l0 k2 y134 l0 (l0.length : Int) (wrap64 (x10_1 + 1))) = some r := yH
         have Ny134 := ak hy_; clear hy_
         have H' := Aside0.mk H
         clear H
         try go_wp2
         replace HO_3 := ak (Kd.R_drew HO_3.out)
         replace BK113 := ak (blk_drew BK113.out)
         replace HB := ak (below_drew1 HB.out)
         obtain ⟨Ao27, co27, eo27⟩ := Kd.R_slice HO_3.out
         (first | subst eo27 | (injection eo27 with f1_ f2_ f3_; have f4_ := f1_.symm; have f5_ := f3_.symm; clear f1_ f2_ f3_; subst f4_; subst f5_))
         have p114 : 0 ≤ (x6_2 : Int) := da
         have q114 : x6_2 < (x3_1.length : Int) := da
         obtain ⟨ad114, e114, hx114_0, hx114_1, hx114_2⟩ := at_T85 (Kd.R_reads' HO_3.out).2.2 x6_2 p114 q114
         cases e114
         replace p114 := eq_true p114; replace q114 := eq_true q114
         refine start_ (n := 13) (S := fun w' => w'.cell? ⟨gb113, 0, none⟩ = some (.int .i64 ((rd_T91 l0 x10_1).f0)) ∧ w'.cell? ⟨gb113, 1, none⟩ = some (.int .i64 ((rd_T91 l0 x10_1).f1.f0)) ∧ w'.cell? ⟨gb113, 2, none⟩ = some (.int .i64 ((rd_T91 l0 x10_1).f1.f1)) ∧ w'.cell? ⟨gb113, 3, none⟩ = some (.int .i64 ((rd_T91 l0 x10_1).f1.f2)) ∧ w'.cell? ⟨gb113, 4, none⟩ = some (.bool ((rd_T91 l0 x10_1).f2)) ∧ w'.cell? (ad114.add ((x6_2).toNat * 3)) = some (.int .i64 ((rd_T85 x3_1 x6_2).f0)) ∧ w'.cell? ⟨(ad114.add ((x6_2).toNat * 3)).block, (ad114.add ((x6_2).toNat * 3)).off + 1, none⟩ = some (.int .i64 ((rd_T85 x3_1 x6_2).f1)) ∧ w'.cell? ⟨(ad114.add ((x6_2).toNat * 3)).block, (ad114.add ((x6_2).toNat * 3)).off + 2, none⟩ = some (.int .i64 ((rd_T85 x3_1 x6_2).f2))) (ds := []) (bl 13 0) (by kernel_rfl) rfl rfl ⟨bq BK113 0, bq BK113 1, bq BK113 2, bq BK113 3, bq BK113 4, hx114_0, hx114_1, hx114_2⟩ (fun hHeld => ?_); refine with_tabW spec_l12Claims.tab6 spec_l12Claims.bits6 (fun HT_ HW_ => ?_)
         generalize wr.drew = w26 at HO_3 BK113 HB hx114_0 hx114_1 hx114_2 hHeld ⊢
         refine pureA 0 (some 14) 13 1 HT_ ?_
         refine pureA 1 (some 15) 13 3 HT_ ?_
         refine pureA 2 (some 16) 13 7 HT_ ?_
         refine pureA 3 (some 17) 13 15 HT_ ?_
         refine pureA 4 (some 18) 13 31 HT_ ?_
         refine pureA 5 (some 19) 13 63 HT_ ?_
         refine pureA 6 (some 20) 13 127 HT_ ?_
         refine pureA 7 (some 21) 13 255 HT_ ?_
         refine pureA 9 (some 23) 13 767 HT_ ?_
         refine takeA 8 (some 22) 13 1023 HT_ HW_ hHeld ?_ (hy := by rintro w' ⟨s0, s1, s2, s3, s4, s5, s6, s7⟩; go_simp; with_reducible rfl)
         refine takeA 10 (some 24) 13 2047 HT_ HW_ hHeld ?_ (hy := by rintro w' ⟨s0, s1, s2, s3, s4, s5, s6, s7⟩; go_simp; with_reducible rfl)
         refine oneA 11 (some 25) 13 4095 HT_ (fun K hK => ?_)
         refine goes_ Try.func198 (by kernel_rfl) rfl #[.agg #[.int .i64 ((rd_T85 x3_1 x6_2).f0), .int .i64 ((rd_T85 x3_1 x6_2).f1), .int .i64 ((rd_T85 x3_1 x6_2).f2)], .agg #[.int .i64 ((rd_T91 l0 x10_1).f1.f0), .int .i64 ((rd_T91 l0 x10_1).f1.f1), .int .i64 ((rd_T91 l0 x10_1).f1.f2)]] (by rfl) rfl rfl (by (try simp only [List.map_toArray, List.map_cons, List.map_nil]); first | done | rfl | (simp only [List.length_drop, List.length_take]; rfl)) ?_
         with_reducible refine (spec_l12Less.calls ((rd_T85 x3_1 x6_2).f0) ((rd_T85 x3_1 x6_2).f1) ((rd_T85 x3_1 x6_2).f2) ((rd_T91 l0 x10_1).f1.f0) ((rd_T91 l0 x10_1).f1.f1) ((rd_T91 l0 x10_1).f1.f2) false _ A9.out).mono ?_
         rintro e w28 ⟨rfl, hb⟩
         have HS5_ := (hb.cell (World.block_lt_of_cell? _ _ (hHeld.2.2.2.2.2.1))).trans (hHeld.2.2.2.2.2.1)
         have HS6_ := (hb.cell (World.block_lt_of_cell? _ _ (hHeld.2.2.2.2.2.2.1))).trans (hHeld.2.2.2.2.2.2.1)
         have HS7_ := (hb.cell (World.block_lt_of_cell? _ _ (hHeld.2.2.2.2.2.2.2))).trans (hHeld.2.2.2.2.2.2.2)
         refine ⟨_, rfl, ?_⟩
         replace HO_3 := ak (Kd.R_below (rdl HO_3) hb)
         replace BK113 := ak (blk_below (blkd BK113) hb)
         replace HB := ak (below_step (belowg1 HB GE113) hb)
         (try clear hb); (try clear hb2); (try clear hk); (try clear hi)
         refine hK.out _ _ ⟨bq BK113 0, bq BK113 1, bq BK113 2, bq BK113 3, bq BK113 4, HS5_, HS6_, HS7_⟩ (fun hHeld => ?_)
         clear hK K
         refine norm_ (a' := ?_) ?_ ?_
         rotate_left
         ·show Act.put _ (some 25) _ = _
          simp only [Act.put, List.setIfInBounds_toArray, List.set_cons_zero, List.set_cons_succ, i64_w, i32_w]
          rfl
         refine pureA 12 (some 26) 13 8191 HT_ ?_
         refine done_ (done_of HT_.out (by kernel_rfl)) ?_
         try go_wp2
         replace HO_3 := ak (Kd.R_drew HO_3.out)
         replace BK113 := ak (blk_drew BK113.out)
         replace HB := ak (below_drew1 HB.out)
         have p116 : 0 ≤ (x6_2 : Int) := da
         have q116 : x6_2 < (x3_1.length : Int) := da
         obtain ⟨ad116, e116, hx116_0, hx116_1, hx116_2⟩ := at_T85 (Kd.R_reads' HO_3.out).2.2 x6_2 p116 q116
         obtain rfl : ad114 = ad116 := (by injection e116)
         replace p116 := eq_true p116; replace q116 := eq_true q116
         refine start_ (n := 13) (S := fun w' => w'.cell? ⟨gb113, 0, none⟩ = some (.int .i64 ((rd_T91 l0 x10_1).f0)) ∧ w'.cell? ⟨gb113, 1, none⟩ = some (.int .i64 ((rd_T91 l0 x10_1).f1.f0)) ∧ w'.cell? ⟨gb113, 2, none⟩ = some (.int .i64 ((rd_T91 l0 x10_1).f1.f1)) ∧ w'.cell? ⟨gb113, 3, none⟩ = some (.int .i64 ((rd_T91 l0 x10_1).f1.f2)) ∧ w'.cell? ⟨gb113, 4, none⟩ = some (.bool ((rd_T91 l0 x10_1).f2)) ∧ w'.cell? (ad114.add ((x6_2).toNat * 3)) = some (.int .i64 ((rd_T85 x3_1 x6_2).f0)) ∧ w'.cell? ⟨(ad114.add ((x6_2).toNat * 3)).block, (ad114.add ((x6_2).toNat * 3)).off + 1, none⟩ = some (.int .i64 ((rd_T85 x3_1 x6_2).f1)) ∧ w'.cell? ⟨(ad114.add ((x6_2).toNat * 3)).block, (ad114.add ((x6_2).toNat * 3)).off + 2, none⟩ = some (.int .i64 ((rd_T85 x3_1 x6_2).f2))) (ds := []) (bl 13 0) (by kernel_rfl) rfl rfl ⟨bq BK113 0, bq BK113 1, bq BK113 2, bq BK113 3, bq BK113 4, hx116_0, hx116_1, hx116_2⟩ (fun hHeld => ?_); refine with_tabW spec_l12Claims.tab8 spec_l12Claims.bits8 (fun HT_ HW_ => ?_)
         generalize w28.drew = w29 at HO_3 BK113 HB hx116_0 hx116_1 hx116_2 hHeld ⊢
         refine pureA 0 (some 29) 13 1 HT_ ?_
         refine pureA 1 (some 30) 13 3 HT_ ?_
         refine pureA 2 (some 31) 13 7 HT_ ?_
         refine pureA 3 (some 32) 13 15 HT_ ?_
         refine pureA 4 (some 33) 13 31 HT_ ?_
         refine pureA 5 (some 34) 13 63 HT_ ?_
         refine pureA 6 (some 35) 13 127 HT_ ?_
         refine pureA 7 (some 36) 13 255 HT_ ?_
         refine pureA 9 (some 38) 13 767 HT_ ?_
         refine takeA 8 (some 37) 13 1023 HT_ HW_ hHeld ?_ (hy := by rintro w' ⟨s0, s1, s2, s3, s4, s5, s6, s7⟩; go_simp; with_reducible rfl)
         refine takeA 10 (some 39) 13 2047 HT_ HW_ hHeld ?_ (hy := by rintro w' ⟨s0, s1, s2, s3, s4, s5, s6, s7⟩; go_simp; with_reducible rfl)
         refine pureA 11 (some 40) 13 4095 HT_ ?_
         refine pureA 12 (some 41) 13 8191 HT_ ?_
         refine done_ (done_of HT_.out (by kernel_rfl)) ?_
         try go_wp2_with (first | ((with_reducible refine gate_dst (N := 42) rfl ?_); refine Kd.R_lit k85 _ 85 ?hg (N := 42) ?hd (xs := ([] : List (S85))) (inner := []) (ok := fun _ => True) (okp := fun _ => True) ?hr ?hp (fun _ hk => hk) trivial (Below.refl _ _) (Nat.le_refl _) (by simp) ?_; (case hd => rfl); (case hg => rfl); (case hr => first | (go_simp; done) | (go_simp; rfl)); (case hp => exact (Reps.none _ _)); intro v118 w30 ho31 hb hg_ hnew_; clear hg_ hnew_; (first | rw [← Ny117.out] at ho31 | (simp only [Int.reduceToNat] at ho31; rw [← Ny117.out] at ho31)); have HO119 := ak (Kd.R_lower (Kd.R_new' ho31 (Kd.R_lt (rdl HO_3))) (below_size (belowg1 HB GE113))); replace HO_3 := ak (Kd.R_elder' (rdl HO_3) (Kd.R_base ho31) hb); replace BK113 := ak (blk_below (blkd BK113) hb); replace HB := ak (below_step (belowg1 HB GE113) hb); clear hb ho31; have q32 : (x6_2 : Int) ≤ ((x3_1.length : Int) : Int) := da; obtain ⟨i032, hi032, _, hsz32, _⟩ := info_parts info85; have hroom32 : x3_1.length ≤ co27 := (Kd.R_reads' HO_3.out).2.1; have hC32 : Kd.C k85 _ (some ad114) x3_1.length x3_1 := (Kd.R_reads' HO_3.out).2.2; have hcut32 := cut_to (P := Try.prog) 70 85 .i64 Try.underlying70 hi032 (some ad114) x3_1.length co27 x6_2 (da) q32 hroom32; have hr32 := Kd.C_take (m := (x6_2 : Int).toNat) hC32 (by omega); have hy32 : y120.length = (x6_2 : Int).toNat := (by rw [Ny120.out, List.length_take]; omega); rw [← Ny120.out] at hr32; rw [← hy32] at hcut32; have HR123 := Aside0.mk hr32; have HC123 := Aside0.mk (show y120.length ≤ co27 from by omega); clear hr32 hC32 hroom32 hi032 hsz32; have KY32 := Aside0.mk hy32; clear hy32; have KL32 := Aside0.mk (show (x6_2 : Int).toNat ≤ x3_1.length from by omega); replace q32 := eq_true q32) | ((with_reducible refine gate_builtin (b := .append) (xs := #[.tmp 42, .tmp 45]) rfl ?_); at_builtin; refine Kd.R_append_rows k85 (w0 := w) w.heap.size rfl (.tmp 42) (.tmp 45) 70 85 (.agg #[(.int .i64 0), (.int .i64 0), (.int .i64 0)]) 24 rfl Try.underlying70 info85 rfl (by decide) (by omega) v118 y117 y120 _ _ _ (fun k_ => some k_ ≠ (.slice (some ad114) x3_1.length co27 : Value).ownBlock) (fun _ => False) rfl rfl ?aO ?aR (fun _ _ h => h) (fun _ h => h.elim) ?aF ?aB ?aS ?aL ?_; (case aR => exact cd (by repeat (first | (with_reducible exact HR123.out) | (with_reducible refine Kd.C_alloc ?_ _) | (with_reducible refine Kd.C_drewN ?_ _) | (with_reducible refine Kd.C_drew ?_) | exact HR123.out))); (case aB => exact (belowg1 HB GE113)); (case aF => exact (fun k_ hk => Kd.fresh' (Kd.R_lt (rdl HO_3)) k_ hk)); (case aO => exact (by (with_reducible repeat (first | apply Kd.R_alloc | apply Kd.R_drewN | apply Kd.R_drew)); exact Kd.R_mono HO119.out (fun _ hk => hk.2))); (case aS => exact (below_size (belowg1 HB GE113))); (case aL => have := LMc21.out; omega); intro v125 w33 ho hb hg hat; rw [← Ny124.out] at ho; replace BK113 := ak (blk_grown (blkd BK113) hg (Kd.R_ne HO119.out BK113.out (by decide))); replace HB := ak (hb); replace HR123 := ak ((show Kd.C k85 w33 (some ad114) y120.length y120 from by rw [Ny120.out]; exact Kd.C_take (m := (x6_2 : Int).toNat) ((Kd.R_reads' (Kd.R_after (ok := (fun _ => True)) (rdl HO_3) hg hat)).2.2) KL32.out)); replace HO_3 := ak (Kd.R_after (ok := (fun _ => True)) (rdl HO_3) hg hat); have HO126 := ak (ho); clear HO119; clear ho hb hg hat; obtain ⟨hcz34_0, hcz34_1, hcz34_2, hcz34_3, hcz34_4, hfz34_0, hfz34_1, hfz34_2, hfz34_3, hfz34_4⟩ := box5 BK113) | ((with_reducible refine gate_builtin (b := .append) (xs := #[.tmp 47, .tmp 50]) rfl ?_); at_builtin; refine Kd.R_append k85 (w0 := w) w.heap.size rfl (.tmp 47) (.tmp 50) 70 85 (.agg #[(.int .i64 0), (.int .i64 0), (.int .i64 0)]) 24 rfl Try.underlying70 info85 rfl (by decide) (by omega) v125 y124 (⟨((rd_T91 l0 x10_1).f1.f0), ((rd_T91 l0 x10_1).f1.f1), ((rd_T91 l0 x10_1).f1.f2)⟩ : S85) [.int .i64 ((rd_T91 l0 x10_1).f1.f0), .int .i64 ((rd_T91 l0 x10_1).f1.f1), .int .i64 ((rd_T91 l0 x10_1).f1.f2)] (fun k_ => some k_ ≠ (.slice (some ad114) x3_1.length co27 : Value).ownBlock) (fun _ => False) rfl rfl ?aP (fun _ hk => hk.elim) ?aF ?aO ?aB ?aS ?aL ?_; (case aP => exact k85_mkM _ _ _ (⟨((rd_T91 l0 x10_1).f1.f0), ((rd_T91 l0 x10_1).f1.f1), ((rd_T91 l0 x10_1).f1.f2)⟩ : S85)); (case aB => exact (belowg1 HB GE113)); (case aF => exact (fun k_ hk => Kd.fresh' (Kd.R_lt (rdl HO_3)) k_ hk)); (case aO => exact (rdl HO126)); (case aS => exact (below_size (belowg1 HB GE113))); (case aL => have := LMc22.out; omega); intro v128 w35 ho hb hg hat; rw [← Ny127.out] at ho; replace BK113 := ak (blk_grown (blkd BK113) hg (Kd.R_ne HO126.out BK113.out (by decide))); replace HB := ak (hb); replace HR123 := ak ((show Kd.C k85 w35 (some ad114) y120.length y120 from by rw [Ny120.out]; exact Kd.C_take (m := (x6_2 : Int).toNat) ((Kd.R_reads' (Kd.R_after (ok := (fun _ => True)) (rdl HO_3) hg hat)).2.2) KL32.out)); replace HO_3 := ak (Kd.R_after (ok := (fun _ => True)) (rdl HO_3) hg hat); have HO129 := ak (ho); clear HO126; clear ho hb hg hat; have q36 : (x6_2 : Int) ≤ ((x3_1.length : Int) : Int) := da; obtain ⟨i036, hi036, _, hsz36, _⟩ := info_parts info85; have hroom36 : x3_1.length ≤ co27 := (Kd.R_reads' HO_3.out).2.1; have hC36 : Kd.C k85 _ (some ad114) x3_1.length x3_1 := (Kd.R_reads' HO_3.out).2.2; have q036 : (0 : Int) ≤ (x6_2 : Int) := da; have hcut36 := cut_from (P := Try.prog) 70 85 .i64 Try.underlying70 hi036 3 hsz36 (some ad114) x3_1.length co27 x6_2 q036 q36; have hr36 := Kd.C_drop (m := (x6_2 : Int).toNat) (c := co27) hC36 (by omega) hroom36; obtain ⟨A36, hA36⟩ : ∃ A1, A1 = (if co27 = (x6_2 : Int).toNat then (some ad114) else ((some ad114) : Option Addr).map (·.add ((x6_2 : Int).toNat * 3))) := ⟨_, rfl⟩; obtain ⟨c36, hc36⟩ : ∃ c1, c1 = co27 - (x6_2 : Int).toNat := ⟨_, rfl⟩; have hy36 : y130.length = x3_1.length - (x6_2 : Int).toNat := (by rw [Ny130.out, List.length_drop] <;> omega); rw [show (x3_1).drop (x6_2 : Int).toNat = y130 from Ny130.out.symm] at hr36; replace hr36 : Kd.C k85 _ A36 y130.length y130 := (by rw [hA36]; exact hr36); rw [← hy36, ← hA36, ← hc36] at hcut36; have HR133 := Aside0.mk hr36; have HC133 := Aside0.mk (show y130.length ≤ c36 from by rw [hy36, hc36]; exact Nat.sub_le_sub_right hroom36 _); clear hr36 hC36 hroom36 hi036 hsz36 hc36; have KY36 := Aside0.mk hy36; have KA36 := Aside0.mk hA36; clear hy36 hA36; have KL36 := Aside0.mk (show (x6_2 : Int).toNat ≤ x3_1.length from by omega); replace q36 := eq_true q36) | ((with_reducible refine gate_builtin (b := .append) (xs := #[.tmp 52, .tmp 55]) rfl ?_); at_builtin; refine Kd.R_append_rows k85 (w0 := w) w.heap.size rfl (.tmp 52) (.tmp 55) 70 85 (.agg #[(.int .i64 0), (.int .i64 0), (.int .i64 0)]) 24 rfl Try.underlying70 info85 rfl (by decide) (by omega) v128 y127 y130 _ _ _ (fun k_ => some k_ ≠ (.slice (some ad114) x3_1.length co27 : Value).ownBlock) (fun _ => False) rfl rfl ?aO ?aR (fun _ _ h => h) (fun _ h => h.elim) ?aF ?aB ?aS ?aL ?_; (case aR => exact cd (by repeat (first | (with_reducible exact HR133.out) | (with_reducible refine Kd.C_alloc ?_ _) | (with_reducible refine Kd.C_drewN ?_ _) | (with_reducible refine Kd.C_drew ?_) | exact HR133.out))); (case aB => exact (belowg1 HB GE113)); (case aF => exact (fun k_ hk => Kd.fresh' (Kd.R_lt (rdl HO_3)) k_ hk)); (case aO => exact (rdl HO129)); (case aS => exact (below_size (belowg1 HB GE113))); (case aL => have := LMc25.out; omega); intro v135 w37 ho hb hg hat; rw [← Ny134.out] at ho; replace BK113 := ak (blk_grown (blkd BK113) hg (Kd.R_ne HO129.out BK113.out (by decide))); replace HB := ak (hb); replace HR123 := ak ((show Kd.C k85 w37 (some ad114) y120.length y120 from by rw [Ny120.out]; exact Kd.C_take (m := (x6_2 : Int).toNat) ((Kd.R_reads' (Kd.R_after (ok := (fun _ => True)) (rdl HO_3) hg hat)).2.2) KL32.out)); replace HR133 := ak ((show Kd.C k85 w37 A36 y130.length y130 from by rw [Ny130.out, KA36.out]; exact Kd.C_drop (m := (x6_2 : Int).toNat) (c := co27) ((Kd.R_reads' (Kd.R_after (ok := (fun _ => True)) (rdl HO_3) hg hat)).2.2) KL36.out ((Kd.R_reads' (Kd.R_after (ok := (fun _ => True)) (rdl HO_3) hg hat)).2.1))); replace HO_3 := ak (Kd.R_after (ok := (fun _ => True)) (rdl HO_3) hg hat); have HO136 := ak (ho); clear HO129; clear ho hb hg hat))
         go_roundg k2
         case measure => have := HK1.out; have := HK2.out; omega
         case rel => exact ⟨(y134), (wrap64 (x10_1 + 1)), er, H', ⟨by have := HK1.out; have := HK2.out; omega⟩, ⟨by (with_reducible repeat (first | apply Kd.R_alloc | apply Kd.R_drewN | apply Kd.R_drew)); exact Kd.R_mono HO136.out (fun _ hk => trivial)⟩, ⟨belowg1 HB GE113⟩⟩
      ·rw [if_neg c7] at H
       have c7b0 : decide (x6_2 < (x3_1.length : Int)) = false := decide_eq_false c7
       clear c7
       obtain ⟨y137, hy_⟩ : ∃ y_ : List (S85), y_ = (([] : List (S85))) := ⟨_, rfl⟩
       replace H : (if 0 ≤ x6_2 then (if x6_2 ≤ (x3_1.length : Int) then ((some (x3_1.take (x6_2 : Int).toNat : List (S85))).bind fun y140 => (if y137.length + y140.length < 5864062014805 then ((some (y137 ++ y140 : List (S85))).bind fun y144 => (if y144.length < 5864062014805 then ((some (y144 ++ [(⟨((rd_T91 l0 x10_1).f1.f0), ((rd_T91 l0 x10_1).f1.f1), ((rd_T91 l0 x10_1).f1.f2)⟩ : S85)] : List (S85))).bind fun y147 => ((some (x3_1.drop (x6_2 : Int).toNat : List (S85))).bind fun y150 => (if y147.length + y150.length < 5864062014805 then (spec_l12Claims.l0 k2 (y147 ++ y150) l0 (l0.length : Int) (wrap64 (x10_1 + 1))) else (none)))) else (none))) else (none))) else (none)) else (none)) = some r := yH
       have Ny137 := ak hy_; clear hy_; replace H := ifS H; obtain ⟨c38, H⟩ := H; have c38b0 := eq_true c38
       have c38b1 : decide (0 ≤ x6_2) = true := decide_eq_true c38
       clear c38; replace H := ifS H; obtain ⟨c39, H⟩ := H; have c39b0 := eq_true c39
       have c39b1 : decide (x6_2 ≤ (x3_1.length : Int)) = true := decide_eq_true c39
       clear c39
       obtain ⟨y140, hy_⟩ : ∃ y_ : List (S85), y_ = (x3_1.take (x6_2 : Int).toNat) := ⟨_, rfl⟩
       replace H : (if y137.length + y140.length < 5864062014805 then ((some (y137 ++ y140 : List (S85))).bind fun y144 => (if y144.length < 5864062014805 then ((some (y144 ++ [(⟨((rd_T91 l0 x10_1).f1.f0), ((rd_T91 l0 x10_1).f1.f1), ((rd_T91 l0 x10_1).f1.f2)⟩ : S85)] : List (S85))).bind fun y147 => ((some (x3_1.drop (x6_2 : Int).toNat : List (S85))).bind fun y150 => (if y147.length + y150.length < 5864062014805 then (spec_l12Claims.l0 k2 (y147 ++ y150) l0 (l0.length : Int) (wrap64 (x10_1 + 1))) else (none)))) else (none))) else (none)) = some r := yH
       have Ny140 := ak hy_; clear hy_; replace H := ifS H; obtain ⟨c40, H⟩ := H; have LMc40 := Aside0.mk c40; clear c40
       obtain ⟨y144, hy_⟩ : ∃ y_ : List (S85), y_ = (y137 ++ y140) := ⟨_, rfl⟩
       replace H : (if y144.length < 5864062014805 then ((some (y144 ++ [(⟨((rd_T91 l0 x10_1).f1.f0), ((rd_T91 l0 x10_1).f1.f1), ((rd_T91 l0 x10_1).f1.f2)⟩ : S85)] : List (S85))).bind fun y147 => ((some (x3_1.drop (x6_2 : Int).toNat : List (S85))).bind fun y150 => (if y147.length + y150.length < 5864062014805 then (spec_l12Claims.l0 k2 (y147 ++ y150) l0 (l0.length : Int) (wrap64 (x10_1 + 1))) else (none)))) else (none)) = some r := yH
       have Ny144 := ak hy_; clear hy_; replace H := ifS H; obtain ⟨c41, H⟩ := H; have LMc41 := Aside0.mk c41; clear c41
       obtain ⟨y147, hy_⟩ : ∃ y_ : List (S85), y_ = (y144 ++ [(⟨((rd_T91 l0 x10_1).f1.f0), ((rd_T91 l0 x10_1).f1.f1), ((rd_T91 l0 x10_1).f1.f2)⟩ : S85)]) := ⟨_, rfl⟩
       replace H : ((some (x3_1.drop (x6_2 : Int).toNat : List (S85))).bind fun y150 => (if y147.length + y150.length < 5864062014805 then (spec_l12Claims.l0 k2 (y147 ++ y150) l0 (l0.length : Int) (wrap64 (x10_1 + 1))) else (none))) = some r := yH
       have Ny147 := ak hy_; clear hy_
       have c42b0 := eq_true (da : 0 ≤ x6_2)
       have c43b0 := eq_true (da : x6_2 ≤ (x3_1.length : Int))
       obtain ⟨y150, hy_⟩ : ∃ y_ : List (S85), y_ = (x3_1.drop (x6_2 : Int).toNat) := ⟨_, rfl⟩
       replace H : (if y147.length + y150.length < 5864062014805 then (spec_l12Claims.l0 k2 (y147 ++ y150) l0 (l0.length : Int) (wrap64 (x10_1 + 1))) else (none)) = some r := yH
       have Ny150 := ak hy_; clear hy_; replace H := ifS H; obtain ⟨c44, H⟩ := H; have LMc44 := Aside0.mk c44; clear c44
       obtain ⟨y154, hy_⟩ : ∃ y_ : List (S85), y_ = (y147 ++ y150) := ⟨_, rfl⟩
       replace H : (spec_l12Claims.l0 k2 y154 l0 (l0.length : Int) (wrap64 (x10_1 + 1))) = some r := yH
       have Ny154 := ak hy_; clear hy_
       have H' := Aside0.mk H
       clear H
       try go_wp2
       replace HO_3 := ak (Kd.R_drew HO_3.out)
       replace BK113 := ak (blk_drew BK113.out)
       replace HB := ak (below_drew1 HB.out)
       obtain ⟨Ao46, co46, eo46⟩ := Kd.R_slice HO_3.out
       (first | subst eo46 | (injection eo46 with f1_ f2_ f3_; have f4_ := f1_.symm; have f5_ := f3_.symm; clear f1_ f2_ f3_; subst f4_; subst f5_))
       refine start_ (n := 13) (S := fun w' => True) (ds := []) (bl 13 0) (by kernel_rfl) rfl rfl trivial (fun hHeld => ?_); refine with_tabW spec_l12Claims.tab6 spec_l12Claims.bits6 (fun HT_ HW_ => ?_)
       generalize wr.drew = w45 at HO_3 BK113 HB hHeld ⊢
       refine pureA 0 (some 14) 13 1 HT_ ?_
       refine pureA 1 (some 15) 13 3 HT_ ?_
       refine pureA 2 (some 16) 13 7 HT_ ?_
       refine pureA 3 (some 17) 13 15 HT_ ?_
       refine pureA 4 (some 18) 13 31 HT_ ?_
       refine pureB 5 (some 19) 13 63 HT_ ?_
       refine pureB 6 (some 20) 13 127 HT_ ?_
       refine pureB 7 (some 21) 13 255 HT_ ?_
       refine pureB 8 (some 22) 13 511 HT_ ?_
       refine pureB 9 (some 23) 13 1023 HT_ ?_
       refine pureB 10 (some 24) 13 2047 HT_ ?_
       refine pureB 11 (some 25) 13 4095 HT_ ?_
       refine pureA 12 (some 26) 13 8191 HT_ ?_
       refine done_ (done_of HT_.out (by kernel_rfl)) ?_
       try go_wp2
       replace HO_3 := ak (Kd.R_drew HO_3.out)
       replace BK113 := ak (blk_drew BK113.out)
       replace HB := ak (below_drew1 HB.out)
       refine start_ (n := 13) (S := fun w' => True) (ds := []) (bl 13 0) (by kernel_rfl) rfl rfl trivial (fun hHeld => ?_); refine with_tabW spec_l12Claims.tab8 spec_l12Claims.bits8 (fun HT_ HW_ => ?_)
       generalize w45.drew = w47 at HO_3 BK113 HB hHeld ⊢
       refine pureA 0 (some 29) 13 1 HT_ ?_
       refine pureA 1 (some 30) 13 3 HT_ ?_
       refine pureA 2 (some 31) 13 7 HT_ ?_
       refine pureA 3 (some 32) 13 15 HT_ ?_
       refine pureA 4 (some 33) 13 31 HT_ ?_
       refine pureB 5 (some 34) 13 63 HT_ ?_
       refine pureB 6 (some 35) 13 127 HT_ ?_
       refine pureB 7 (some 36) 13 255 HT_ ?_
       refine pureB 8 (some 37) 13 511 HT_ ?_
       refine pureB 9 (some 38) 13 1023 HT_ ?_
       refine pureB 10 (some 39) 13 2047 HT_ ?_
       refine pureB 11 (some 40) 13 4095 HT_ ?_
       refine pureA 12 (some 41) 13 8191 HT_ ?_
       refine done_ (done_of HT_.out (by kernel_rfl)) ?_
       try go_wp2_with (first | ((with_reducible refine gate_dst (N := 42) rfl ?_); refine Kd.R_lit k85 _ 85 ?hg (N := 42) ?hd (xs := ([] : List (S85))) (inner := []) (ok := fun _ => True) (okp := fun _ => True) ?hr ?hp (fun _ hk => hk) trivial (Below.refl _ _) (Nat.le_refl _) (by simp) ?_; (case hd => rfl); (case hg => rfl); (case hr => first | (go_simp; done) | (go_simp; rfl)); (case hp => exact (Reps.none _ _)); intro v138 w48 ho49 hb hg_ hnew_; clear hg_ hnew_; (first | rw [← Ny137.out] at ho49 | (simp only [Int.reduceToNat] at ho49; rw [← Ny137.out] at ho49)); have HO139 := ak (Kd.R_lower (Kd.R_new' ho49 (Kd.R_lt (rdl HO_3))) (below_size (belowg1 HB GE113))); replace HO_3 := ak (Kd.R_elder' (rdl HO_3) (Kd.R_base ho49) hb); replace BK113 := ak (blk_below (blkd BK113) hb); replace HB := ak (below_step (belowg1 HB GE113) hb); clear hb ho49; have q50 : (x6_2 : Int) ≤ ((x3_1.length : Int) : Int) := da; obtain ⟨i050, hi050, _, hsz50, _⟩ := info_parts info85; have hroom50 : x3_1.length ≤ co46 := (Kd.R_reads' HO_3.out).2.1; have hC50 : Kd.C k85 _ Ao46 x3_1.length x3_1 := (Kd.R_reads' HO_3.out).2.2; have hcut50 := cut_to (P := Try.prog) 70 85 .i64 Try.underlying70 hi050 Ao46 x3_1.length co46 x6_2 (da) q50 hroom50; have hr50 := Kd.C_take (m := (x6_2 : Int).toNat) hC50 (by omega); have hy50 : y140.length = (x6_2 : Int).toNat := (by rw [Ny140.out, List.length_take]; omega); rw [← Ny140.out] at hr50; rw [← hy50] at hcut50; have HR143 := Aside0.mk hr50; have HC143 := Aside0.mk (show y140.length ≤ co46 from by omega); clear hr50 hC50 hroom50 hi050 hsz50; have KY50 := Aside0.mk hy50; clear hy50; have KL50 := Aside0.mk (show (x6_2 : Int).toNat ≤ x3_1.length from by omega); replace q50 := eq_true q50) | ((with_reducible refine gate_builtin (b := .append) (xs := #[.tmp 42, .tmp 45]) rfl ?_); at_builtin; refine Kd.R_append_rows k85 (w0 := w) w.heap.size rfl (.tmp 42) (.tmp 45) 70 85 (.agg #[(.int .i64 0), (.int .i64 0), (.int .i64 0)]) 24 rfl Try.underlying70 info85 rfl (by decide) (by omega) v138 y137 y140 _ _ _ (fun k_ => some k_ ≠ (.slice Ao46 x3_1.length co46 : Value).ownBlock) (fun _ => False) rfl rfl ?aO ?aR (fun _ _ h => h) (fun _ h => h.elim) ?aF ?aB ?aS ?aL ?_; (case aR => exact cd (by repeat (first | (with_reducible exact HR143.out) | (with_reducible refine Kd.C_alloc ?_ _) | (with_reducible refine Kd.C_drewN ?_ _) | (with_reducible refine Kd.C_drew ?_) | exact HR143.out))); (case aB => exact (belowg1 HB GE113)); (case aF => exact (fun k_ hk => Kd.fresh' (Kd.R_lt (rdl HO_3)) k_ hk)); (case aO => exact (by (with_reducible repeat (first | apply Kd.R_alloc | apply Kd.R_drewN | apply Kd.R_drew)); exact Kd.R_mono HO139.out (fun _ hk => hk.2))); (case aS => exact (below_size (belowg1 HB GE113))); (case aL => have := LMc40.out; omega); intro v145 w51 ho hb hg hat; rw [← Ny144.out] at ho; replace BK113 := ak (blk_grown (blkd BK113) hg (Kd.R_ne HO139.out BK113.out (by decide))); replace HB := ak (hb); replace HR143 := ak ((show Kd.C k85 w51 Ao46 y140.length y140 from by rw [Ny140.out]; exact Kd.C_take (m := (x6_2 : Int).toNat) ((Kd.R_reads' (Kd.R_after (ok := (fun _ => True)) (rdl HO_3) hg hat)).2.2) KL50.out)); replace HO_3 := ak (Kd.R_after (ok := (fun _ => True)) (rdl HO_3) hg hat); have HO146 := ak (ho); clear HO139; clear ho hb hg hat; obtain ⟨hcz52_0, hcz52_1, hcz52_2, hcz52_3, hcz52_4, hfz52_0, hfz52_1, hfz52_2, hfz52_3, hfz52_4⟩ := box5 BK113) | ((with_reducible refine gate_builtin (b := .append) (xs := #[.tmp 47, .tmp 50]) rfl ?_); at_builtin; refine Kd.R_append k85 (w0 := w) w.heap.size rfl (.tmp 47) (.tmp 50) 70 85 (.agg #[(.int .i64 0), (.int .i64 0), (.int .i64 0)]) 24 rfl Try.underlying70 info85 rfl (by decide) (by omega) v145 y144 (⟨((rd_T91 l0 x10_1).f1.f0), ((rd_T91 l0 x10_1).f1.f1), ((rd_T91 l0 x10_1).f1.f2)⟩ : S85) [.int .i64 ((rd_T91 l0 x10_1).f1.f0), .int .i64 ((rd_T91 l0 x10_1).f1.f1), .int .i64 ((rd_T91 l0 x10_1).f1.f2)] (fun k_ => some k_ ≠ (.slice Ao46 x3_1.length co46 : Value).ownBlock) (fun _ => False) rfl rfl ?aP (fun _ hk => hk.elim) ?aF ?aO ?aB ?aS ?aL ?_; (case aP => exact k85_mkM _ _ _ (⟨((rd_T91 l0 x10_1).f1.f0), ((rd_T91 l0 x10_1).f1.f1), ((rd_T91 l0 x10_1).f1.f2)⟩ : S85)); (case aB => exact (belowg1 HB GE113)); (case aF => exact (fun k_ hk => Kd.fresh' (Kd.R_lt (rdl HO_3)) k_ hk)); (case aO => exact (rdl HO146)); (case aS => exact (below_size (belowg1 HB GE113))); (case aL => have := LMc41.out; omega); intro v148 w53 ho hb hg hat; rw [← Ny147.out] at ho; replace BK113 := ak (blk_grown (blkd BK113) hg (Kd.R_ne HO146.out BK113.out (by decide))); replace HB := ak (hb); replace HR143 := ak ((show Kd.C k85 w53 Ao46 y140.length y140 from by rw [Ny140.out]; exact Kd.C_take (m := (x6_2 : Int).toNat) ((Kd.R_reads' (Kd.R_after (ok := (fun _ => True)) (rdl HO_3) hg hat)).2.2) KL50.out)); replace HO_3 := ak (Kd.R_after (ok := (fun _ => True)) (rdl HO_3) hg hat); have HO149 := ak (ho); clear HO146; clear ho hb hg hat; have q54 : (x6_2 : Int) ≤ ((x3_1.length : Int) : Int) := da; obtain ⟨i054, hi054, _, hsz54, _⟩ := info_parts info85; have hroom54 : x3_1.length ≤ co46 := (Kd.R_reads' HO_3.out).2.1; have hC54 : Kd.C k85 _ Ao46 x3_1.length x3_1 := (Kd.R_reads' HO_3.out).2.2; have q054 : (0 : Int) ≤ (x6_2 : Int) := da; have hcut54 := cut_from (P := Try.prog) 70 85 .i64 Try.underlying70 hi054 3 hsz54 Ao46 x3_1.length co46 x6_2 q054 q54; have hr54 := Kd.C_drop (m := (x6_2 : Int).toNat) (c := co46) hC54 (by omega) hroom54; obtain ⟨A54, hA54⟩ : ∃ A1, A1 = (if co46 = (x6_2 : Int).toNat then Ao46 else (Ao46 : Option Addr).map (·.add ((x6_2 : Int).toNat * 3))) := ⟨_, rfl⟩; obtain ⟨c54, hc54⟩ : ∃ c1, c1 = co46 - (x6_2 : Int).toNat := ⟨_, rfl⟩; have hy54 : y150.length = x3_1.length - (x6_2 : Int).toNat := (by rw [Ny150.out, List.length_drop] <;> omega); rw [show (x3_1).drop (x6_2 : Int).toNat = y150 from Ny150.out.symm] at hr54; replace hr54 : Kd.C k85 _ A54 y150.length y150 := (by rw [hA54]; exact hr54); rw [← hy54, ← hA54, ← hc54] at hcut54; have HR153 := Aside0.mk hr54; have HC153 := Aside0.mk (show y150.length ≤ c54 from by rw [hy54, hc54]; exact Nat.sub_le_sub_right hroom54 _); clear hr54 hC54 hroom54 hi054 hsz54 hc54; have KY54 := Aside0.mk hy54; have KA54 := Aside0.mk hA54; clear hy54 hA54; have KL54 := Aside0.mk (show (x6_2 : Int).toNat ≤ x3_1.length from by omega); replace q54 := eq_true q54) | ((with_reducible refine gate_builtin (b := .append) (xs := #[.tmp 52, .tmp 55]) rfl ?_); at_builtin; refine Kd.R_append_rows k85 (w0 := w) w.heap.size rfl (.tmp 52) (.tmp 55) 70 85 (.agg #[(.int .i64 0), (.int .i64 0), (.int .i64 0)]) 24 rfl Try.underlying70 info85 rfl (by decide) (by omega) v148 y147 y150 _ _ _ (fun k_ => some k_ ≠ (.slice Ao46 x3_1.length co46 : Value).ownBlock) (fun _ => False) rfl rfl ?aO ?aR (fun _ _ h => h) (fun _ h => h.elim) ?aF ?aB ?aS ?aL ?_; (case aR => exact cd (by repeat (first | (with_reducible exact HR153.out) | (with_reducible refine Kd.C_alloc ?_ _) | (with_reducible refine Kd.C_drewN ?_ _) | (with_reducible refine Kd.C_drew ?_) | exact HR153.out))); (case aB => exact (belowg1 HB GE113)); (case aF => exact (fun k_ hk => Kd.fresh' (Kd.R_lt (rdl HO_3)) k_ hk)); (case aO => exact (rdl HO149)); (case aS => exact (below_size (belowg1 HB GE113))); (case aL => have := LMc44.out; omega); intro v155 w55 ho hb hg hat; rw [← Ny154.out] at ho; replace BK113 := ak (blk_grown (blkd BK113) hg (Kd.R_ne HO149.out BK113.out (by decide))); replace HB := ak (hb); replace HR143 := ak ((show Kd.C k85 w55 Ao46 y140.length y140 from by rw [Ny140.out]; exact Kd.C_take (m := (x6_2 : Int).toNat) ((Kd.R_reads' (Kd.R_after (ok := (fun _ => True)) (rdl HO_3) hg hat)).2.2) KL50.out)); replace HR153 := ak ((show Kd.C k85 w55 A54 y150.length y150 from by rw [Ny150.out, KA54.out]; exact Kd.C_drop (m := (x6_2 : Int).toNat) (c := co46) ((Kd.R_reads' (Kd.R_after (ok := (fun _ => True)) (rdl HO_3) hg hat)).2.2) KL54.out ((Kd.R_reads' (Kd.R_after (ok := (fun _ => True)) (rdl HO_3) hg hat)).2.1))); replace HO_3 := ak (Kd.R_after (ok := (fun _ => True)) (rdl HO_3) hg hat); have HO156 := ak (ho); clear HO149; clear ho hb hg hat))
       go_roundg k2
       case measure => have := HK1.out; have := HK2.out; omega
       case rel => exact ⟨(y154), (wrap64 (x10_1 + 1)), er, H', ⟨by have := HK1.out; have := HK2.out; omega⟩, ⟨by (with_reducible repeat (first | apply Kd.R_alloc | apply Kd.R_drewN | apply Kd.R_drew)); exact Kd.R_mono HO156.out (fun _ hk => trivial)⟩, ⟨belowg1 HB GE113⟩⟩
   ·rw [if_neg c2] at H
    have c2b0 : decide (x10_1 < (l0.length : Int)) = false := decide_eq_false c2
    clear c2
    obtain rfl := Option.some.inj H
    go_wp2
    go_ret
    exact ⟨_, er2, by (with_reducible repeat (first | apply Kd.R_alloc | apply Kd.R_drewN | apply Kd.R_drew)); exact HO_3.out, belowd HB⟩

end Go.Proofs.Ytkgogglnipdcfaa.QFnScores
