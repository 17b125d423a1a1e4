-- printed by this session's own program (wip/tools/pp.py: the kit's print.py with changes); Lean checks it
import Derived.Test.YtkgogglnipdcfaaQFnMixesx0
import Derived.Test.YtkgogglnipdcfaaQFnMixesx1
namespace Go.Proofs.Ytkgogglnipdcfaa.QFnMixes
open Go.RowKit Go.Proofs.YtkgogglnipdcfaaW.PrintWords Go.Proofs.YtkgogglnipdcfaaW.PrintLast Go.Proofs.YtkgogglnipdcfaaW.PrintMore
attribute [local go_sem] max2_int min2_int max_two min_two max_three min_three max_four min_four strLss strGtr strLeq strGeq   -- for this text's walks alone
set_option linter.unusedVariables false
set_option linter.unusedSimpArgs false

/-! ### spec_l8Pool: function 111 -/
def spec_l8Pool.l0 : Nat → List ByteArray → List ByteArray → Int → Int → Option (Bool)
  | 0, _, _, _, _ => none
  | k + 1, x0, x5, x6, x7 => if x7 < x6 then (if 0 ≤ x7 then (if x7 < (x5.length : Int) then ((spec_l8Text.f (rdOf ByteArray.empty x5 x7)).bind fun t188 => (if t188 = true then (spec_l8Pool.l0 k x0 x5 x6 (wrap64 (x7 + 1))) else (some false))) else (none)) else (none)) else (some (decide ((x0.length : Int) ≤ 12)))
def spec_l8Pool.f (k : Nat) (l0 : List ByteArray) : Option (Bool) := spec_l8Pool.l0 k l0 l0 (l0.length : Int) 0
theorem spec_l8Pool.mono_l : ∀ k, (∀ y0 y1 y2 y3, LeO (spec_l8Pool.l0 k y0 y1 y2 y3) (spec_l8Pool.l0 (k + 1) y0 y1 y2 y3))
 | 0 => fun _ _ _ _ r h => by simp [spec_l8Pool.l0] at h
 | k + 1 => by
  have ih0 := spec_l8Pool.mono_l k
  ·intro y0 y1 y2 y3
   unfold spec_l8Pool.l0
   repeat' (first | (with_reducible first | exact ih0 _ _ _ _ | exact LeO.refl _ | exact LeO.none _ | refine LeO.ite ?_ ?_ | refine LeO.bind ?_ (fun _ => ?_)) | exact ih0 _ _ _ _ | exact LeO.none _ | refine LeO.ite ?_ ?_ | refine LeO.bind ?_ (fun _ => ?_))
theorem spec_l8Pool.mono : ∀ a0 k, LeO (spec_l8Pool.f k a0) (spec_l8Pool.f (k + 1) a0) := by
 intro a0 k
 have ih0 := spec_l8Pool.mono_l k
 unfold spec_l8Pool.f
 repeat' (first | (with_reducible first | exact ih0 _ _ _ _ | exact LeO.refl _ | exact LeO.none _ | refine LeO.ite ?_ ?_ | refine LeO.bind ?_ (fun _ => ?_)) | exact ih0 _ _ _ _ | exact LeO.none _ | refine LeO.ite ?_ ?_ | refine LeO.bind ?_ (fun _ => ?_))
set_option maxHeartbeats 8000000 in
set_option maxRecDepth 100000 in
theorem spec_l8Pool.calls (k : Nat) (A0 : Option Addr) (c0 : Nat) (l0 : List ByteArray) (r : Bool) (w : World) (hr0 : Kd.C Kd.string w A0 l0.length l0) (hc0 : l0.length ≤ c0) (h : spec_l8Pool.f k l0 = some r) :
  Calls Try.prog 111 #[.slice A0 l0.length c0] w fun e w' => e = .returned (.bool r) ∧ Drawn0 w w' := by
 have HR0 := Aside0.mk hr0; have HC0 := Aside0.mk hc0; clear hr0 hc0
 have H : (spec_l8Pool.l0 k l0 l0 (l0.length : Int) 0) = some r := h
 clear h
 have H' := Aside0.mk H
 clear H
 go_enter Try.func111, Try.ntmps111
 go_wp2
 go_loopg [7] k (fun kq v7 w' => ∃ (x7_1 : Int), v7 = .int .i64 x7_1 ∧ Aside0 (spec_l8Pool.l0 kq l0 l0 (l0.length : Int) x7_1 = some r) ∧ Aside0 (kq ≤ k) ∧ Drawn0 w w')
 case atStart => exact ⟨(0), er, H', ⟨Nat.le_refl _⟩, drw⟩
 case round =>
  clear H'
  obtain ⟨x7_1, rfl, HA, HK1, ⟨m1, rfl⟩⟩ := hrel
  cases gk with
  | zero => exact absurd HA.out (by simp [spec_l8Pool.l0])
  | succ k1 =>
   have H := HA.out; clear HA
   simp only [spec_l8Pool.l0] at H
   by_cases c2 : x7_1 < (l0.length : Int)
   ·rw [if_pos c2] at H
    have c2b0 : decide (x7_1 < (l0.length : Int)) = true := decide_eq_true c2
    clear c2; replace H := ifS H; obtain ⟨c3, H⟩ := H; have c3b0 := decide_eq_true c3; clear c3; replace H := ifS H; obtain ⟨c4, H⟩ := H; have c4b0 := decide_eq_true c4; clear c4; replace H := bS H; obtain ⟨t188, A5, H⟩ := H
    replace H : (if t188 = true then (spec_l8Pool.l0 k1 l0 l0 (l0.length : Int) (wrap64 (x7_1 + 1))) else (some false)) = some r := H
    by_cases c6 : t188 = true
    ·subst c6
     have H1 : (spec_l8Pool.l0 k1 l0 l0 (l0.length : Int) (wrap64 (x7_1 + 1))) = some r := by rw [if_pos rfl] at H; exact H
     clear H
     have H := H1
     clear H1
     have H' := Aside0.mk H
     clear H
     have p187 : 0 ≤ (x7_1 : Int) := da
     have q187 : x7_1 < (l0.length : Int) := da
     obtain ⟨ad187, e187, hx187_0⟩ := Kd.at_string HR0.out x7_1 p187 q187
     cases e187
     replace p187 := eq_true p187; replace q187 := eq_true q187
     go_wp2_with (first | ((with_reducible refine gate_callee (f := 95) rfl ?_); refine goesLa (some 12) rfl Try.func95 #[.string (rdOf ByteArray.empty l0 x7_1)] rfl ?_; (with_reducible refine (spec_l8Text.calls (rdOf ByteArray.empty l0 x7_1) true _ A5.out).mono ?_); rintro e w' ⟨rfl, ⟨nd, rfl⟩⟩; refine ⟨_, rfl, ?_⟩))
     go_roundg k1
     case measure => have := HK1.out; omega
     case rel => exact ⟨(wrap64 (x7_1 + 1)), er, H', ⟨by have := HK1.out; omega⟩, drw⟩
    ·replace c6 := Bool.eq_false_iff.mpr c6
     subst c6
     have H1 : (some false) = some r := by rw [if_neg (show ¬ (false = true) by decide)] at H; exact H
     clear H
     have H := H1
     clear H1
     obtain rfl := Option.some.inj H
     have p187 : 0 ≤ (x7_1 : Int) := da
     have q187 : x7_1 < (l0.length : Int) := da
     obtain ⟨ad187, e187, hx187_0⟩ := Kd.at_string HR0.out x7_1 p187 q187
     cases e187
     replace p187 := eq_true p187; replace q187 := eq_true q187
     go_wp2_with (first | ((with_reducible refine gate_callee (f := 95) rfl ?_); refine goesLa (some 12) rfl Try.func95 #[.string (rdOf ByteArray.empty l0 x7_1)] rfl ?_; (with_reducible refine (spec_l8Text.calls (rdOf ByteArray.empty l0 x7_1) false _ A5.out).mono ?_); rintro e w' ⟨rfl, ⟨nd, rfl⟩⟩; refine ⟨_, rfl, ?_⟩))
     go_ret
     exact ⟨er, drw⟩
   ·rw [if_neg c2] at H
    have c2b0 : decide (x7_1 < (l0.length : Int)) = false := decide_eq_false c2
    clear c2
    obtain rfl := Option.some.inj H
    go_wp2
    go_ret
    exact ⟨er, drw⟩

/-! ### spec_l1Least: function 186 -/
def spec_l1Least.f (a0 : Int) (a1 : Int) : Option (Int) := if a0 < a1 then (some a0) else (some a1)
set_option maxHeartbeats 8000000 in
set_option maxRecDepth 100000 in
theorem spec_l1Least.calls (a0 : Int) (a1 : Int) (r : Int) (w : World) (h : spec_l1Least.f a0 a1 = some r) :
  Calls Try.prog 186 #[.int .i64 a0, .int .i64 a1] w fun e w' => e = .returned (.int .i64 r) ∧ Drawn0 w w' := by
 have H : (if a0 < a1 then (some a0) else (some a1)) = some r := h
 clear h
 by_cases c3 : a0 < a1
 ·rw [if_pos c3] at H
  have c3b0 : decide (a0 < a1) = true := decide_eq_true c3
  clear c3
  obtain rfl := Option.some.inj H
  go_enter Try.func186, Try.ntmps186
  go_wp2
  go_ret
  exact ⟨er, drw⟩
 ·rw [if_neg c3] at H
  have c3b0 : decide (a0 < a1) = false := decide_eq_false c3
  clear c3
  obtain rfl := Option.some.inj H
  go_enter Try.func186, Try.ntmps186
  go_wp2
  go_ret
  exact ⟨er, drw⟩

/-! ### spec_l8Tick: function 112 -/
def spec_l8Tick.f (l0_0 : List ByteArray) (a0_1 : Int) (a0_2 : Int) (a0_3 : Int) (l0_4 : List Int) : Option (List ByteArray × Int × Int × Int × List Int × List ByteArray) := if (l0_0.length : Int) = 0 then (some (l0_0, a0_1, a0_2, a0_3, l0_4, ([] : List ByteArray))) else ((spec_l1Least.f 10 (wrap64 (a0_3 + 1))).bind fun t191 => (if (l0_0.length : Int) < a0_1 then (if t191 < a0_2 then (some (l0_0, a0_1, a0_2, t191, l0_4, ([] : List ByteArray))) else (some (([] : List ByteArray), a0_1, a0_2, 0, l0_4, l0_0))) else (some (([] : List ByteArray), a0_1, a0_2, 0, l0_4, l0_0))))
set_option maxHeartbeats 8000000 in
set_option maxRecDepth 100000 in
theorem spec_l8Tick.calls (P0_0_ : Nat → Prop) (u9000_ : Value) (l0_0 : List ByteArray) (a0_1 : Int) (a0_2 : Int) (a0_3 : Int) (P0_4_ : Nat → Prop) (u9001_ : Value) (l0_4 : List Int) (r1 : List ByteArray) (r2 : Int) (r3 : Int) (r4 : Int) (r5 : List Int) (r6 : List ByteArray) (w0 w : World) (hB : Below w0.heap.size w0 w) (ho0_0 : Kd.R Kd.string 9 w w0.heap.size P0_0_ u9000_ l0_0) (ho0_4 : Kd.R (Kd.int .i64) 3 w w0.heap.size P0_4_ u9001_ l0_4) (h : spec_l8Tick.f l0_0 a0_1 a0_2 a0_3 l0_4 = some (r1, r2, r3, r4, r5, r6)) :
  Calls Try.prog 112 #[.agg #[u9000_, .int .i64 a0_1, .int .i64 a0_2, .int .i64 a0_3, u9001_]] w fun e w' => ∃ v0_ v4_ v5_ : Value, e = .returned (.tuple #[.agg #[v0_, .int .i64 r2, .int .i64 r3, .int .i64 r4, v4_], v5_]) ∧ Kd.R Kd.string 9 w' w0.heap.size (fun k_ => ((P0_0_ k_ ∨ P0_4_ k_) ∨ w.heap.size ≤ k_) ∧ some k_ ≠ (v5_ : Value).ownBlock) v0_ r1 ∧ Kd.R (Kd.int .i64) 3 w' w0.heap.size (fun k_ => ((P0_0_ k_ ∨ P0_4_ k_) ∨ w.heap.size ≤ k_)) v4_ r5 ∧ Kd.R Kd.string 9 w' w0.heap.size (fun k_ => ((P0_0_ k_ ∨ P0_4_ k_) ∨ w.heap.size ≤ k_) ∧ some k_ ≠ (v0_ : Value).ownBlock) v5_ r6 ∧ Below w0.heap.size w0 w' ∧ Kept w w' (fun k_ => P0_0_ k_ ∨ P0_4_ k_) := by
 have hu27 := Try.underlying27
 have HO0_0 := Aside0.mk (show Kd.R Kd.string 9 w w0.heap.size (fun k_ => ((P0_0_ k_ ∨ P0_4_ k_) ∨ w.heap.size ≤ k_)) u9000_ l0_0 from Kd.R_mono ho0_0 (fun k_ hk => (.inl (.inl hk))))
 have HO0_4 := Aside0.mk (show Kd.R (Kd.int .i64) 3 w w0.heap.size (fun k_ => ((P0_0_ k_ ∨ P0_4_ k_) ∨ w.heap.size ≤ k_)) u9001_ l0_4 from Kd.R_mono ho0_4 (fun k_ hk => (.inl (.inr hk))))
 have HK := Aside0.mk (Kept.refl w (fun k_ => P0_0_ k_ ∨ P0_4_ k_))
 have HW0 := Aside0.mk hB.size
 have HB := Aside0.mk hB; clear hB
 have H : (if (l0_0.length : Int) = 0 then (some (l0_0, a0_1, a0_2, a0_3, l0_4, ([] : List ByteArray))) else ((spec_l1Least.f 10 (wrap64 (a0_3 + 1))).bind fun t191 => (if (l0_0.length : Int) < a0_1 then (if t191 < a0_2 then (some (l0_0, a0_1, a0_2, t191, l0_4, ([] : List ByteArray))) else (some (([] : List ByteArray), a0_1, a0_2, 0, l0_4, l0_0))) else (some (([] : List ByteArray), a0_1, a0_2, 0, l0_4, l0_0))))) = some (r1, r2, r3, r4, r5, r6) := h
 clear h
 by_cases c2 : (l0_0.length : Int) = 0
 ·rw [if_pos c2] at H
  have c2b0 : ((l0_0.length : Int) == 0) = true := beq_iff_eq.mpr c2
  have c2b1 : ((l0_0.length : Int) != 0) = false := bne_eq_false_iff_eq.mpr c2
  clear c2
  simp only [Option.some.injEq, Prod.mk.injEq] at H
  obtain ⟨rfl, rfl, rfl, rfl, rfl, rfl⟩ := H
  obtain ⟨Ao3, co3, eo3⟩ := Kd.R_slice HO0_0.out
  subst eo3
  obtain ⟨Ao4, co4, eo4⟩ := Kd.R_slice HO0_4.out
  subst eo4
  go_enter Try.func112, Try.ntmps112
  go_wp2_with (first | ((with_reducible refine gate_dst (N := 1) rfl ?_); refine boxev 1 #[.slice Ao3 l0_0.length co3, .int .i64 a0_1, .int .i64 a0_2, .int .i64 a0_3, .slice Ao4 l0_4.length co4] 27 ?_; intro gb189 hg w5 hbox hb; replace HO0_0 := ak (Kd.R_below (rdl HO0_0) hb); replace HO0_4 := ak (Kd.R_below (rdl HO0_4) hb); have BK189 := ak (hbox); have GW189 := ak ((by rw [hg]; exact (by first | exact HK.out.1 | exact (show Kept w _ (fun k_ => P0_0_ k_ ∨ P0_4_ k_) from by repeat (first | (with_reducible first | exact HK.out | apply Kept.alloc | apply Kept.drewN | apply Kept.drew) | exact HK.out)).1) : w.heap.size ≤ gb189)); replace HK := ak (Kept.below (S := (fun k_ => P0_0_ k_ ∨ P0_4_ k_)) (by repeat (first | (with_reducible first | exact HK.out | apply Kept.alloc | apply Kept.drewN | apply Kept.drew) | exact HK.out)) hb); have GE189 := ak ((by rw [hg]; exact (below_size (belowd HB)) : w0.heap.size ≤ gb189)); replace HB := ak (below_step (belowd HB) hb); clear hb hbox hg) | ((with_reducible refine gate_dst (N := 2) rfl ?_); refine boxev 2 #[.slice none 0 0, .int .i64 0, .int .i64 0, .int .i64 0, .slice none 0 0] 27 ?_; intro gb190 hg w6 hbox hb; replace HO0_0 := ak (Kd.R_below (rdl HO0_0) hb); replace HO0_4 := ak (Kd.R_below (rdl HO0_4) hb); have BK190 := ak (hbox); have GW190 := ak ((by rw [hg]; exact (by first | exact HK.out.1 | exact (show Kept w _ (fun k_ => P0_0_ k_ ∨ P0_4_ k_) from by repeat (first | (with_reducible first | exact HK.out | apply Kept.alloc | apply Kept.drewN | apply Kept.drew | refine Kept.setCell ?_ (.inr GW189.out) _) | exact HK.out)).1) : w.heap.size ≤ gb190)); replace HK := ak (Kept.below (S := (fun k_ => P0_0_ k_ ∨ P0_4_ k_)) (by repeat (first | (with_reducible first | exact HK.out | apply Kept.alloc | apply Kept.drewN | apply Kept.drew | refine Kept.setCell ?_ (.inr GW189.out) _) | exact HK.out)) hb); have GE190 := ak ((by rw [hg]; exact (below_size (belowg1 HB GE189)) : w0.heap.size ≤ gb190)); replace HB := ak (below_step (belowg1 HB GE189) hb); have NB189_190 := ak ((by rw [hg]; exact Nat.ne_of_lt (blk_lt (blkd BK189)) : gb189 ≠ gb190)); have NB190_189 := ak ((by rw [hg]; exact Nat.ne_of_gt (blk_lt (blkd BK189)) : gb190 ≠ gb189)); replace BK189 := ak (blk_below (blkd BK189) hb); clear hb hbox hg; have hnb7 := NB189_190.out; have hnc7 := NB190_189.out; obtain ⟨hcz8_0, hcz8_1, hcz8_2, hcz8_3, hcz8_4, hfz8_0, hfz8_1, hfz8_2, hfz8_3, hfz8_4⟩ := box5 BK189; obtain ⟨hcz9_0, hcz9_1, hcz9_2, hcz9_3, hcz9_4, hfz9_0, hfz9_1, hfz9_2, hfz9_3, hfz9_4⟩ := box5 BK190))
  refine bodyPost_ret (results_ct rfl _ _ gb190 27 #[.slice Ao3 l0_0.length co3, .int .i64 a0_1, .int .i64 a0_2, .int .i64 a0_3, .slice Ao4 l0_4.length co4] (0, 0) _ rfl (by (with_reducible repeat (first | refine blk_drewN ?_ _ | refine blk_drew ?_ | refine blk_alloc ?_ _)); refine blk_put (cs := #[.slice Ao3 l0_0.length co3, .int .i64 a0_1, .int .i64 a0_2, .int .i64 a0_3, .slice none 0 0]) ?_ 4 _ rfl; (with_reducible repeat (first | refine blk_drewN ?_ _ | refine blk_drew ?_ | refine blk_alloc ?_ _)); refine blk_put (cs := #[.slice Ao3 l0_0.length co3, .int .i64 a0_1, .int .i64 a0_2, .int .i64 0, .slice none 0 0]) ?_ 3 _ rfl; (with_reducible repeat (first | refine blk_drewN ?_ _ | refine blk_drew ?_ | refine blk_alloc ?_ _)); refine blk_put (cs := #[.slice Ao3 l0_0.length co3, .int .i64 a0_1, .int .i64 0, .int .i64 0, .slice none 0 0]) ?_ 2 _ rfl; (with_reducible repeat (first | refine blk_drewN ?_ _ | refine blk_drew ?_ | refine blk_alloc ?_ _)); refine blk_put (cs := #[.slice Ao3 l0_0.length co3, .int .i64 0, .int .i64 0, .int .i64 0, .slice none 0 0]) ?_ 1 _ rfl; (with_reducible repeat (first | refine blk_drewN ?_ _ | refine blk_drew ?_ | refine blk_alloc ?_ _)); refine blk_put (cs := #[.slice none 0 0, .int .i64 0, .int .i64 0, .int .i64 0, .slice none 0 0]) ?_ 0 _ rfl; (with_reducible repeat (first | refine blk_drewN ?_ _ | refine blk_drew ?_ | refine blk_alloc ?_ _)); exact BK190.out) Try.underlying27 rfl (by kernel_rfl)) rfl ?_
  exact ⟨_, _, _, er2, by (with_reducible repeat (first | apply Kd.R_alloc | apply Kd.R_drewN | apply Kd.R_drew)); exact Kd.R_mono (farsR (Kd.R_types HO0_0.out BK190.out (by decide))) (fun _ hk => ⟨hk.1, (by simp [Value.ownBlock])⟩), by (with_reducible repeat (first | apply Kd.R_alloc | apply Kd.R_drewN | apply Kd.R_drew)); exact Kd.R_mono (farsR (Kd.R_types HO0_4.out BK190.out (by decide))) (fun _ hk => hk.1), by first | exact Kd.R_nil _ _ _ _ _ | exact Kd.N_nil _ _ _ _ _ | exact Kd.V_nil _ _ _ _ _ | exact Kd.Q_nil _ _ _ _ _ | exact Kd.S_nil _ _ _ _ _, belowg2 HB GE189 GE190, by repeat (first | (with_reducible first | exact HK.out | apply Kept.alloc | apply Kept.drewN | apply Kept.drew | refine Kept.setCell ?_ (.inr GW189.out) _ | refine Kept.setCell ?_ (.inr GW190.out) _) | exact HK.out)⟩
 ·rw [if_neg c2] at H
  have c2b0 : ((l0_0.length : Int) == 0) = false := beq_eq_false_iff_ne.mpr c2
  have c2b1 : ((l0_0.length : Int) != 0) = true := bne_iff_ne.mpr c2
  have c2b2 : ¬ (l0_0 = []) := fun h_ => c2 (by rw [h_]; rfl)
  replace H := bS H; obtain ⟨t191, A10, H⟩ := H
  replace H : (if (l0_0.length : Int) < a0_1 then (if t191 < a0_2 then (some (l0_0, a0_1, a0_2, t191, l0_4, ([] : List ByteArray))) else (some (([] : List ByteArray), a0_1, a0_2, 0, l0_4, l0_0))) else (some (([] : List ByteArray), a0_1, a0_2, 0, l0_4, l0_0))) = some (r1, r2, r3, r4, r5, r6) := H
  by_cases c11 : (l0_0.length : Int) < a0_1
  ·rw [if_pos c11] at H
   have c11b0 : decide ((l0_0.length : Int) < a0_1) = true := decide_eq_true c11
   clear c11
   by_cases c12 : t191 < a0_2
   ·rw [if_pos c12] at H
    have c12b0 : decide (t191 < a0_2) = true := decide_eq_true c12
    clear c12
    simp only [Option.some.injEq, Prod.mk.injEq] at H
    obtain ⟨rfl, rfl, rfl, rfl, rfl, rfl⟩ := H
    obtain ⟨Ao13, co13, eo13⟩ := Kd.R_slice HO0_0.out
    subst eo13
    obtain ⟨Ao14, co14, eo14⟩ := Kd.R_slice HO0_4.out
    subst eo14
    go_enter Try.func112, Try.ntmps112
    go_wp2_with (first | ((with_reducible refine gate_dst (N := 1) rfl ?_); refine boxev 1 #[.slice Ao13 l0_0.length co13, .int .i64 a0_1, .int .i64 a0_2, .int .i64 a0_3, .slice Ao14 l0_4.length co14] 27 ?_; intro gb189 hg w15 hbox hb; replace HO0_0 := ak (Kd.R_below (rdl HO0_0) hb); replace HO0_4 := ak (Kd.R_below (rdl HO0_4) hb); have BK189 := ak (hbox); have GW189 := ak ((by rw [hg]; exact (by first | exact HK.out.1 | exact (show Kept w _ (fun k_ => P0_0_ k_ ∨ P0_4_ k_) from by repeat (first | (with_reducible first | exact HK.out | apply Kept.alloc | apply Kept.drewN | apply Kept.drew) | exact HK.out)).1) : w.heap.size ≤ gb189)); replace HK := ak (Kept.below (S := (fun k_ => P0_0_ k_ ∨ P0_4_ k_)) (by repeat (first | (with_reducible first | exact HK.out | apply Kept.alloc | apply Kept.drewN | apply Kept.drew) | exact HK.out)) hb); have GE189 := ak ((by rw [hg]; exact (below_size (belowd HB)) : w0.heap.size ≤ gb189)); replace HB := ak (below_step (belowd HB) hb); clear hb hbox hg) | ((with_reducible refine gate_dst (N := 2) rfl ?_); refine boxev 2 #[.slice none 0 0, .int .i64 0, .int .i64 0, .int .i64 0, .slice none 0 0] 27 ?_; intro gb190 hg w16 hbox hb; replace HO0_0 := ak (Kd.R_below (rdl HO0_0) hb); replace HO0_4 := ak (Kd.R_below (rdl HO0_4) hb); have BK190 := ak (hbox); have GW190 := ak ((by rw [hg]; exact (by first | exact HK.out.1 | exact (show Kept w _ (fun k_ => P0_0_ k_ ∨ P0_4_ k_) from by repeat (first | (with_reducible first | exact HK.out | apply Kept.alloc | apply Kept.drewN | apply Kept.drew | refine Kept.setCell ?_ (.inr GW189.out) _) | exact HK.out)).1) : w.heap.size ≤ gb190)); replace HK := ak (Kept.below (S := (fun k_ => P0_0_ k_ ∨ P0_4_ k_)) (by repeat (first | (with_reducible first | exact HK.out | apply Kept.alloc | apply Kept.drewN | apply Kept.drew | refine Kept.setCell ?_ (.inr GW189.out) _) | exact HK.out)) hb); have GE190 := ak ((by rw [hg]; exact (below_size (belowg1 HB GE189)) : w0.heap.size ≤ gb190)); replace HB := ak (below_step (belowg1 HB GE189) hb); have NB189_190 := ak ((by rw [hg]; exact Nat.ne_of_lt (blk_lt (blkd BK189)) : gb189 ≠ gb190)); have NB190_189 := ak ((by rw [hg]; exact Nat.ne_of_gt (blk_lt (blkd BK189)) : gb190 ≠ gb189)); replace BK189 := ak (blk_below (blkd BK189) hb); clear hb hbox hg; have hnb17 := NB189_190.out; have hnc17 := NB190_189.out; obtain ⟨hcz18_0, hcz18_1, hcz18_2, hcz18_3, hcz18_4, hfz18_0, hfz18_1, hfz18_2, hfz18_3, hfz18_4⟩ := box5 BK189) | ((with_reducible refine gate_callee (f := 186) rfl ?_); refine goesLa (some 13) rfl Try.func186 #[.int .i64 10, .int .i64 (wrap64 (a0_3 + 1))] rfl ?_; (with_reducible refine (spec_l1Least.calls 10 (wrap64 (a0_3 + 1)) t191 _ A10.out).mono ?_); rintro e w' ⟨rfl, ⟨nd, rfl⟩⟩; refine ⟨_, rfl, ?_⟩; (try (rw [drewN_self w16]; generalize hq_ : World.drewN w16 _ = w16; have n0_ : Aside0 (Kd.R Kd.string 9 w16 w0.heap.size (fun k_ => ((P0_0_ k_ ∨ P0_4_ k_) ∨ w.heap.size ≤ k_)) (.slice Ao13 l0_0.length co13) l0_0) := ⟨by rw [← hq_]; exact (rdl HO0_0)⟩; have n1_ : Aside0 (Kd.R (Kd.int .i64) 3 w16 w0.heap.size (fun k_ => ((P0_0_ k_ ∨ P0_4_ k_) ∨ w.heap.size ≤ k_)) (.slice Ao14 l0_4.length co14) l0_4) := ⟨by rw [← hq_]; exact (rdl HO0_4)⟩; have n2_ : Aside0 (w16.heap[gb189]? = some (.cells #[.slice Ao13 l0_0.length co13, .int .i64 a0_1, .int .i64 a0_2, .int .i64 a0_3, .slice Ao14 l0_4.length co14] 27 (0, 0))) := ⟨by rw [← hq_]; exact (blkd BK189)⟩; have n3_ : Aside0 (w16.heap[gb190]? = some (.cells #[.slice none 0 0, .int .i64 0, .int .i64 0, .int .i64 0, .slice none 0 0] 27 (0, 0))) := ⟨by rw [← hq_]; exact (blkd BK190)⟩; have n4_ : Aside0 (Kept w w16 (fun k_ => P0_0_ k_ ∨ P0_4_ k_)) := ⟨by rw [← hq_]; exact (by repeat (first | (with_reducible first | exact HK.out | apply Kept.alloc | apply Kept.drewN | apply Kept.drew | refine Kept.setCell ?_ (.inr GW189.out) _ | refine Kept.setCell ?_ (.inr GW190.out) _) | exact HK.out))⟩; have n5_ : Aside0 (Below w0.heap.size w0 w16) := ⟨by rw [← hq_]; exact (belowg2 HB GE189 GE190)⟩; clear HO0_0 HO0_4 BK189 BK190 HK HB hq_; have HO0_0 := n0_; have HO0_4 := n1_; have BK189 := n2_; have BK190 := n3_; have HK := n4_; have HB := n5_; clear n0_ n1_ n2_ n3_ n4_ n5_)); obtain ⟨hcz19_0, hcz19_1, hcz19_2, hcz19_3, hcz19_4, hfz19_0, hfz19_1, hfz19_2, hfz19_3, hfz19_4⟩ := box5 BK189; obtain ⟨hcz20_0, hcz20_1, hcz20_2, hcz20_3, hcz20_4, hfz20_0, hfz20_1, hfz20_2, hfz20_3, hfz20_4⟩ := box5 BK190))
    refine bodyPost_ret (results_ct rfl _ _ gb190 27 #[.slice Ao13 l0_0.length co13, .int .i64 a0_1, .int .i64 a0_2, .int .i64 t191, .slice Ao14 l0_4.length co14] (0, 0) _ rfl (by (with_reducible repeat (first | refine blk_drewN ?_ _ | refine blk_drew ?_ | refine blk_alloc ?_ _)); refine blk_put (cs := #[.slice Ao13 l0_0.length co13, .int .i64 a0_1, .int .i64 a0_2, .int .i64 t191, .slice none 0 0]) ?_ 4 _ rfl; (with_reducible repeat (first | refine blk_drewN ?_ _ | refine blk_drew ?_ | refine blk_alloc ?_ _)); refine blk_put (cs := #[.slice Ao13 l0_0.length co13, .int .i64 a0_1, .int .i64 a0_2, .int .i64 0, .slice none 0 0]) ?_ 3 _ rfl; (with_reducible repeat (first | refine blk_drewN ?_ _ | refine blk_drew ?_ | refine blk_alloc ?_ _)); refine blk_put (cs := #[.slice Ao13 l0_0.length co13, .int .i64 a0_1, .int .i64 0, .int .i64 0, .slice none 0 0]) ?_ 2 _ rfl; (with_reducible repeat (first | refine blk_drewN ?_ _ | refine blk_drew ?_ | refine blk_alloc ?_ _)); refine blk_put (cs := #[.slice Ao13 l0_0.length co13, .int .i64 0, .int .i64 0, .int .i64 0, .slice none 0 0]) ?_ 1 _ rfl; (with_reducible repeat (first | refine blk_drewN ?_ _ | refine blk_drew ?_ | refine blk_alloc ?_ _)); refine blk_put (cs := #[.slice none 0 0, .int .i64 0, .int .i64 0, .int .i64 0, .slice none 0 0]) ?_ 0 _ rfl; (with_reducible repeat (first | refine blk_drewN ?_ _ | refine blk_drew ?_ | refine blk_alloc ?_ _)); refine blk_far ?_ NB190_189.out _; (with_reducible repeat (first | refine blk_drewN ?_ _ | refine blk_drew ?_ | refine blk_alloc ?_ _)); exact BK190.out) Try.underlying27 rfl (by kernel_rfl)) rfl ?_
    exact ⟨_, _, _, er2, by (with_reducible repeat (first | apply Kd.R_alloc | apply Kd.R_drewN | apply Kd.R_drew)); exact Kd.R_mono (farsR (Kd.R_types (Kd.R_types HO0_0.out BK189.out (by decide)) BK190.out (by decide))) (fun _ hk => ⟨hk.1.1, (by simp [Value.ownBlock])⟩), by (with_reducible repeat (first | apply Kd.R_alloc | apply Kd.R_drewN | apply Kd.R_drew)); exact Kd.R_mono (farsR (Kd.R_types (Kd.R_types HO0_4.out BK189.out (by decide)) BK190.out (by decide))) (fun _ hk => hk.1.1), by first | exact Kd.R_nil _ _ _ _ _ | exact Kd.N_nil _ _ _ _ _ | exact Kd.V_nil _ _ _ _ _ | exact Kd.Q_nil _ _ _ _ _ | exact Kd.S_nil _ _ _ _ _, belowg2 HB GE189 GE190, by repeat (first | (with_reducible first | exact HK.out | apply Kept.alloc | apply Kept.drewN | apply Kept.drew | refine Kept.setCell ?_ (.inr GW189.out) _ | refine Kept.setCell ?_ (.inr GW190.out) _) | exact HK.out)⟩
   ·rw [if_neg c12] at H
    have c12b0 : decide (t191 < a0_2) = false := decide_eq_false c12
    clear c12
    simp only [Option.some.injEq, Prod.mk.injEq] at H
    obtain ⟨rfl, rfl, rfl, rfl, rfl, rfl⟩ := H
    obtain ⟨Ao21, co21, eo21⟩ := Kd.R_slice HO0_0.out
    subst eo21
    obtain ⟨Ao22, co22, eo22⟩ := Kd.R_slice HO0_4.out
    subst eo22
    go_enter Try.func112, Try.ntmps112
    go_wp2_with (first | ((with_reducible refine gate_dst (N := 1) rfl ?_); refine boxev 1 #[.slice Ao21 l0_0.length co21, .int .i64 a0_1, .int .i64 a0_2, .int .i64 a0_3, .slice Ao22 l0_4.length co22] 27 ?_; intro gb189 hg w23 hbox hb; replace HO0_0 := ak (Kd.R_below (rdl HO0_0) hb); replace HO0_4 := ak (Kd.R_below (rdl HO0_4) hb); have BK189 := ak (hbox); have GW189 := ak ((by rw [hg]; exact (by first | exact HK.out.1 | exact (show Kept w _ (fun k_ => P0_0_ k_ ∨ P0_4_ k_) from by repeat (first | (with_reducible first | exact HK.out | apply Kept.alloc | apply Kept.drewN | apply Kept.drew) | exact HK.out)).1) : w.heap.size ≤ gb189)); replace HK := ak (Kept.below (S := (fun k_ => P0_0_ k_ ∨ P0_4_ k_)) (by repeat (first | (with_reducible first | exact HK.out | apply Kept.alloc | apply Kept.drewN | apply Kept.drew) | exact HK.out)) hb); have GE189 := ak ((by rw [hg]; exact (below_size (belowd HB)) : w0.heap.size ≤ gb189)); replace HB := ak (below_step (belowd HB) hb); clear hb hbox hg) | ((with_reducible refine gate_dst (N := 2) rfl ?_); refine boxev 2 #[.slice none 0 0, .int .i64 0, .int .i64 0, .int .i64 0, .slice none 0 0] 27 ?_; intro gb190 hg w24 hbox hb; replace HO0_0 := ak (Kd.R_below (rdl HO0_0) hb); replace HO0_4 := ak (Kd.R_below (rdl HO0_4) hb); have BK190 := ak (hbox); have GW190 := ak ((by rw [hg]; exact (by first | exact HK.out.1 | exact (show Kept w _ (fun k_ => P0_0_ k_ ∨ P0_4_ k_) from by repeat (first | (with_reducible first | exact HK.out | apply Kept.alloc | apply Kept.drewN | apply Kept.drew | refine Kept.setCell ?_ (.inr GW189.out) _) | exact HK.out)).1) : w.heap.size ≤ gb190)); replace HK := ak (Kept.below (S := (fun k_ => P0_0_ k_ ∨ P0_4_ k_)) (by repeat (first | (with_reducible first | exact HK.out | apply Kept.alloc | apply Kept.drewN | apply Kept.drew | refine Kept.setCell ?_ (.inr GW189.out) _) | exact HK.out)) hb); have GE190 := ak ((by rw [hg]; exact (below_size (belowg1 HB GE189)) : w0.heap.size ≤ gb190)); replace HB := ak (below_step (belowg1 HB GE189) hb); have NB189_190 := ak ((by rw [hg]; exact Nat.ne_of_lt (blk_lt (blkd BK189)) : gb189 ≠ gb190)); have NB190_189 := ak ((by rw [hg]; exact Nat.ne_of_gt (blk_lt (blkd BK189)) : gb190 ≠ gb189)); replace BK189 := ak (blk_below (blkd BK189) hb); clear hb hbox hg; have hnb25 := NB189_190.out; have hnc25 := NB190_189.out; obtain ⟨hcz26_0, hcz26_1, hcz26_2, hcz26_3, hcz26_4, hfz26_0, hfz26_1, hfz26_2, hfz26_3, hfz26_4⟩ := box5 BK189) | ((with_reducible refine gate_callee (f := 186) rfl ?_); refine goesLa (some 13) rfl Try.func186 #[.int .i64 10, .int .i64 (wrap64 (a0_3 + 1))] rfl ?_; (with_reducible refine (spec_l1Least.calls 10 (wrap64 (a0_3 + 1)) t191 _ A10.out).mono ?_); rintro e w' ⟨rfl, ⟨nd, rfl⟩⟩; refine ⟨_, rfl, ?_⟩; (try (rw [drewN_self w24]; generalize hq_ : World.drewN w24 _ = w24; have n0_ : Aside0 (Kd.R Kd.string 9 w24 w0.heap.size (fun k_ => ((P0_0_ k_ ∨ P0_4_ k_) ∨ w.heap.size ≤ k_)) (.slice Ao21 l0_0.length co21) l0_0) := ⟨by rw [← hq_]; exact (rdl HO0_0)⟩; have n1_ : Aside0 (Kd.R (Kd.int .i64) 3 w24 w0.heap.size (fun k_ => ((P0_0_ k_ ∨ P0_4_ k_) ∨ w.heap.size ≤ k_)) (.slice Ao22 l0_4.length co22) l0_4) := ⟨by rw [← hq_]; exact (rdl HO0_4)⟩; have n2_ : Aside0 (w24.heap[gb189]? = some (.cells #[.slice Ao21 l0_0.length co21, .int .i64 a0_1, .int .i64 a0_2, .int .i64 a0_3, .slice Ao22 l0_4.length co22] 27 (0, 0))) := ⟨by rw [← hq_]; exact (blkd BK189)⟩; have n3_ : Aside0 (w24.heap[gb190]? = some (.cells #[.slice none 0 0, .int .i64 0, .int .i64 0, .int .i64 0, .slice none 0 0] 27 (0, 0))) := ⟨by rw [← hq_]; exact (blkd BK190)⟩; have n4_ : Aside0 (Kept w w24 (fun k_ => P0_0_ k_ ∨ P0_4_ k_)) := ⟨by rw [← hq_]; exact (by repeat (first | (with_reducible first | exact HK.out | apply Kept.alloc | apply Kept.drewN | apply Kept.drew | refine Kept.setCell ?_ (.inr GW189.out) _ | refine Kept.setCell ?_ (.inr GW190.out) _) | exact HK.out))⟩; have n5_ : Aside0 (Below w0.heap.size w0 w24) := ⟨by rw [← hq_]; exact (belowg2 HB GE189 GE190)⟩; clear HO0_0 HO0_4 BK189 BK190 HK HB hq_; have HO0_0 := n0_; have HO0_4 := n1_; have BK189 := n2_; have BK190 := n3_; have HK := n4_; have HB := n5_; clear n0_ n1_ n2_ n3_ n4_ n5_)); obtain ⟨hcz27_0, hcz27_1, hcz27_2, hcz27_3, hcz27_4, hfz27_0, hfz27_1, hfz27_2, hfz27_3, hfz27_4⟩ := box5 BK189; obtain ⟨hcz28_0, hcz28_1, hcz28_2, hcz28_3, hcz28_4, hfz28_0, hfz28_1, hfz28_2, hfz28_3, hfz28_4⟩ := box5 BK190))
    refine bodyPost_ret (results_ct rfl _ _ gb190 27 #[.slice none 0 0, .int .i64 a0_1, .int .i64 a0_2, .int .i64 0, .slice Ao22 l0_4.length co22] (0, 0) _ rfl (by (with_reducible repeat (first | refine blk_drewN ?_ _ | refine blk_drew ?_ | refine blk_alloc ?_ _)); refine blk_put (cs := #[.slice none 0 0, .int .i64 a0_1, .int .i64 a0_2, .int .i64 0, .slice none 0 0]) ?_ 4 _ rfl; (with_reducible repeat (first | refine blk_drewN ?_ _ | refine blk_drew ?_ | refine blk_alloc ?_ _)); refine blk_put (cs := #[.slice none 0 0, .int .i64 a0_1, .int .i64 a0_2, .int .i64 0, .slice none 0 0]) ?_ 3 _ rfl; (with_reducible repeat (first | refine blk_drewN ?_ _ | refine blk_drew ?_ | refine blk_alloc ?_ _)); refine blk_put (cs := #[.slice none 0 0, .int .i64 a0_1, .int .i64 0, .int .i64 0, .slice none 0 0]) ?_ 2 _ rfl; (with_reducible repeat (first | refine blk_drewN ?_ _ | refine blk_drew ?_ | refine blk_alloc ?_ _)); refine blk_put (cs := #[.slice none 0 0, .int .i64 0, .int .i64 0, .int .i64 0, .slice none 0 0]) ?_ 1 _ rfl; (with_reducible repeat (first | refine blk_drewN ?_ _ | refine blk_drew ?_ | refine blk_alloc ?_ _)); refine blk_put (cs := #[.slice none 0 0, .int .i64 0, .int .i64 0, .int .i64 0, .slice none 0 0]) ?_ 0 _ rfl; (with_reducible repeat (first | refine blk_drewN ?_ _ | refine blk_drew ?_ | refine blk_alloc ?_ _)); refine blk_far ?_ NB190_189.out _; (with_reducible repeat (first | refine blk_drewN ?_ _ | refine blk_drew ?_ | refine blk_alloc ?_ _)); refine blk_far ?_ NB190_189.out _; (with_reducible repeat (first | refine blk_drewN ?_ _ | refine blk_drew ?_ | refine blk_alloc ?_ _)); refine blk_far ?_ NB190_189.out _; (with_reducible repeat (first | refine blk_drewN ?_ _ | refine blk_drew ?_ | refine blk_alloc ?_ _)); exact BK190.out) Try.underlying27 rfl (by kernel_rfl)) rfl ?_
    exact ⟨_, _, _, er2, by first | exact Kd.R_nil _ _ _ _ _ | exact Kd.N_nil _ _ _ _ _ | exact Kd.V_nil _ _ _ _ _ | exact Kd.Q_nil _ _ _ _ _ | exact Kd.S_nil _ _ _ _ _, by (with_reducible repeat (first | apply Kd.R_alloc | apply Kd.R_drewN | apply Kd.R_drew)); exact Kd.R_mono (farsR (Kd.R_types (Kd.R_types HO0_4.out BK189.out (by decide)) BK190.out (by decide))) (fun _ hk => hk.1.1), by (with_reducible repeat (first | apply Kd.R_alloc | apply Kd.R_drewN | apply Kd.R_drew)); exact Kd.R_mono (farsR (Kd.R_types (Kd.R_types HO0_0.out BK189.out (by decide)) BK190.out (by decide))) (fun _ hk => ⟨hk.1.1, (by simp [Value.ownBlock])⟩), belowg2 HB GE189 GE190, by repeat (first | (with_reducible first | exact HK.out | apply Kept.alloc | apply Kept.drewN | apply Kept.drew | refine Kept.setCell ?_ (.inr GW189.out) _ | refine Kept.setCell ?_ (.inr GW190.out) _) | exact HK.out)⟩
  ·rw [if_neg c11] at H
   have c11b0 : decide ((l0_0.length : Int) < a0_1) = false := decide_eq_false c11
   clear c11
   simp only [Option.some.injEq, Prod.mk.injEq] at H
   obtain ⟨rfl, rfl, rfl, rfl, rfl, rfl⟩ := H
   obtain ⟨Ao29, co29, eo29⟩ := Kd.R_slice HO0_0.out
   subst eo29
   obtain ⟨Ao30, co30, eo30⟩ := Kd.R_slice HO0_4.out
   subst eo30
   go_enter Try.func112, Try.ntmps112
   go_wp2_with (first | ((with_reducible refine gate_dst (N := 1) rfl ?_); refine boxev 1 #[.slice Ao29 l0_0.length co29, .int .i64 a0_1, .int .i64 a0_2, .int .i64 a0_3, .slice Ao30 l0_4.length co30] 27 ?_; intro gb189 hg w31 hbox hb; replace HO0_0 := ak (Kd.R_below (rdl HO0_0) hb); replace HO0_4 := ak (Kd.R_below (rdl HO0_4) hb); have BK189 := ak (hbox); have GW189 := ak ((by rw [hg]; exact (by first | exact HK.out.1 | exact (show Kept w _ (fun k_ => P0_0_ k_ ∨ P0_4_ k_) from by repeat (first | (with_reducible first | exact HK.out | apply Kept.alloc | apply Kept.drewN | apply Kept.drew) | exact HK.out)).1) : w.heap.size ≤ gb189)); replace HK := ak (Kept.below (S := (fun k_ => P0_0_ k_ ∨ P0_4_ k_)) (by repeat (first | (with_reducible first | exact HK.out | apply Kept.alloc | apply Kept.drewN | apply Kept.drew) | exact HK.out)) hb); have GE189 := ak ((by rw [hg]; exact (below_size (belowd HB)) : w0.heap.size ≤ gb189)); replace HB := ak (below_step (belowd HB) hb); clear hb hbox hg) | ((with_reducible refine gate_dst (N := 2) rfl ?_); refine boxev 2 #[.slice none 0 0, .int .i64 0, .int .i64 0, .int .i64 0, .slice none 0 0] 27 ?_; intro gb190 hg w32 hbox hb; replace HO0_0 := ak (Kd.R_below (rdl HO0_0) hb); replace HO0_4 := ak (Kd.R_below (rdl HO0_4) hb); have BK190 := ak (hbox); have GW190 := ak ((by rw [hg]; exact (by first | exact HK.out.1 | exact (show Kept w _ (fun k_ => P0_0_ k_ ∨ P0_4_ k_) from by repeat (first | (with_reducible first | exact HK.out | apply Kept.alloc | apply Kept.drewN | apply Kept.drew | refine Kept.setCell ?_ (.inr GW189.out) _) | exact HK.out)).1) : w.heap.size ≤ gb190)); replace HK := ak (Kept.below (S := (fun k_ => P0_0_ k_ ∨ P0_4_ k_)) (by repeat (first | (with_reducible first | exact HK.out | apply Kept.alloc | apply Kept.drewN | apply Kept.drew | refine Kept.setCell ?_ (.inr GW189.out) _) | exact HK.out)) hb); have GE190 := ak ((by rw [hg]; exact (below_size (belowg1 HB GE189)) : w0.heap.size ≤ gb190)); replace HB := ak (below_step (belowg1 HB GE189) hb); have NB189_190 := ak ((by rw [hg]; exact Nat.ne_of_lt (blk_lt (blkd BK189)) : gb189 ≠ gb190)); have NB190_189 := ak ((by rw [hg]; exact Nat.ne_of_gt (blk_lt (blkd BK189)) : gb190 ≠ gb189)); replace BK189 := ak (blk_below (blkd BK189) hb); clear hb hbox hg; have hnb33 := NB189_190.out; have hnc33 := NB190_189.out; obtain ⟨hcz34_0, hcz34_1, hcz34_2, hcz34_3, hcz34_4, hfz34_0, hfz34_1, hfz34_2, hfz34_3, hfz34_4⟩ := box5 BK189) | ((with_reducible refine gate_callee (f := 186) rfl ?_); refine goesLa (some 13) rfl Try.func186 #[.int .i64 10, .int .i64 (wrap64 (a0_3 + 1))] rfl ?_; (with_reducible refine (spec_l1Least.calls 10 (wrap64 (a0_3 + 1)) t191 _ A10.out).mono ?_); rintro e w' ⟨rfl, ⟨nd, rfl⟩⟩; refine ⟨_, rfl, ?_⟩; (try (rw [drewN_self w32]; generalize hq_ : World.drewN w32 _ = w32; have n0_ : Aside0 (Kd.R Kd.string 9 w32 w0.heap.size (fun k_ => ((P0_0_ k_ ∨ P0_4_ k_) ∨ w.heap.size ≤ k_)) (.slice Ao29 l0_0.length co29) l0_0) := ⟨by rw [← hq_]; exact (rdl HO0_0)⟩; have n1_ : Aside0 (Kd.R (Kd.int .i64) 3 w32 w0.heap.size (fun k_ => ((P0_0_ k_ ∨ P0_4_ k_) ∨ w.heap.size ≤ k_)) (.slice Ao30 l0_4.length co30) l0_4) := ⟨by rw [← hq_]; exact (rdl HO0_4)⟩; have n2_ : Aside0 (w32.heap[gb189]? = some (.cells #[.slice Ao29 l0_0.length co29, .int .i64 a0_1, .int .i64 a0_2, .int .i64 a0_3, .slice Ao30 l0_4.length co30] 27 (0, 0))) := ⟨by rw [← hq_]; exact (blkd BK189)⟩; have n3_ : Aside0 (w32.heap[gb190]? = some (.cells #[.slice none 0 0, .int .i64 0, .int .i64 0, .int .i64 0, .slice none 0 0] 27 (0, 0))) := ⟨by rw [← hq_]; exact (blkd BK190)⟩; have n4_ : Aside0 (Kept w w32 (fun k_ => P0_0_ k_ ∨ P0_4_ k_)) := ⟨by rw [← hq_]; exact (by repeat (first | (with_reducible first | exact HK.out | apply Kept.alloc | apply Kept.drewN | apply Kept.drew | refine Kept.setCell ?_ (.inr GW189.out) _ | refine Kept.setCell ?_ (.inr GW190.out) _) | exact HK.out))⟩; have n5_ : Aside0 (Below w0.heap.size w0 w32) := ⟨by rw [← hq_]; exact (belowg2 HB GE189 GE190)⟩; clear HO0_0 HO0_4 BK189 BK190 HK HB hq_; have HO0_0 := n0_; have HO0_4 := n1_; have BK189 := n2_; have BK190 := n3_; have HK := n4_; have HB := n5_; clear n0_ n1_ n2_ n3_ n4_ n5_)); obtain ⟨hcz35_0, hcz35_1, hcz35_2, hcz35_3, hcz35_4, hfz35_0, hfz35_1, hfz35_2, hfz35_3, hfz35_4⟩ := box5 BK189; obtain ⟨hcz36_0, hcz36_1, hcz36_2, hcz36_3, hcz36_4, hfz36_0, hfz36_1, hfz36_2, hfz36_3, hfz36_4⟩ := box5 BK190))
   refine bodyPost_ret (results_ct rfl _ _ gb190 27 #[.slice none 0 0, .int .i64 a0_1, .int .i64 a0_2, .int .i64 0, .slice Ao30 l0_4.length co30] (0, 0) _ rfl (by (with_reducible repeat (first | refine blk_drewN ?_ _ | refine blk_drew ?_ | refine blk_alloc ?_ _)); refine blk_put (cs := #[.slice none 0 0, .int .i64 a0_1, .int .i64 a0_2, .int .i64 0, .slice none 0 0]) ?_ 4 _ rfl; (with_reducible repeat (first | refine blk_drewN ?_ _ | refine blk_drew ?_ | refine blk_alloc ?_ _)); refine blk_put (cs := #[.slice none 0 0, .int .i64 a0_1, .int .i64 a0_2, .int .i64 0, .slice none 0 0]) ?_ 3 _ rfl; (with_reducible repeat (first | refine blk_drewN ?_ _ | refine blk_drew ?_ | refine blk_alloc ?_ _)); refine blk_put (cs := #[.slice none 0 0, .int .i64 a0_1, .int .i64 0, .int .i64 0, .slice none 0 0]) ?_ 2 _ rfl; (with_reducible repeat (first | refine blk_drewN ?_ _ | refine blk_drew ?_ | refine blk_alloc ?_ _)); refine blk_put (cs := #[.slice none 0 0, .int .i64 0, .int .i64 0, .int .i64 0, .slice none 0 0]) ?_ 1 _ rfl; (with_reducible repeat (first | refine blk_drewN ?_ _ | refine blk_drew ?_ | refine blk_alloc ?_ _)); refine blk_put (cs := #[.slice none 0 0, .int .i64 0, .int .i64 0, .int .i64 0, .slice none 0 0]) ?_ 0 _ rfl; (with_reducible repeat (first | refine blk_drewN ?_ _ | refine blk_drew ?_ | refine blk_alloc ?_ _)); refine blk_far ?_ NB190_189.out _; (with_reducible repeat (first | refine blk_drewN ?_ _ | refine blk_drew ?_ | refine blk_alloc ?_ _)); refine blk_far ?_ NB190_189.out _; (with_reducible repeat (first | refine blk_drewN ?_ _ | refine blk_drew ?_ | refine blk_alloc ?_ _)); refine blk_far ?_ NB190_189.out _; (with_reducible repeat (first | refine blk_drewN ?_ _ | refine blk_drew ?_ | refine blk_alloc ?_ _)); exact BK190.out) Try.underlying27 rfl (by kernel_rfl)) rfl ?_
   exact ⟨_, _, _, er2, by first | exact Kd.R_nil _ _ _ _ _ | exact Kd.N_nil _ _ _ _ _ | exact Kd.V_nil _ _ _ _ _ | exact Kd.Q_nil _ _ _ _ _ | exact Kd.S_nil _ _ _ _ _, by (with_reducible repeat (first | apply Kd.R_alloc | apply Kd.R_drewN | apply Kd.R_drew)); exact Kd.R_mono (farsR (Kd.R_types (Kd.R_types HO0_4.out BK189.out (by decide)) BK190.out (by decide))) (fun _ hk => hk.1.1), by (with_reducible repeat (first | apply Kd.R_alloc | apply Kd.R_drewN | apply Kd.R_drew)); exact Kd.R_mono (farsR (Kd.R_types (Kd.R_types HO0_0.out BK189.out (by decide)) BK190.out (by decide))) (fun _ hk => ⟨hk.1.1, (by simp [Value.ownBlock])⟩), belowg2 HB GE189 GE190, by repeat (first | (with_reducible first | exact HK.out | apply Kept.alloc | apply Kept.drewN | apply Kept.drew | refine Kept.setCell ?_ (.inr GW189.out) _ | refine Kept.setCell ?_ (.inr GW190.out) _) | exact HK.out)⟩

/-! ### spec_PlayMix: function 21 -/
mutual
def spec_PlayMix.j0 : Nat → List (List ByteArray) → Bool → List ByteArray → Int → Int → Int → List Int → Option ((List (List ByteArray)) × Bool)
  | 0, _, _, _, _, _, _, _ => none
  | k + 1, x2, x31, x203000, x203001, x203002, x203003, x203004 => if x31 = true then (some (([] : List (List ByteArray)), false)) else (spec_PlayMix.l0 k ([] : List (List ByteArray)) x2 (x2.length : Int) 0 x203000 x203001 x203002 x203003 x203004)
def spec_PlayMix.l0 : Nat → List (List ByteArray) → List (List ByteArray) → Int → Int → List ByteArray → Int → Int → Int → List Int → Option ((List (List ByteArray)) × Bool)
  | 0, _, _, _, _, _, _, _, _, _ => none
  | k + 1, x10, x32, x33, x34, x203000, x203001, x203002, x203003, x203004 => if x34 < x33 then (if 0 ≤ x34 then (if x34 < (x32.length : Int) then ((spec_l8Pool.f k (rd_L2 x32 x34)).bind fun t204 => (if t204 = true then (spec_PlayMix.l1 k x10 x32 x33 x34 (rd_L2 x32 x34) ((rd_L2 x32 x34).length : Int) 0 x203000 x203001 x203002 x203003 x203004) else (some (([] : List (List ByteArray)), false)))) else (none)) else (none)) else (some (x10, true))
def spec_PlayMix.l1 : Nat → List (List ByteArray) → List (List ByteArray) → Int → Int → List ByteArray → Int → Int → List ByteArray → Int → Int → Int → List Int → Option ((List (List ByteArray)) × Bool)
  | 0, _, _, _, _, _, _, _, _, _, _, _, _ => none
  | k + 1, x10, x32, x33, x34, x41, x42, x43, x203000, x203001, x203002, x203003, x203004 => if x43 < x42 then (if 0 ≤ x43 then (if x43 < (x41.length : Int) then ((spec_l8Put.f k x203000 x203001 x203002 x203003 x203004 (rdOf ByteArray.empty x41 x43)).bind fun bt206 => (spec_PlayMix.l1 k x10 x32 x33 x34 x41 x42 (wrap64 (x43 + 1)) bt206.1 bt206.2.1 bt206.2.2.1 bt206.2.2.2.1 bt206.2.2.2.2.1)) else (none)) else (none)) else ((spec_l8Tick.f x203000 x203001 x203002 x203003 x203004).bind fun bt217 => ((some (([] : List ByteArray) : List ByteArray)).bind fun y230 => (if y230.length + bt217.2.2.2.2.2.length < 8796093022208 then (if x10.length < 5864062014805 then (spec_PlayMix.l0 k (x10 ++ [(y230 ++ bt217.2.2.2.2.2)]) x32 x33 (wrap64 (x34 + 1)) bt217.1 bt217.2.1 bt217.2.2.1 bt217.2.2.2.1 bt217.2.2.2.2.1) else (none)) else (none))))
end
def spec_PlayMix.f (k : Nat) (a0 : Int) (a1 : Int) (l2 : List (List ByteArray)) : Option ((List (List ByteArray)) × Bool) := (spec_NewMix.f a0 a1).bind fun bt192 => (if bt192.2.2.2.2.2 = true then (spec_PlayMix.j0 k l2 (decide ((l2.length : Int) > 20)) bt192.1 bt192.2.1 bt192.2.2.1 bt192.2.2.2.1 bt192.2.2.2.2.1) else (spec_PlayMix.j0 k l2 true bt192.1 bt192.2.1 bt192.2.2.1 bt192.2.2.2.1 bt192.2.2.2.2.1))
theorem spec_PlayMix.mono_l : ∀ k, (∀ y0 y1 y2 y3 y4 y5 y6, LeO (spec_PlayMix.j0 k y0 y1 y2 y3 y4 y5 y6) (spec_PlayMix.j0 (k + 1) y0 y1 y2 y3 y4 y5 y6)) ∧ (∀ y0 y1 y2 y3 y4 y5 y6 y7 y8, LeO (spec_PlayMix.l0 k y0 y1 y2 y3 y4 y5 y6 y7 y8) (spec_PlayMix.l0 (k + 1) y0 y1 y2 y3 y4 y5 y6 y7 y8)) ∧ (∀ y0 y1 y2 y3 y4 y5 y6 y7 y8 y9 y10 y11, LeO (spec_PlayMix.l1 k y0 y1 y2 y3 y4 y5 y6 y7 y8 y9 y10 y11) (spec_PlayMix.l1 (k + 1) y0 y1 y2 y3 y4 y5 y6 y7 y8 y9 y10 y11))
 | 0 => ⟨fun _ _ _ _ _ _ _ r h => by simp [spec_PlayMix.j0] at h, fun _ _ _ _ _ _ _ _ _ r h => by simp [spec_PlayMix.l0] at h, fun _ _ _ _ _ _ _ _ _ _ _ _ r h => by simp [spec_PlayMix.l1] at h⟩
 | k + 1 => by
  obtain ⟨ih0, ih1, ih2⟩ := spec_PlayMix.mono_l k
  refine ⟨?_, ?_, ?_⟩
  ·intro y0 y1 y2 y3 y4 y5 y6
   unfold spec_PlayMix.j0
   repeat' (first | (with_reducible first | exact ih0 _ _ _ _ _ _ _ | exact ih1 _ _ _ _ _ _ _ _ _ | exact ih2 _ _ _ _ _ _ _ _ _ _ _ _ | exact spec_l8Pool.mono _ _ | exact spec_l8Put.mono _ _ _ _ _ _ _ | exact LeO.refl _ | exact LeO.none _ | refine LeO.ite ?_ ?_ | refine LeO.bind ?_ (fun _ => ?_)) | exact ih0 _ _ _ _ _ _ _ | exact ih1 _ _ _ _ _ _ _ _ _ | exact ih2 _ _ _ _ _ _ _ _ _ _ _ _ | exact spec_l8Pool.mono _ _ | exact spec_l8Put.mono _ _ _ _ _ _ _ | exact LeO.none _ | refine LeO.ite ?_ ?_ | refine LeO.bind ?_ (fun _ => ?_))
  ·intro y0 y1 y2 y3 y4 y5 y6 y7 y8
   unfold spec_PlayMix.l0
   repeat' (first | (with_reducible first | exact ih0 _ _ _ _ _ _ _ | exact ih1 _ _ _ _ _ _ _ _ _ | exact ih2 _ _ _ _ _ _ _ _ _ _ _ _ | exact spec_l8Pool.mono _ _ | exact spec_l8Put.mono _ _ _ _ _ _ _ | exact LeO.refl _ | exact LeO.none _ | refine LeO.ite ?_ ?_ | refine LeO.bind ?_ (fun _ => ?_)) | exact ih0 _ _ _ _ _ _ _ | exact ih1 _ _ _ _ _ _ _ _ _ | exact ih2 _ _ _ _ _ _ _ _ _ _ _ _ | exact spec_l8Pool.mono _ _ | exact spec_l8Put.mono _ _ _ _ _ _ _ | exact LeO.none _ | refine LeO.ite ?_ ?_ | refine LeO.bind ?_ (fun _ => ?_))
  ·intro y0 y1 y2 y3 y4 y5 y6 y7 y8 y9 y10 y11
   unfold spec_PlayMix.l1
   repeat' (first | (with_reducible first | exact ih0 _ _ _ _ _ _ _ | exact ih1 _ _ _ _ _ _ _ _ _ | exact ih2 _ _ _ _ _ _ _ _ _ _ _ _ | exact spec_l8Pool.mono _ _ | exact spec_l8Put.mono _ _ _ _ _ _ _ | exact LeO.refl _ | exact LeO.none _ | refine LeO.ite ?_ ?_ | refine LeO.bind ?_ (fun _ => ?_)) | exact ih0 _ _ _ _ _ _ _ | exact ih1 _ _ _ _ _ _ _ _ _ | exact ih2 _ _ _ _ _ _ _ _ _ _ _ _ | exact spec_l8Pool.mono _ _ | exact spec_l8Put.mono _ _ _ _ _ _ _ | exact LeO.none _ | refine LeO.ite ?_ ?_ | refine LeO.bind ?_ (fun _ => ?_))
theorem spec_PlayMix.mono : ∀ a0 a1 a2 k, LeO (spec_PlayMix.f k a0 a1 a2) (spec_PlayMix.f (k + 1) a0 a1 a2) := by
 intro a0 a1 a2 k
 obtain ⟨ih0, ih1, ih2⟩ := spec_PlayMix.mono_l k
 unfold spec_PlayMix.f
 repeat' (first | (with_reducible first | exact ih0 _ _ _ _ _ _ _ | exact ih1 _ _ _ _ _ _ _ _ _ | exact ih2 _ _ _ _ _ _ _ _ _ _ _ _ | exact spec_l8Pool.mono _ _ | exact spec_l8Put.mono _ _ _ _ _ _ _ | exact LeO.refl _ | exact LeO.none _ | refine LeO.ite ?_ ?_ | refine LeO.bind ?_ (fun _ => ?_)) | exact ih0 _ _ _ _ _ _ _ | exact ih1 _ _ _ _ _ _ _ _ _ | exact ih2 _ _ _ _ _ _ _ _ _ _ _ _ | exact spec_l8Pool.mono _ _ | exact spec_l8Put.mono _ _ _ _ _ _ _ | exact LeO.none _ | refine LeO.ite ?_ ?_ | refine LeO.bind ?_ (fun _ => ?_))
set_option maxHeartbeats 8000000 in
set_option maxRecDepth 100000 in
theorem spec_PlayMix.calls (k : Nat) (a0 : Int) (a1 : Int) (A2 : Option Addr) (c2 : Nat) (l2 : List (List ByteArray)) (r1 : List (List ByteArray)) (r2 : Bool) (w : World) (hr2 : Kd.C (Kd.slice 9 Kd.string) w A2 l2.length l2) (hc2 : l2.length ≤ c2) (h : spec_PlayMix.f k a0 a1 l2 = some (r1, r2)) :
  Calls Try.prog 21 #[.int .i64 a0, .int .i64 a1, .slice A2 l2.length c2] w fun e w' => ∃ v0_ : Value, e = .returned (.tuple #[v0_, .bool r2]) ∧ Kd.S (Kd.slice 9 Kd.string) 22 w' w.heap.size (fun _ => True) v0_ r1 ∧ Below w.heap.size w w' := by
 have hu27 := Try.underlying27
 have HR2 := Aside0.mk hr2; have HC2 := Aside0.mk hc2; clear hr2 hc2
 have HB := Aside0.mk (Below.refl w.heap.size w)
 have H : ((spec_NewMix.f a0 a1).bind fun bt192 => (if bt192.2.2.2.2.2 = true then (spec_PlayMix.j0 k l2 (decide ((l2.length : Int) > 20)) bt192.1 bt192.2.1 bt192.2.2.1 bt192.2.2.2.1 bt192.2.2.2.2.1) else (spec_PlayMix.j0 k l2 true bt192.1 bt192.2.1 bt192.2.2.1 bt192.2.2.2.1 bt192.2.2.2.2.1))) = some (r1, r2) := h
 clear h; replace H := bS H; obtain ⟨⟨t192, t195, t196, t197, t198, t201⟩, A4, H⟩ := H
 replace H : (if t201 = true then (spec_PlayMix.j0 k l2 (decide ((l2.length : Int) > 20)) t192 t195 t196 t197 t198) else (spec_PlayMix.j0 k l2 true t192 t195 t196 t197 t198)) = some (r1, r2) := H
 have HC5 := Aside0.mk H; clear H
 go_enter Try.func21, Try.ntmps21
 go_upto_region 2 with (first | ((with_reducible refine gate_callee (f := 110) rfl ?_); refine goesLa (some 22) rfl Try.func110 #[.int .i64 a0, .int .i64 a1] rfl ?_; (with_reducible refine (spec_NewMix.calls a0 a1 t192 t195 t196 t197 t198 t201 _ A4.out).mono ?_); rintro e w6 ⟨v193, v199, rfl, ho0, ho1, hb⟩; refine ⟨_, rfl, ?_⟩; have HO194 := ak (Kd.R_lower ho0 (below_size (belowd HB))); have HO200 := ak (Kd.R_lower ho1 (below_size (belowd HB))); replace HB := ak (below_step (belowd HB) hb); (try clear hb); (try clear ho0); (try clear ho1)) | ((with_reducible refine gate_dst (N := 8) rfl ?_); (try (refine gate_guard (by rfl) ?_; dsimp only)); refine boxev 8 #[.slice none 0 0, .int .i64 0, .int .i64 0, .int .i64 0, .slice none 0 0] 27 ?_; intro gb202 hg w7 hbox hb; replace HO194 := ak (Kd.R_below (rdl HO194) hb); replace HO200 := ak (Kd.R_below (rdl HO200) hb); have BK202 := ak (hbox); have GW202 := ak (hgl hg (belowd HB)); have GE202 := ak (hgl hg (belowd HB)); replace HB := ak (below_step (belowd HB) hb); clear hb hbox hg; obtain ⟨Ao8, co8, eo8⟩ := Kd.R_slice HO194.out; subst eo8; obtain ⟨hcz9_0, hcz9_1, hcz9_2, hcz9_3, hcz9_4, hfz9_0, hfz9_1, hfz9_2, hfz9_3, hfz9_4⟩ := box5 BK202; obtain ⟨Ao10, co10, eo10⟩ := Kd.R_slice HO200.out; subst eo10))
 (try simp only [Act.put, List.setIfInBounds_toArray, List.set_cons_zero, List.set_cons_succ])
 go_cut [31] (fun v31 wc => ∃ (kq : Nat) (x31_4 : Bool), v31 = .bool x31_4 ∧ Aside0 (spec_PlayMix.j0 kq l2 x31_4 t192 t195 t196 t197 t198 = some (r1, r2)) ∧ Aside0 (kq ≤ k) ∧ Aside0 (Kd.R Kd.string 9 wc w.heap.size (fun _ => True) (.slice Ao8 t192.length co8) t192) ∧ Aside0 (Kd.R (Kd.int .i64) 3 wc w.heap.size (fun _ => True) (.slice Ao10 t198.length co10) t198) ∧ Aside0 (wc.heap[gb202]? = some (.cells #[(.slice Ao8 t192.length co8), .int .i64 t195, .int .i64 t196, .int .i64 t197, (.slice Ao10 t198.length co10)] 27 (0, 0))) ∧ Aside0 (Below w.heap.size w wc))
 case first =>
  have H := HC5.out; clear HC5
  by_cases c11 : t201 = true
  ·subst c11
   have H1 : (spec_PlayMix.j0 k l2 (decide ((l2.length : Int) > 20)) t192 t195 t196 t197 t198) = some (r1, r2) := by rw [if_pos rfl] at H; exact H
   clear H
   have H := H1
   clear H1
   have H' := Aside0.mk H
   clear H; go_wp2
   go_meet
   case rel => exact ⟨_, (decide ((l2.length : Int) > 20)), er, H', ⟨by first | omega | exact Nat.le_refl _⟩, ⟨by (with_reducible repeat (first | apply Kd.R_alloc | apply Kd.R_drewN | apply Kd.R_drew)); exact Kd.R_mono (farsR (Kd.R_types HO194.out BK202.out (by decide))) (fun _ hk => trivial)⟩, ⟨by (with_reducible repeat (first | apply Kd.R_alloc | apply Kd.R_drewN | apply Kd.R_drew)); exact Kd.R_mono (farsR (Kd.R_types HO200.out BK202.out (by decide))) (fun _ hk => trivial)⟩, ⟨by (with_reducible repeat (first | refine blk_drewN ?_ _ | refine blk_drew ?_ | refine blk_alloc ?_ _)); refine blk_put (cs := #[.slice Ao8 t192.length co8, .int .i64 t195, .int .i64 t196, .int .i64 t197, .slice none 0 0]) ?_ 4 _ rfl; (with_reducible repeat (first | refine blk_drewN ?_ _ | refine blk_drew ?_ | refine blk_alloc ?_ _)); refine blk_put (cs := #[.slice Ao8 t192.length co8, .int .i64 t195, .int .i64 t196, .int .i64 0, .slice none 0 0]) ?_ 3 _ rfl; (with_reducible repeat (first | refine blk_drewN ?_ _ | refine blk_drew ?_ | refine blk_alloc ?_ _)); refine blk_put (cs := #[.slice Ao8 t192.length co8, .int .i64 t195, .int .i64 0, .int .i64 0, .slice none 0 0]) ?_ 2 _ rfl; (with_reducible repeat (first | refine blk_drewN ?_ _ | refine blk_drew ?_ | refine blk_alloc ?_ _)); refine blk_put (cs := #[.slice Ao8 t192.length co8, .int .i64 0, .int .i64 0, .int .i64 0, .slice none 0 0]) ?_ 1 _ rfl; (with_reducible repeat (first | refine blk_drewN ?_ _ | refine blk_drew ?_ | refine blk_alloc ?_ _)); refine blk_put (cs := #[.slice none 0 0, .int .i64 0, .int .i64 0, .int .i64 0, .slice none 0 0]) ?_ 0 _ rfl; (with_reducible repeat (first | refine blk_drewN ?_ _ | refine blk_drew ?_ | refine blk_alloc ?_ _)); exact BK202.out⟩, ⟨belowg1 HB GE202⟩⟩
  ·replace c11 := Bool.eq_false_iff.mpr c11
   subst c11
   have H1 : (spec_PlayMix.j0 k l2 true t192 t195 t196 t197 t198) = some (r1, r2) := by rw [if_neg (show ¬ (false = true) by decide)] at H; exact H
   clear H
   have H := H1
   clear H1
   have H' := Aside0.mk H
   clear H; go_wp2
   go_meet
   case rel => exact ⟨_, (true), er, H', ⟨by first | omega | exact Nat.le_refl _⟩, ⟨by (with_reducible repeat (first | apply Kd.R_alloc | apply Kd.R_drewN | apply Kd.R_drew)); exact Kd.R_mono (farsR (Kd.R_types HO194.out BK202.out (by decide))) (fun _ hk => trivial)⟩, ⟨by (with_reducible repeat (first | apply Kd.R_alloc | apply Kd.R_drewN | apply Kd.R_drew)); exact Kd.R_mono (farsR (Kd.R_types HO200.out BK202.out (by decide))) (fun _ hk => trivial)⟩, ⟨by (with_reducible repeat (first | refine blk_drewN ?_ _ | refine blk_drew ?_ | refine blk_alloc ?_ _)); refine blk_put (cs := #[.slice Ao8 t192.length co8, .int .i64 t195, .int .i64 t196, .int .i64 t197, .slice none 0 0]) ?_ 4 _ rfl; (with_reducible repeat (first | refine blk_drewN ?_ _ | refine blk_drew ?_ | refine blk_alloc ?_ _)); refine blk_put (cs := #[.slice Ao8 t192.length co8, .int .i64 t195, .int .i64 t196, .int .i64 0, .slice none 0 0]) ?_ 3 _ rfl; (with_reducible repeat (first | refine blk_drewN ?_ _ | refine blk_drew ?_ | refine blk_alloc ?_ _)); refine blk_put (cs := #[.slice Ao8 t192.length co8, .int .i64 t195, .int .i64 0, .int .i64 0, .slice none 0 0]) ?_ 2 _ rfl; (with_reducible repeat (first | refine blk_drewN ?_ _ | refine blk_drew ?_ | refine blk_alloc ?_ _)); refine blk_put (cs := #[.slice Ao8 t192.length co8, .int .i64 0, .int .i64 0, .int .i64 0, .slice none 0 0]) ?_ 1 _ rfl; (with_reducible repeat (first | refine blk_drewN ?_ _ | refine blk_drew ?_ | refine blk_alloc ?_ _)); refine blk_put (cs := #[.slice none 0 0, .int .i64 0, .int .i64 0, .int .i64 0, .slice none 0 0]) ?_ 0 _ rfl; (with_reducible repeat (first | refine blk_drewN ?_ _ | refine blk_drew ?_ | refine blk_alloc ?_ _)); exact BK202.out⟩, ⟨belowg1 HB GE202⟩⟩
 case rest =>
  clear HC5; (try clear c2); (try clear hcz9_0); (try clear hcz9_1); (try clear hcz9_2); (try clear hcz9_3); (try clear hcz9_4); (try clear hfz9_0); (try clear hfz9_1); (try clear hfz9_2); (try clear hfz9_3); (try clear hfz9_4)
  obtain ⟨kq, x31_4, rfl, HA, HJ4, HO_203000, HO_203004, BK202, HB⟩ := hcut
  cases kq with
  | zero => exact absurd HA.out (by simp [spec_PlayMix.j0])
  | succ kj4 =>
   have H := HA.out; clear HA
   simp only [spec_PlayMix.j0] at H
   by_cases c12 : x31_4 = true
   ·subst c12
    have H1 : (some (([] : List (List ByteArray)), false)) = some (r1, r2) := by rw [if_pos rfl] at H; exact H
    clear H
    have H := H1
    clear H1
    simp only [Option.some.injEq, Prod.mk.injEq] at H
    obtain ⟨rfl, rfl⟩ := H; go_wp2
    go_ret2
    exact ⟨_, er2, by first | exact Kd.S_nil _ _ _ _ _ | exact Kd.N_nil _ _ _ _ _ | exact Kd.V_nil _ _ _ _ _ | exact Kd.Q_nil _ _ _ _ _ | exact Kd.R_nil _ _ _ _ _, belowg1 HB GE202⟩
   ·replace c12 := Bool.eq_false_iff.mpr c12
    subst c12
    have H1 : (spec_PlayMix.l0 kj4 ([] : List (List ByteArray)) l2 (l2.length : Int) 0 t192 t195 t196 t197 t198) = some (r1, r2) := by rw [if_neg (show ¬ (false = true) by decide)] at H; exact H
    clear H
    have H := H1
    clear H1
    have H' := Aside0.mk H
    clear H; go_wp2
    go_loopg [10, 34] kj4 (fun kq v10 v34 w' => ∃ (x10_2 : List (List ByteArray)) (x34_2 : Int) (x203000_2 : List ByteArray) (x203001_2 : Int) (x203002_2 : Int) (x203003_2 : Int) (x203004_2 : List Int) (u203000 : Value) (u203004 : Value), v34 = .int .i64 x34_2 ∧ Aside0 (spec_PlayMix.l0 kq x10_2 l2 (l2.length : Int) x34_2 x203000_2 x203001_2 x203002_2 x203003_2 x203004_2 = some (r1, r2)) ∧ Aside0 (kq ≤ kj4) ∧ Aside0 (Kd.S (Kd.slice 9 Kd.string) 22 w' w.heap.size (fun k_ => some k_ ≠ (u203000 : Value).ownBlock) v10 x10_2) ∧ Aside0 (Kd.R Kd.string 9 w' w.heap.size (fun _ => True) u203000 x203000_2) ∧ Aside0 (Kd.R (Kd.int .i64) 3 w' w.heap.size (fun _ => True) u203004 x203004_2) ∧ Aside0 (w'.heap[gb202]? = some (.cells #[u203000, .int .i64 x203001_2, .int .i64 x203002_2, .int .i64 x203003_2, u203004] 27 (0, 0))) ∧ Aside0 (Below w.heap.size w w'))
    case atStart => exact ⟨(([] : List (List ByteArray))), (0), (t192), (t195), (t196), (t197), (t198), (.slice Ao8 t192.length co8), (.slice Ao10 t198.length co10), er, H', ⟨Nat.le_refl _⟩, ⟨by first | exact Kd.S_nil _ _ _ _ _ | exact Kd.N_nil _ _ _ _ _ | exact Kd.V_nil _ _ _ _ _ | exact Kd.Q_nil _ _ _ _ _ | exact Kd.R_nil _ _ _ _ _⟩, ⟨rdl HO_203000⟩, ⟨rdl HO_203004⟩, ⟨blkd BK202⟩, ⟨belowg1 HB GE202⟩⟩
    case round =>
     clear H'
     (try clear c12)
     obtain ⟨x10_2, x34_2, x203000_2, x203001_2, x203002_2, x203003_2, x203004_2, u203000, u203004, rfl, HA, HK2, HO_10, HO_203000, HO_203004, BK202, HB⟩ := hrel
     cases gk with
     | zero => exact absurd HA.out (by simp [spec_PlayMix.l0])
     | succ k2 =>
      have H := HA.out; clear HA
      simp only [spec_PlayMix.l0] at H
      by_cases c13 : x34_2 < (l2.length : Int)
      ·rw [if_pos c13] at H
       have c13b0 : decide (x34_2 < (l2.length : Int)) = true := decide_eq_true c13
       clear c13; replace H := ifS H; obtain ⟨c14, H⟩ := H; have c14b0 := decide_eq_true c14; clear c14; replace H := ifS H; obtain ⟨c15, H⟩ := H; have c15b0 := decide_eq_true c15; clear c15; replace H := bS H; obtain ⟨t204, A16, H⟩ := H
       replace H : (if t204 = true then (spec_PlayMix.l1 k2 x10_2 l2 (l2.length : Int) x34_2 (rd_L2 l2 x34_2) ((rd_L2 l2 x34_2).length : Int) 0 x203000_2 x203001_2 x203002_2 x203003_2 x203004_2) else (some (([] : List (List ByteArray)), false))) = some (r1, r2) := H
       by_cases c17 : t204 = true
       ·subst c17
        have H1 : (spec_PlayMix.l1 k2 x10_2 l2 (l2.length : Int) x34_2 (rd_L2 l2 x34_2) ((rd_L2 l2 x34_2).length : Int) 0 x203000_2 x203001_2 x203002_2 x203003_2 x203004_2) = some (r1, r2) := by rw [if_pos rfl] at H; exact H
        clear H
        have H := H1
        clear H1
        have H' := Aside0.mk H
        clear H
        have p203 : 0 ≤ (x34_2 : Int) := da
        have q203 : x34_2 < (l2.length : Int) := da
        obtain ⟨ad203, A203_0, c203_0, e203, hx203_0, hl203_0, hi203_0⟩ := at_L2 HR2.out x34_2 p203 q203
        cases e203
        replace hx203_0 := (HB.out.cell (World.block_lt_of_cell? w _ hx203_0)).trans hx203_0
        have HR203_0 := Aside0.mk hi203_0; have HC203_0 := Aside0.mk hl203_0; clear hi203_0 hl203_0; replace p203 := eq_true p203; replace q203 := eq_true q203
        go_wp2_with (first | ((with_reducible refine gate_callee (f := 111) rfl ?_); refine goesLa (some 39) rfl Try.func111 #[.slice A203_0 (rd_L2 l2 x34_2).length c203_0] rfl ?_; (with_reducible refine (spec_l8Pool.calls k2 _ _ (rd_L2 l2 x34_2) true _ ?side1 ?side2 A16.out).mono ?_); (case side1 => exact cd (Kd.C_below HR203_0.out HB.out)); (case side2 => exact HC203_0.out); rintro e w' ⟨rfl, ⟨nd, rfl⟩⟩; refine ⟨_, rfl, ?_⟩))
        go_loopg [43] k2 (fun kq v43 w' => ∃ (x43_3 : Int) (x203000_3 : List ByteArray) (x203001_3 : Int) (x203002_3 : Int) (x203003_3 : Int) (x203004_3 : List Int) (u203000 : Value) (u203004 : Value), v43 = .int .i64 x43_3 ∧ Aside0 (spec_PlayMix.l1 kq x10_2 l2 (l2.length : Int) x34_2 (rd_L2 l2 x34_2) ((rd_L2 l2 x34_2).length : Int) x43_3 x203000_3 x203001_3 x203002_3 x203003_3 x203004_3 = some (r1, r2)) ∧ Aside0 (kq ≤ k2) ∧ Aside0 (Kd.S (Kd.slice 9 Kd.string) 22 w' w.heap.size (fun k_ => some k_ ≠ (u203000 : Value).ownBlock) u10 x10_2) ∧ Aside0 (Kd.R Kd.string 9 w' w.heap.size (fun _ => True) u203000 x203000_3) ∧ Aside0 (Kd.R (Kd.int .i64) 3 w' w.heap.size (fun _ => True) u203004 x203004_3) ∧ Aside0 (w'.heap[gb202]? = some (.cells #[u203000, .int .i64 x203001_3, .int .i64 x203002_3, .int .i64 x203003_3, u203004] 27 (0, 0))) ∧ Aside0 (Below w.heap.size w w'))
        case atStart => exact ⟨(0), (x203000_2), (x203001_2), (x203002_2), (x203003_2), (x203004_2), (u203000), (u203004), er, H', ⟨Nat.le_refl _⟩, ⟨sd HO_10⟩, ⟨rdl HO_203000⟩, ⟨rdl HO_203004⟩, ⟨blkd BK202⟩, ⟨belowg1 HB GE202⟩⟩
        case round =>
         clear H'
         (try clear c13b0); (try clear c14b0); (try clear c15b0); (try clear c17); (try clear hx203_0); (try clear p203); (try clear q203)
         obtain ⟨x43_3, x203000_3, x203001_3, x203002_3, x203003_3, x203004_3, u203000, u203004, rfl, HA, HK3, HO_10, HO_203000, HO_203004, BK202, HB⟩ := hrel
         cases gk with
         | zero => exact absurd HA.out (by simp [spec_PlayMix.l1])
         | succ k3 =>
          have H := HA.out; clear HA
          simp only [spec_PlayMix.l1] at H
          by_cases c18 : x43_3 < ((rd_L2 l2 x34_2).length : Int)
          ·rw [if_pos c18] at H
           have c18b0 : decide (x43_3 < ((rd_L2 l2 x34_2).length : Int)) = true := decide_eq_true c18
           clear c18; replace H := ifS H; obtain ⟨c19, H⟩ := H; have c19b0 := decide_eq_true c19; clear c19; replace H := ifS H; obtain ⟨c20, H⟩ := H; have c20b0 := decide_eq_true c20; clear c20; replace H := bS H; obtain ⟨⟨t206, t209, t210, t211, t212, t215⟩, A21, H⟩ := H
           replace H : (spec_PlayMix.l1 k3 x10_2 l2 (l2.length : Int) x34_2 (rd_L2 l2 x34_2) ((rd_L2 l2 x34_2).length : Int) (wrap64 (x43_3 + 1)) t206 t209 t210 t211 t212) = some (r1, r2) := H
           have H' := Aside0.mk H
           clear H
           have p205 : 0 ≤ (x43_3 : Int) := da
           have q205 : x43_3 < ((rd_L2 l2 x34_2).length : Int) := da
           obtain ⟨ad205, e205, hx205_0⟩ := Kd.at_string HR203_0.out x43_3 p205 q205
           cases e205
           replace hx205_0 := (HB.out.cell (World.block_lt_of_cell? w _ hx205_0)).trans hx205_0
           replace p205 := eq_true p205; replace q205 := eq_true q205; obtain ⟨hcz22_0, hcz22_1, hcz22_2, hcz22_3, hcz22_4, hfz22_0, hfz22_1, hfz22_2, hfz22_3, hfz22_4⟩ := box5 BK202
           obtain ⟨Ao23, co23, eo23⟩ := Kd.R_slice HO_203000.out
           subst eo23
           obtain ⟨Ao24, co24, eo24⟩ := Kd.R_slice HO_203004.out
           subst eo24
           go_wp2_with (first | ((with_reducible refine gate_callee (f := 96) rfl ?_); refine goesLa (some 50) rfl Try.func96 #[.agg #[.slice Ao23 x203000_3.length co23, .int .i64 x203001_3, .int .i64 x203002_3, .int .i64 x203003_3, .slice Ao24 x203004_3.length co24], .string (rdOf ByteArray.empty (rd_L2 l2 x34_2) x43_3)] rfl ?_; (with_reducible refine (spec_l8Put.calls k3 (fun k_ => some k_ = (.slice Ao23 x203000_3.length co23 : Value).ownBlock) (.slice Ao23 x203000_3.length co23) x203000_3 x203001_3 x203002_3 x203003_3 (fun k_ => some k_ = (.slice Ao24 x203004_3.length co24 : Value).ownBlock) (.slice Ao24 x203004_3.length co24) x203004_3 (rdOf ByteArray.empty (rd_L2 l2 x34_2) x43_3) t206 t209 t210 t211 t212 t215 w _ ?side1 ?side2 ?side3 A21.out).mono ?_); (case side1 => repeat (first | (with_reducible first | exact HB.out | apply below_alloc | apply pw_below_drewN | apply below_drew1 | refine below_set ?_ GE202.out) | exact HB.out)); (case side2 => exact Kd.R_tight rfl HO_203000.out); (case side3 => exact Kd.R_tight rfl HO_203004.out); rintro e w25 ⟨v207, v213, rfl, ho0, ho1, hb, hkp⟩; refine ⟨_, rfl, ?_⟩; replace HO_10 := ak (Kd.S_mono (ok' := fun k_ => some k_ ≠ (v207 : Value).ownBlock) (Kd.S_keptB ((Kd.S_apart' HO_10.out (Kd.R_typed HO_203004.out) (by decide))) hkp (fun k_ hk_ hs_ => Or.elim hs_ (fun e_ => (hk_.1) e_) (fun e_ => (hk_.2) e_))) (fun k_ hk_ => fun e_ => Or.elim (ho0.1 k_ e_.symm) (fun hs_ => hk_.2.1 hs_) (fun hn_ => Nat.not_le.2 hk_.2.2 hn_))); replace BK202 := ak (blk_kept (blkd BK202) hkp (fun hs_ => Or.elim hs_ (fun e_ => (fun e_ => (Kd.R_ne HO_203000.out BK202.out (by decide)) e_) e_) (fun e_ => (fun e_ => (Kd.R_ne HO_203004.out BK202.out (by decide)) e_) e_))); have HO208 := ak (Kd.R_mono (ok' := fun k_ => True) ho0 (fun k_ hk_ => trivial)); have HO214 := ak (Kd.R_mono (ok' := fun k_ => True) ho1 (fun k_ hk_ => trivial)); replace HB := ak (hb); clear HO_203000 HO_203004; (try clear hb); (try clear hkp); (try clear ho0); (try clear ho1)) | ((with_reducible refine gate_dst (N := 15) rfl ?_); (try (refine gate_guard (by rfl) ?_; dsimp only)); refine boxev 15 #[.slice none 0 0, .int .i64 0, .int .i64 0, .int .i64 0, .slice none 0 0] 27 ?_; intro gb216 hg w26 hbox hb; replace HO_10 := ak (Kd.S_below (sd HO_10) hb); replace HO208 := ak (Kd.R_below (rdl HO208) hb); replace HO214 := ak (Kd.R_below (rdl HO214) hb); have BK216 := ak (hbox); have GW216 := ak (hgl hg (belowg1 HB GE202)); have GE216 := ak (hgl hg (belowg1 HB GE202)); replace HB := ak (below_step (belowg1 HB GE202) hb); have NB202_216 := ak ((by rw [hg]; exact Nat.ne_of_lt (blk_lt (blkd BK202)) : gb202 ≠ gb216)); have NB216_202 := ak ((by rw [hg]; exact Nat.ne_of_gt (blk_lt (blkd BK202)) : gb216 ≠ gb202)); replace BK202 := ak (blk_below (blkd BK202) hb); clear hb hbox hg; obtain ⟨Ao27, co27, eo27⟩ := Kd.R_slice HO208.out; subst eo27; have hnb28 := NB216_202.out; have hnc28 := NB202_216.out; obtain ⟨hcz29_0, hcz29_1, hcz29_2, hcz29_3, hcz29_4, hfz29_0, hfz29_1, hfz29_2, hfz29_3, hfz29_4⟩ := box5 BK216; obtain ⟨Ao30, co30, eo30⟩ := Kd.R_slice HO214.out; subst eo30; obtain ⟨hcz31_0, hcz31_1, hcz31_2, hcz31_3, hcz31_4, hfz31_0, hfz31_1, hfz31_2, hfz31_3, hfz31_4⟩ := box5 BK202))
           go_roundg k3
           case measure => have := HJ4.out; have := HK2.out; have := HK3.out; omega
           case rel => exact ⟨(wrap64 (x43_3 + 1)), (t206), (t209), (t210), (t211), (t212), (.slice Ao27 t206.length co27), (.slice Ao30 t212.length co30), er, H', ⟨by have := HJ4.out; have := HK2.out; have := HK3.out; omega⟩, ⟨by (with_reducible repeat (first | apply Kd.S_alloc | apply Kd.S_drewN | apply Kd.S_drew)); exact Kd.S_mono (farsS (Kd.S_types (Kd.S_types HO_10.out BK216.out (by decide)) BK202.out (by decide))) (fun _ hk => hk.1.1)⟩, ⟨by (with_reducible repeat (first | apply Kd.R_alloc | apply Kd.R_drewN | apply Kd.R_drew)); exact Kd.R_mono (farsR (Kd.R_types (Kd.R_types HO208.out BK216.out (by decide)) BK202.out (by decide))) (fun _ hk => trivial)⟩, ⟨by (with_reducible repeat (first | apply Kd.R_alloc | apply Kd.R_drewN | apply Kd.R_drew)); exact Kd.R_mono (farsR (Kd.R_types (Kd.R_types HO214.out BK216.out (by decide)) BK202.out (by decide))) (fun _ hk => trivial)⟩, ⟨by (with_reducible repeat (first | refine blk_drewN ?_ _ | refine blk_drew ?_ | refine blk_alloc ?_ _)); refine blk_put (cs := #[.slice Ao27 t206.length co27, .int .i64 t209, .int .i64 t210, .int .i64 t211, .slice Ao24 x203004_3.length co24]) ?_ 4 _ rfl; (with_reducible repeat (first | refine blk_drewN ?_ _ | refine blk_drew ?_ | refine blk_alloc ?_ _)); refine blk_put (cs := #[.slice Ao27 t206.length co27, .int .i64 t209, .int .i64 t210, .int .i64 x203003_3, .slice Ao24 x203004_3.length co24]) ?_ 3 _ rfl; (with_reducible repeat (first | refine blk_drewN ?_ _ | refine blk_drew ?_ | refine blk_alloc ?_ _)); refine blk_put (cs := #[.slice Ao27 t206.length co27, .int .i64 t209, .int .i64 x203002_3, .int .i64 x203003_3, .slice Ao24 x203004_3.length co24]) ?_ 2 _ rfl; (with_reducible repeat (first | refine blk_drewN ?_ _ | refine blk_drew ?_ | refine blk_alloc ?_ _)); refine blk_put (cs := #[.slice Ao27 t206.length co27, .int .i64 x203001_3, .int .i64 x203002_3, .int .i64 x203003_3, .slice Ao24 x203004_3.length co24]) ?_ 1 _ rfl; (with_reducible repeat (first | refine blk_drewN ?_ _ | refine blk_drew ?_ | refine blk_alloc ?_ _)); refine blk_put (cs := #[.slice Ao23 x203000_3.length co23, .int .i64 x203001_3, .int .i64 x203002_3, .int .i64 x203003_3, .slice Ao24 x203004_3.length co24]) ?_ 0 _ rfl; (with_reducible repeat (first | refine blk_drewN ?_ _ | refine blk_drew ?_ | refine blk_alloc ?_ _)); refine blk_far ?_ NB202_216.out _; (with_reducible repeat (first | refine blk_drewN ?_ _ | refine blk_drew ?_ | refine blk_alloc ?_ _)); refine blk_far ?_ NB202_216.out _; (with_reducible repeat (first | refine blk_drewN ?_ _ | refine blk_drew ?_ | refine blk_alloc ?_ _)); refine blk_far ?_ NB202_216.out _; (with_reducible repeat (first | refine blk_drewN ?_ _ | refine blk_drew ?_ | refine blk_alloc ?_ _)); refine blk_far ?_ NB202_216.out _; (with_reducible repeat (first | refine blk_drewN ?_ _ | refine blk_drew ?_ | refine blk_alloc ?_ _)); refine blk_far ?_ NB202_216.out _; (with_reducible repeat (first | refine blk_drewN ?_ _ | refine blk_drew ?_ | refine blk_alloc ?_ _)); exact BK202.out⟩, ⟨belowg2 HB GE202 GE216⟩⟩
          ·rw [if_neg c18] at H
           have c18b0 : decide (x43_3 < ((rd_L2 l2 x34_2).length : Int)) = false := decide_eq_false c18
           clear c18; replace H := bS H; obtain ⟨⟨t217, t220, t221, t222, t223, t226⟩, A32, H⟩ := H
           replace H : ((some (([] : List ByteArray) : List ByteArray)).bind fun y230 => (if y230.length + t226.length < 8796093022208 then (if x10_2.length < 5864062014805 then (spec_PlayMix.l0 k3 (x10_2 ++ [(y230 ++ t226)]) l2 (l2.length : Int) (wrap64 (x34_2 + 1)) t217 t220 t221 t222 t223) else (none)) else (none))) = some (r1, r2) := H
           obtain ⟨y230, hy_⟩ : ∃ y_ : List ByteArray, y_ = (([] : List ByteArray)) := ⟨_, rfl⟩
           replace H : (if y230.length + t226.length < 8796093022208 then (if x10_2.length < 5864062014805 then (spec_PlayMix.l0 k3 (x10_2 ++ [(y230 ++ t226)]) l2 (l2.length : Int) (wrap64 (x34_2 + 1)) t217 t220 t221 t222 t223) else (none)) else (none)) = some (r1, r2) := yH
           have Ny230 := ak hy_; clear hy_; replace H := ifS H; obtain ⟨c33, H⟩ := H; have LMc33 := Aside0.mk c33; clear c33
           obtain ⟨y233, hy_⟩ : ∃ y_ : List ByteArray, y_ = (y230 ++ t226) := ⟨_, rfl⟩
           replace H : (if x10_2.length < 5864062014805 then (spec_PlayMix.l0 k3 (x10_2 ++ [y233]) l2 (l2.length : Int) (wrap64 (x34_2 + 1)) t217 t220 t221 t222 t223) else (none)) = some (r1, r2) := yH
           have Ny233 := ak hy_; clear hy_; replace H := ifS H; obtain ⟨c34, H⟩ := H; have LMc34 := Aside0.mk c34; clear c34
           obtain ⟨y236, hy_⟩ : ∃ y_ : List (List ByteArray), y_ = (x10_2 ++ [y233]) := ⟨_, rfl⟩
           replace H : (spec_PlayMix.l0 k3 y236 l2 (l2.length : Int) (wrap64 (x34_2 + 1)) t217 t220 t221 t222 t223) = some (r1, r2) := yH
           have Ny236 := ak hy_; clear hy_
           have H' := Aside0.mk H
           clear H; obtain ⟨hcz35_0, hcz35_1, hcz35_2, hcz35_3, hcz35_4, hfz35_0, hfz35_1, hfz35_2, hfz35_3, hfz35_4⟩ := box5 BK202
           obtain ⟨Ao36, co36, eo36⟩ := Kd.R_slice HO_203000.out
           subst eo36
           obtain ⟨Ao37, co37, eo37⟩ := Kd.R_slice HO_203004.out
           subst eo37
           go_wp2_with (first | ((with_reducible refine gate_callee (f := 112) rfl ?_); refine goesLa (some 57) rfl Try.func112 #[.agg #[.slice Ao36 x203000_3.length co36, .int .i64 x203001_3, .int .i64 x203002_3, .int .i64 x203003_3, .slice Ao37 x203004_3.length co37]] rfl ?_; (with_reducible refine (spec_l8Tick.calls (fun k_ => some k_ = (.slice Ao36 x203000_3.length co36 : Value).ownBlock) (.slice Ao36 x203000_3.length co36) x203000_3 x203001_3 x203002_3 x203003_3 (fun k_ => some k_ = (.slice Ao37 x203004_3.length co37 : Value).ownBlock) (.slice Ao37 x203004_3.length co37) x203004_3 t217 t220 t221 t222 t223 t226 w _ ?side1 ?side2 ?side3 A32.out).mono ?_); (case side1 => repeat (first | (with_reducible first | exact HB.out | apply below_alloc | apply pw_below_drewN | apply below_drew1 | refine below_set ?_ GE202.out) | exact HB.out)); (case side2 => exact Kd.R_tight rfl HO_203000.out); (case side3 => exact Kd.R_tight rfl HO_203004.out); rintro e w38 ⟨v218, v224, v227, rfl, ho0, ho1, ho2, hb, hkp⟩; refine ⟨_, rfl, ?_⟩; replace HO_10 := ak (Kd.S_mono (ok' := fun k_ => some k_ ≠ (v218 : Value).ownBlock ∧ some k_ ≠ (v227 : Value).ownBlock) (Kd.S_keptB ((Kd.S_apart' HO_10.out (Kd.R_typed HO_203004.out) (by decide))) hkp (fun k_ hk_ hs_ => Or.elim hs_ (fun e_ => (hk_.1) e_) (fun e_ => (hk_.2) e_))) (fun k_ hk_ => ⟨fun e_ => Or.elim (ho0.1 k_ e_.symm).1 (fun hs_ => hk_.2.1 hs_) (fun hn_ => Nat.not_le.2 hk_.2.2 hn_), fun e_ => Or.elim (ho2.1 k_ e_.symm).1 (fun hs_ => hk_.2.1 hs_) (fun hn_ => Nat.not_le.2 hk_.2.2 hn_)⟩)); replace BK202 := ak (blk_kept (blkd BK202) hkp (fun hs_ => Or.elim hs_ (fun e_ => (fun e_ => (Kd.R_ne HO_203000.out BK202.out (by decide)) e_) e_) (fun e_ => (fun e_ => (Kd.R_ne HO_203004.out BK202.out (by decide)) e_) e_))); have HO219 := ak (Kd.R_mono (ok' := fun k_ => some k_ ≠ (v227 : Value).ownBlock) ho0 (fun k_ hk_ => hk_.2)); have HO225 := ak (Kd.R_mono (ok' := fun k_ => True) ho1 (fun k_ hk_ => trivial)); have HO228 := ak (Kd.R_mono (ok' := fun k_ => some k_ ≠ (v218 : Value).ownBlock) ho2 (fun k_ hk_ => hk_.2)); replace HB := ak (hb); clear HO_203000 HO_203004; (try clear hb); (try clear hkp); (try clear ho0); (try clear ho1); (try clear ho2)) | ((with_reducible refine gate_dst (N := 17) rfl ?_); (try (refine gate_guard (by rfl) ?_; dsimp only)); refine boxev 17 #[.slice none 0 0, .int .i64 0, .int .i64 0, .int .i64 0, .slice none 0 0] 27 ?_; intro gb229 hg w39 hbox hb; replace HO_10 := ak (Kd.S_below (sd HO_10) hb); replace HO219 := ak (Kd.R_below (rdl HO219) hb); replace HO225 := ak (Kd.R_below (rdl HO225) hb); replace HO228 := ak (Kd.R_below (rdl HO228) hb); have BK229 := ak (hbox); have GW229 := ak (hgl hg (belowg1 HB GE202)); have GE229 := ak (hgl hg (belowg1 HB GE202)); replace HB := ak (below_step (belowg1 HB GE202) hb); have NB202_229 := ak ((by rw [hg]; exact Nat.ne_of_lt (blk_lt (blkd BK202)) : gb202 ≠ gb229)); have NB229_202 := ak ((by rw [hg]; exact Nat.ne_of_gt (blk_lt (blkd BK202)) : gb229 ≠ gb202)); replace BK202 := ak (blk_below (blkd BK202) hb); clear hb hbox hg; obtain ⟨Ao40, co40, eo40⟩ := Kd.R_slice HO219.out; subst eo40; have hnb41 := NB229_202.out; have hnc41 := NB202_229.out; obtain ⟨hcz42_0, hcz42_1, hcz42_2, hcz42_3, hcz42_4, hfz42_0, hfz42_1, hfz42_2, hfz42_3, hfz42_4⟩ := box5 BK229; obtain ⟨Ao43, co43, eo43⟩ := Kd.R_slice HO225.out; subst eo43; obtain ⟨hcz44_0, hcz44_1, hcz44_2, hcz44_3, hcz44_4, hfz44_0, hfz44_1, hfz44_2, hfz44_3, hfz44_4⟩ := box5 BK202) | ((with_reducible refine gate_dst (N := 62) rfl ?_); (try (refine gate_guard (by rfl) ?_; dsimp only)); refine Kd.R_lit Kd.string _ 9 ?hg (N := 62) ?hd (xs := ([] : List ByteArray)) (inner := []) (ok := fun _ => True) (okp := fun _ => True) ?hr ?hp (fun _ hk => hk) trivial (Below.refl _ _) (Nat.le_refl _) (by simp) ?_; (case hd => rfl); (case hg => rfl); (case hr => first | (go_simp; done) | (go_simp; rfl)); (case hp => exact (Reps.none _ _)); intro v231 w45 ho46 hb hg_ hnew_; clear hg_ hnew_; (first | rw [← Ny230.out] at ho46 | (simp only [Int.reduceToNat] at ho46; rw [← Ny230.out] at ho46)); replace HO_10 := ak (Kd.S_elder' (by (with_reducible repeat (first | apply Kd.S_alloc | apply Kd.S_drewN | apply Kd.S_drew)); exact (Kd.S_mono (Kd.S_mono (farsS (Kd.S_types (Kd.S_types HO_10.out BK229.out (by decide)) BK202.out (by decide))) (fun _ h_ => h_.1)) (fun _ h_ => h_.1))) (Kd.R_base ho46) hb); replace HO225 := ak (Kd.R_below (by (with_reducible repeat (first | apply Kd.R_alloc | apply Kd.R_drewN | apply Kd.R_drew)); exact (Kd.R_mono (Kd.R_mono (farsR (Kd.R_types (Kd.R_types HO225.out BK229.out (by decide)) BK202.out (by decide))) (fun _ h_ => h_.1)) (fun _ h_ => h_.1))) hb); have HO232 := ak (Kd.R_lower (Kd.R_new' (Kd.R_new' ho46 (Kd.R_lt (by (with_reducible repeat (first | apply Kd.R_alloc | apply Kd.R_drewN | apply Kd.R_drew)); exact (Kd.R_mono (Kd.R_mono (farsR (Kd.R_types (Kd.R_types HO219.out BK229.out (by decide)) BK202.out (by decide))) (fun _ h_ => h_.1)) (fun _ h_ => h_.1))))) (Kd.R_lt (by (with_reducible repeat (first | apply Kd.R_alloc | apply Kd.R_drewN | apply Kd.R_drew)); exact (Kd.R_mono (Kd.R_mono (farsR (Kd.R_types (Kd.R_types HO228.out BK229.out (by decide)) BK202.out (by decide))) (fun _ h_ => h_.1)) (fun _ h_ => h_.1))))) (below_size (belowg2 HB GE202 GE229))); replace HO219 := ak (Kd.R_elder' (by (with_reducible repeat (first | apply Kd.R_alloc | apply Kd.R_drewN | apply Kd.R_drew)); exact (Kd.R_mono (Kd.R_mono (farsR (Kd.R_types (Kd.R_types HO219.out BK229.out (by decide)) BK202.out (by decide))) (fun _ h_ => h_.1)) (fun _ h_ => h_.1))) (Kd.R_base ho46) hb); replace HO228 := ak (Kd.R_elder' (by (with_reducible repeat (first | apply Kd.R_alloc | apply Kd.R_drewN | apply Kd.R_drew)); exact (Kd.R_mono (Kd.R_mono (farsR (Kd.R_types (Kd.R_types HO228.out BK229.out (by decide)) BK202.out (by decide))) (fun _ h_ => h_.1)) (fun _ h_ => h_.1))) (Kd.R_base ho46) hb); replace BK202 := ak (blk_below (g := gb202) (o := .cells #[.slice Ao40 t217.length co40, .int .i64 t220, .int .i64 t221, .int .i64 t222, .slice Ao43 t223.length co43] 27 (0, 0)) (by (with_reducible repeat (first | refine blk_drewN ?_ _ | refine blk_drew ?_ | refine blk_alloc ?_ _)); refine blk_put (cs := #[.slice Ao40 t217.length co40, .int .i64 t220, .int .i64 t221, .int .i64 t222, .slice Ao37 x203004_3.length co37]) ?_ 4 _ rfl; (with_reducible repeat (first | refine blk_drewN ?_ _ | refine blk_drew ?_ | refine blk_alloc ?_ _)); refine blk_put (cs := #[.slice Ao40 t217.length co40, .int .i64 t220, .int .i64 t221, .int .i64 x203003_3, .slice Ao37 x203004_3.length co37]) ?_ 3 _ rfl; (with_reducible repeat (first | refine blk_drewN ?_ _ | refine blk_drew ?_ | refine blk_alloc ?_ _)); refine blk_put (cs := #[.slice Ao40 t217.length co40, .int .i64 t220, .int .i64 x203002_3, .int .i64 x203003_3, .slice Ao37 x203004_3.length co37]) ?_ 2 _ rfl; (with_reducible repeat (first | refine blk_drewN ?_ _ | refine blk_drew ?_ | refine blk_alloc ?_ _)); refine blk_put (cs := #[.slice Ao40 t217.length co40, .int .i64 x203001_3, .int .i64 x203002_3, .int .i64 x203003_3, .slice Ao37 x203004_3.length co37]) ?_ 1 _ rfl; (with_reducible repeat (first | refine blk_drewN ?_ _ | refine blk_drew ?_ | refine blk_alloc ?_ _)); refine blk_put (cs := #[.slice Ao36 x203000_3.length co36, .int .i64 x203001_3, .int .i64 x203002_3, .int .i64 x203003_3, .slice Ao37 x203004_3.length co37]) ?_ 0 _ rfl; (with_reducible repeat (first | refine blk_drewN ?_ _ | refine blk_drew ?_ | refine blk_alloc ?_ _)); refine blk_far ?_ NB202_229.out _; (with_reducible repeat (first | refine blk_drewN ?_ _ | refine blk_drew ?_ | refine blk_alloc ?_ _)); refine blk_far ?_ NB202_229.out _; (with_reducible repeat (first | refine blk_drewN ?_ _ | refine blk_drew ?_ | refine blk_alloc ?_ _)); refine blk_far ?_ NB202_229.out _; (with_reducible repeat (first | refine blk_drewN ?_ _ | refine blk_drew ?_ | refine blk_alloc ?_ _)); refine blk_far ?_ NB202_229.out _; (with_reducible repeat (first | refine blk_drewN ?_ _ | refine blk_drew ?_ | refine blk_alloc ?_ _)); refine blk_far ?_ NB202_229.out _; (with_reducible repeat (first | refine blk_drewN ?_ _ | refine blk_drew ?_ | refine blk_alloc ?_ _)); exact BK202.out) hb); replace BK229 := ak (blk_below (g := gb229) (o := .cells #[.slice Ao40 t217.length co40, .int .i64 t220, .int .i64 t221, .int .i64 t222, .slice Ao43 t223.length co43] 27 (0, 0)) (by (with_reducible repeat (first | refine blk_drewN ?_ _ | refine blk_drew ?_ | refine blk_alloc ?_ _)); refine blk_far ?_ NB229_202.out _; (with_reducible repeat (first | refine blk_drewN ?_ _ | refine blk_drew ?_ | refine blk_alloc ?_ _)); refine blk_far ?_ NB229_202.out _; (with_reducible repeat (first | refine blk_drewN ?_ _ | refine blk_drew ?_ | refine blk_alloc ?_ _)); refine blk_far ?_ NB229_202.out _; (with_reducible repeat (first | refine blk_drewN ?_ _ | refine blk_drew ?_ | refine blk_alloc ?_ _)); refine blk_far ?_ NB229_202.out _; (with_reducible repeat (first | refine blk_drewN ?_ _ | refine blk_drew ?_ | refine blk_alloc ?_ _)); refine blk_far ?_ NB229_202.out _; (with_reducible repeat (first | refine blk_drewN ?_ _ | refine blk_drew ?_ | refine blk_alloc ?_ _)); refine blk_put (cs := #[.slice Ao40 t217.length co40, .int .i64 t220, .int .i64 t221, .int .i64 t222, .slice none 0 0]) ?_ 4 _ rfl; (with_reducible repeat (first | refine blk_drewN ?_ _ | refine blk_drew ?_ | refine blk_alloc ?_ _)); refine blk_put (cs := #[.slice Ao40 t217.length co40, .int .i64 t220, .int .i64 t221, .int .i64 0, .slice none 0 0]) ?_ 3 _ rfl; (with_reducible repeat (first | refine blk_drewN ?_ _ | refine blk_drew ?_ | refine blk_alloc ?_ _)); refine blk_put (cs := #[.slice Ao40 t217.length co40, .int .i64 t220, .int .i64 0, .int .i64 0, .slice none 0 0]) ?_ 2 _ rfl; (with_reducible repeat (first | refine blk_drewN ?_ _ | refine blk_drew ?_ | refine blk_alloc ?_ _)); refine blk_put (cs := #[.slice Ao40 t217.length co40, .int .i64 0, .int .i64 0, .int .i64 0, .slice none 0 0]) ?_ 1 _ rfl; (with_reducible repeat (first | refine blk_drewN ?_ _ | refine blk_drew ?_ | refine blk_alloc ?_ _)); refine blk_put (cs := #[.slice none 0 0, .int .i64 0, .int .i64 0, .int .i64 0, .slice none 0 0]) ?_ 0 _ rfl; (with_reducible repeat (first | refine blk_drewN ?_ _ | refine blk_drew ?_ | refine blk_alloc ?_ _)); exact BK229.out) hb); replace HB := ak (below_step (belowg2 HB GE202 GE229) hb); clear hb ho46; obtain ⟨Ao48, co48, eo48⟩ := Kd.R_slice HO228.out; subst eo48) | ((with_reducible refine gate_builtin (b := .append) (xs := #[.tmp 62, .tmp 63]) rfl ?_); (try (refine gate_guard (by rfl) ?_; dsimp only)); at_builtin; refine Kd.R_append_rows Kd.string (w0 := w) w.heap.size rfl (.tmp 62) (.tmp 63) 22 9 (.string ⟨#[]⟩) 16 rfl Try.underlying22 info9 rfl (by decide) (by omega) v231 y230 t226 _ _ _ (fun k_ => some k_ ≠ (.slice Ao40 t217.length co40 : Value).ownBlock ∧ some k_ ≠ (.slice Ao48 t226.length co48 : Value).ownBlock) (fun _ => False) rfl rfl ?aO ?aR (fun _ _ h => h) (fun _ h => h.elim) ?aF ?aB ?aS ?aL ?_; (case aR => exact cd (Kd.R_reads' HO228.out).2.2); (case aB => exact (belowg2 HB GE202 GE229)); (case aF => exact (fun k_ hk => ⟨Kd.fresh' (Kd.R_lt (rdl HO219)) k_ hk, Kd.fresh' (Kd.R_lt (rdl HO228)) k_ hk⟩)); (case aO => exact (by (with_reducible repeat (first | apply Kd.R_alloc | apply Kd.R_drewN | apply Kd.R_drew)); exact Kd.R_mono HO232.out (fun _ hk => ⟨hk.1.2, hk.2⟩))); (case aS => exact (below_size (belowg2 HB GE202 GE229))); (case aL => have := LMc33.out; omega); intro v234 w47 ho hb hg hat; rw [← Ny233.out] at ho; replace HO_10 := ak (Kd.S_after (ok := (fun k_ => some k_ ≠ (.slice Ao40 t217.length co40 : Value).ownBlock ∧ some k_ ≠ (.slice Ao48 t226.length co48 : Value).ownBlock)) (sd HO_10) hg hat); replace BK202 := ak (blk_grown (blkd BK202) hg (Kd.R_ne HO232.out BK202.out (by decide))); replace HO219 := ak (Kd.R_after (ok := (fun k_ => some k_ ≠ (.slice Ao48 t226.length co48 : Value).ownBlock)) (rdl HO219) hg hat); replace HO225 := ak (Kd.R_over' (rdl HO225) (Kd.R_typed (rdl HO232)) (by decide) hg); replace HO228 := ak (Kd.R_after (ok := (fun k_ => some k_ ≠ (.slice Ao40 t217.length co40 : Value).ownBlock)) (rdl HO228) hg hat); replace BK229 := ak (blk_grown (blkd BK229) hg (Kd.R_ne HO232.out BK229.out (by decide))); replace HB := ak (hb); have HO235 := ak (ho); clear HO232; clear ho hb hg hat; obtain ⟨Ao50, co50, eo50⟩ := Kd.R_slice HO235.out; subst eo50) | ((with_reducible refine gate_builtin (b := .append) (xs := #[.tmp 61, .tmp 65]) rfl ?_); (try (refine gate_guard (by rfl) ?_; dsimp only)); at_builtin; refine Kd.S_append (Kd.slice 9 Kd.string) (w0 := w) w.heap.size rfl (.tmp 61) (.tmp 65) 34 22 (.slice none 0 0) 24 rfl Try.underlying34 info22 rfl (by decide) (by omega) u10 x10_2 y233 [.slice Ao50 y233.length co50] (fun k_ => some k_ ≠ (.slice Ao40 t217.length co40 : Value).ownBlock ∧ some k_ ≠ (.slice Ao48 t226.length co48 : Value).ownBlock) (fun k_ => some k_ = (.slice Ao50 y233.length co50 : Value).ownBlock) rfl rfl ?aP (fun k_ hk_ => ((Kd.R_mono (ok' := fun k_ => ((fun k_ => some k_ ≠ (.slice Ao40 t217.length co40 : Value).ownBlock ∧ some k_ ≠ (.slice Ao48 t226.length co48 : Value).ownBlock)) k_ ∧ some k_ ≠ (u10 : Value).ownBlock) (Kd.R_apart' (HO235.out) (Kd.S_typed HO_10.out) (by decide)) (fun k_ hk => ⟨⟨hk.1.1, hk.1.2⟩, hk.2⟩))).1 k_ hk_.symm) ?aF ?aO ?aB ?aS ?aL ?_; (case aP => exact Kd.M_row (Kd.R_mono (Kd.R_tight rfl (Kd.R_mono (ok' := fun k_ => ((fun k_ => some k_ ≠ (.slice Ao40 t217.length co40 : Value).ownBlock ∧ some k_ ≠ (.slice Ao48 t226.length co48 : Value).ownBlock)) k_ ∧ some k_ ≠ (u10 : Value).ownBlock) (Kd.R_apart' (HO235.out) (Kd.S_typed HO_10.out) (by decide)) (fun k_ hk => ⟨⟨hk.1.1, hk.1.2⟩, hk.2⟩))) (fun _ h_ => h_))); (case aB => exact (belowg2 HB GE202 GE229)); (case aF => exact (fun k_ hk => ⟨Kd.fresh' (Kd.R_lt (rdl HO219)) k_ hk, Kd.fresh' (Kd.R_lt (rdl HO228)) k_ hk⟩)); (case aO => exact (by (with_reducible repeat (first | apply Kd.S_alloc | apply Kd.S_drewN | apply Kd.S_drew)); exact Kd.S_mono HO_10.out (fun k_ hk => ⟨⟨hk.1.1, hk.1.2⟩, fun e_ => hk.2 e_⟩))); (case aS => exact (below_size (belowg2 HB GE202 GE229))); (case aL => have := LMc34.out; omega); intro v237 w49 ho hb hg hat; rw [← Ny236.out] at ho; replace BK202 := ak (blk_grown (blkd BK202) hg (Kd.S_ne HO_10.out BK202.out (by decide))); replace HO219 := ak (Kd.R_over' (rdl HO219) (Kd.S_typed (sd HO_10)) (by decide) hg); replace HO225 := ak (Kd.R_over' (rdl HO225) (Kd.S_typed (sd HO_10)) (by decide) hg); replace HO228 := ak (Kd.R_over' (rdl HO228) (Kd.S_typed (sd HO_10)) (by decide) hg); replace BK229 := ak (blk_grown (blkd BK229) hg (Kd.S_ne HO_10.out BK229.out (by decide))); replace HB := ak (hb); have HO238 := ak (ho); clear HO_10 HO235; clear ho hb hg hat))
           go_roundg k3
           case measure => have := HJ4.out; have := HK2.out; have := HK3.out; omega
           case rel => exact ⟨(y236), (wrap64 (x34_2 + 1)), (t217), (t220), (t221), (t222), (t223), (.slice Ao40 t217.length co40), (.slice Ao43 t223.length co43), er, H', ⟨by have := HJ4.out; have := HK2.out; have := HK3.out; omega⟩, ⟨by (with_reducible repeat (first | apply Kd.S_alloc | apply Kd.S_drewN | apply Kd.S_drew)); exact Kd.S_mono HO238.out (fun _ hk => hk.1)⟩, ⟨by (with_reducible repeat (first | apply Kd.R_alloc | apply Kd.R_drewN | apply Kd.R_drew)); exact Kd.R_mono HO219.out (fun _ hk => trivial)⟩, ⟨rdl HO225⟩, ⟨blkd BK202⟩, ⟨belowg2 HB GE202 GE229⟩⟩
       ·replace c17 := Bool.eq_false_iff.mpr c17
        subst c17
        have H1 : (some (([] : List (List ByteArray)), false)) = some (r1, r2) := by rw [if_neg (show ¬ (false = true) by decide)] at H; exact H
        clear H
        have H := H1
        clear H1
        simp only [Option.some.injEq, Prod.mk.injEq] at H
        obtain ⟨rfl, rfl⟩ := H
        have p203 : 0 ≤ (x34_2 : Int) := da
        have q203 : x34_2 < (l2.length : Int) := da
        obtain ⟨ad203, A203_0, c203_0, e203, hx203_0, hl203_0, hi203_0⟩ := at_L2 HR2.out x34_2 p203 q203
        cases e203
        replace hx203_0 := (HB.out.cell (World.block_lt_of_cell? w _ hx203_0)).trans hx203_0
        have HR203_0 := Aside0.mk hi203_0; have HC203_0 := Aside0.mk hl203_0; clear hi203_0 hl203_0; replace p203 := eq_true p203; replace q203 := eq_true q203
        go_wp2_with (first | ((with_reducible refine gate_callee (f := 111) rfl ?_); refine goesLa (some 39) rfl Try.func111 #[.slice A203_0 (rd_L2 l2 x34_2).length c203_0] rfl ?_; (with_reducible refine (spec_l8Pool.calls k2 _ _ (rd_L2 l2 x34_2) false _ ?side1 ?side2 A16.out).mono ?_); (case side1 => exact cd (Kd.C_below HR203_0.out HB.out)); (case side2 => exact HC203_0.out); rintro e w' ⟨rfl, ⟨nd, rfl⟩⟩; refine ⟨_, rfl, ?_⟩))
        go_ret2
        exact ⟨_, er2, by first | exact Kd.S_nil _ _ _ _ _ | exact Kd.N_nil _ _ _ _ _ | exact Kd.V_nil _ _ _ _ _ | exact Kd.Q_nil _ _ _ _ _ | exact Kd.R_nil _ _ _ _ _, belowg1 HB GE202⟩
      ·rw [if_neg c13] at H
       have c13b0 : decide (x34_2 < (l2.length : Int)) = false := decide_eq_false c13
       clear c13
       simp only [Option.some.injEq, Prod.mk.injEq] at H
       obtain ⟨rfl, rfl⟩ := H; go_wp2
       go_ret2
       exact ⟨_, er2, by (with_reducible repeat (first | apply Kd.S_alloc | apply Kd.S_drewN | apply Kd.S_drew)); exact Kd.S_mono HO_10.out (fun _ hk => trivial), belowg1 HB GE202⟩

/-! ### impl_tag: function 102 -/
def impl_tag.l0 : Nat → ByteArray → Int → Int → Int → Option (Int)
  | 0, _, _, _, _ => none
  | k + 1, x0, x3, x6, x7 => if x7 < x6 then (if 0 ≤ x7 then (if x7 < (x0.size : Int) then (impl_tag.l0 k x0 (Int.tmod (wrap64 ((wrap64 ((wrap64 (x3 * 257)) + (wrap64 (bt x0 x7)))) + 1)) 4093) x6 (wrap64 (x7 + 1))) else (none)) else (none)) else (some x3)
def impl_tag.f (k : Nat) (a0 : ByteArray) : Option (Int) := impl_tag.l0 k a0 0 (a0.size : Int) 0
theorem impl_tag.mono_l : ∀ k, (∀ y0 y1 y2 y3, LeO (impl_tag.l0 k y0 y1 y2 y3) (impl_tag.l0 (k + 1) y0 y1 y2 y3))
 | 0 => fun _ _ _ _ r h => by simp [impl_tag.l0] at h
 | k + 1 => by
  have ih0 := impl_tag.mono_l k
  ·intro y0 y1 y2 y3
   unfold impl_tag.l0
   repeat' (first | (with_reducible first | exact ih0 _ _ _ _ | exact LeO.refl _ | exact LeO.none _ | refine LeO.ite ?_ ?_ | refine LeO.bind ?_ (fun _ => ?_)) | exact ih0 _ _ _ _ | exact LeO.none _ | refine LeO.ite ?_ ?_ | refine LeO.bind ?_ (fun _ => ?_))
theorem impl_tag.mono : ∀ a0 k, LeO (impl_tag.f k a0) (impl_tag.f (k + 1) a0) := by
 intro a0 k
 have ih0 := impl_tag.mono_l k
 unfold impl_tag.f
 repeat' (first | (with_reducible first | exact ih0 _ _ _ _ | exact LeO.refl _ | exact LeO.none _ | refine LeO.ite ?_ ?_ | refine LeO.bind ?_ (fun _ => ?_)) | exact ih0 _ _ _ _ | exact LeO.none _ | refine LeO.ite ?_ ?_ | refine LeO.bind ?_ (fun _ => ?_))
set_option maxHeartbeats 8000000 in
set_option maxRecDepth 100000 in
theorem impl_tag.calls (k : Nat) (a0 : ByteArray) (r : Int) (w : World) (h : impl_tag.f k a0 = some r) :
  Calls Try.prog 102 #[.string a0] w fun e w' => e = .returned (.int .i64 r) ∧ Drawn0 w w' := by
 have H : (impl_tag.l0 k a0 0 (a0.size : Int) 0) = some r := h
 clear h
 have H' := Aside0.mk H
 clear H
 go_enter Try.func102, Try.ntmps102
 go_wp2
 go_loopg [3, 7] k (fun kq v3 v7 w' => ∃ (x3_1 : Int) (x7_1 : Int), v3 = .int .i64 x3_1 ∧ v7 = .int .i64 x7_1 ∧ Aside0 (impl_tag.l0 kq a0 x3_1 (a0.size : Int) x7_1 = some r) ∧ Aside0 (kq ≤ k) ∧ Drawn0 w w')
 case atStart => exact ⟨(0), (0), er, er, H', ⟨Nat.le_refl _⟩, drw⟩
 case round =>
  clear H'
  obtain ⟨x3_1, x7_1, rfl, rfl, HA, HK1, ⟨m1, rfl⟩⟩ := hrel
  cases gk with
  | zero => exact absurd HA.out (by simp [impl_tag.l0])
  | succ k1 =>
   have H := HA.out; clear HA
   simp only [impl_tag.l0] at H
   by_cases c2 : x7_1 < (a0.size : Int)
   ·rw [if_pos c2] at H
    have c2b0 : decide (x7_1 < (a0.size : Int)) = true := decide_eq_true c2
    clear c2; replace H := ifS H; obtain ⟨c3, H⟩ := H; have c3b0 := decide_eq_true c3; clear c3; replace H := ifS H; obtain ⟨c4, H⟩ := H; have c4b0 := decide_eq_true c4; clear c4
    have H' := Aside0.mk H
    clear H
    have p5 : 0 ≤ (x7_1 : Int) := da
    have q5 : x7_1 < (a0.size : Int) := da
    have hx5 := bt_at a0 x7_1
    replace p5 := eq_true p5; replace q5 := eq_true q5; go_wp2
    go_roundg k1
    case measure => have := HK1.out; omega
    case rel => exact ⟨(Int.tmod (wrap64 ((wrap64 ((wrap64 (x3_1 * 257)) + (wrap64 (bt a0 x7_1)))) + 1)) 4093), (wrap64 (x7_1 + 1)), er, er, H', ⟨by have := HK1.out; omega⟩, drw⟩
   ·rw [if_neg c2] at H
    have c2b0 : decide (x7_1 < (a0.size : Int)) = false := decide_eq_false c2
    clear c2
    obtain rfl := Option.some.inj H
    go_wp2
    go_ret
    exact ⟨er, drw⟩

/-! ### slices_Index_int_int: function 180 -/
def slices_Index_int_int.l0 : Nat → List Int → Int → Int → Int → Option (Int)
  | 0, _, _, _, _ => none
  | k + 1, x0, x1, x7, x8 => if x8 < x7 then (if 0 ≤ x8 then (if x8 < (x0.length : Int) then (if x1 = (rd x0 x8) then (some x8) else (slices_Index_int_int.l0 k x0 x1 x7 (wrap64 (x8 + 1)))) else (none)) else (none)) else (some (-1))
def slices_Index_int_int.f (k : Nat) (l0 : List Int) (a1 : Int) : Option (Int) := slices_Index_int_int.l0 k l0 a1 (l0.length : Int) 0
theorem slices_Index_int_int.mono_l : ∀ k, (∀ y0 y1 y2 y3, LeO (slices_Index_int_int.l0 k y0 y1 y2 y3) (slices_Index_int_int.l0 (k + 1) y0 y1 y2 y3))
 | 0 => fun _ _ _ _ r h => by simp [slices_Index_int_int.l0] at h
 | k + 1 => by
  have ih0 := slices_Index_int_int.mono_l k
  ·intro y0 y1 y2 y3
   unfold slices_Index_int_int.l0
   repeat' (first | (with_reducible first | exact ih0 _ _ _ _ | exact LeO.refl _ | exact LeO.none _ | refine LeO.ite ?_ ?_ | refine LeO.bind ?_ (fun _ => ?_)) | exact ih0 _ _ _ _ | exact LeO.none _ | refine LeO.ite ?_ ?_ | refine LeO.bind ?_ (fun _ => ?_))
theorem slices_Index_int_int.mono : ∀ a0 a1 k, LeO (slices_Index_int_int.f k a0 a1) (slices_Index_int_int.f (k + 1) a0 a1) := by
 intro a0 a1 k
 have ih0 := slices_Index_int_int.mono_l k
 unfold slices_Index_int_int.f
 repeat' (first | (with_reducible first | exact ih0 _ _ _ _ | exact LeO.refl _ | exact LeO.none _ | refine LeO.ite ?_ ?_ | refine LeO.bind ?_ (fun _ => ?_)) | exact ih0 _ _ _ _ | exact LeO.none _ | refine LeO.ite ?_ ?_ | refine LeO.bind ?_ (fun _ => ?_))
set_option maxHeartbeats 8000000 in
set_option maxRecDepth 100000 in
theorem slices_Index_int_int.calls (k : Nat) (A0 : Option Addr) (c0 : Nat) (l0 : List Int) (a1 : Int) (r : Int) (w : World) (hr0 : Kd.C (Kd.int .i64) w A0 l0.length l0) (hc0 : l0.length ≤ c0) (h : slices_Index_int_int.f k l0 a1 = some r) :
  Calls Try.prog 180 #[.slice A0 l0.length c0, .int .i64 a1] w fun e w' => e = .returned (.int .i64 r) ∧ Drawn0 w w' := by
 have HR0 := Aside0.mk hr0; have HC0 := Aside0.mk hc0; clear hr0 hc0
 have H : (slices_Index_int_int.l0 k l0 a1 (l0.length : Int) 0) = some r := h
 clear h
 have H' := Aside0.mk H
 clear H
 go_enter Try.func180, Try.ntmps180
 go_wp2
 go_loopg [8] k (fun kq v8 w' => ∃ (x8_1 : Int), v8 = .int .i64 x8_1 ∧ Aside0 (slices_Index_int_int.l0 kq l0 a1 (l0.length : Int) x8_1 = some r) ∧ Aside0 (kq ≤ k) ∧ Drawn0 w w')
 case atStart => exact ⟨(0), er, H', ⟨Nat.le_refl _⟩, drw⟩
 case round =>
  clear H'
  obtain ⟨x8_1, rfl, HA, HK1, ⟨m1, rfl⟩⟩ := hrel
  cases gk with
  | zero => exact absurd HA.out (by simp [slices_Index_int_int.l0])
  | succ k1 =>
   have H := HA.out; clear HA
   simp only [slices_Index_int_int.l0] at H
   by_cases c3 : x8_1 < (l0.length : Int)
   ·rw [if_pos c3] at H
    have c3b0 : decide (x8_1 < (l0.length : Int)) = true := decide_eq_true c3
    clear c3; replace H := ifS H; obtain ⟨c4, H⟩ := H; have c4b0 := decide_eq_true c4; clear c4; replace H := ifS H; obtain ⟨c5, H⟩ := H; have c5b0 := decide_eq_true c5; clear c5
    by_cases c6 : a1 = (rd l0 x8_1)
    ·rw [if_pos c6] at H
     have c6b0 : (a1 == (rd l0 x8_1)) = true := beq_iff_eq.mpr c6
     have c6b1 : (a1 != (rd l0 x8_1)) = false := bne_eq_false_iff_eq.mpr c6
     clear c6
     obtain rfl := Option.some.inj H
     have p239 : 0 ≤ (x8_1 : Int) := da
     have q239 : x8_1 < (l0.length : Int) := da
     obtain ⟨ad239, e239, hx239_0⟩ := Kd.at_int HR0.out x8_1 p239 q239
     cases e239
     replace p239 := eq_true p239; replace q239 := eq_true q239; go_wp2
     go_ret
     exact ⟨er, drw⟩
    ·rw [if_neg c6] at H
     have c6b0 : (a1 == (rd l0 x8_1)) = false := beq_eq_false_iff_ne.mpr c6
     have c6b1 : (a1 != (rd l0 x8_1)) = true := bne_iff_ne.mpr c6
     have H' := Aside0.mk H
     clear H
     have p239 : 0 ≤ (x8_1 : Int) := da
     have q239 : x8_1 < (l0.length : Int) := da
     obtain ⟨ad239, e239, hx239_0⟩ := Kd.at_int HR0.out x8_1 p239 q239
     cases e239
     replace p239 := eq_true p239; replace q239 := eq_true q239; go_wp2
     go_roundg k1
     case measure => have := HK1.out; omega
     case rel => exact ⟨(wrap64 (x8_1 + 1)), er, H', ⟨by have := HK1.out; omega⟩, drw⟩
   ·rw [if_neg c3] at H
    have c3b0 : decide (x8_1 < (l0.length : Int)) = false := decide_eq_false c3
    clear c3
    obtain rfl := Option.some.inj H
    go_wp2
    go_ret
    exact ⟨er, drw⟩

/-! ### slices_Contains_int_int: function 103 -/
def slices_Contains_int_int.f (k : Nat) (l0 : List Int) (a1 : Int) : Option (Bool) := (slices_Index_int_int.f k l0 a1).bind fun t240 => (some (decide (t240 ≥ 0)))
theorem slices_Contains_int_int.mono : ∀ a0 a1 k, LeO (slices_Contains_int_int.f k a0 a1) (slices_Contains_int_int.f (k + 1) a0 a1) := by
 intro a0 a1 k
 unfold slices_Contains_int_int.f
 repeat' (first | (with_reducible first | exact slices_Index_int_int.mono _ _ _ | exact LeO.refl _ | exact LeO.none _ | refine LeO.ite ?_ ?_ | refine LeO.bind ?_ (fun _ => ?_)) | exact slices_Index_int_int.mono _ _ _ | exact LeO.none _ | refine LeO.ite ?_ ?_ | refine LeO.bind ?_ (fun _ => ?_))
set_option maxHeartbeats 8000000 in
set_option maxRecDepth 100000 in
theorem slices_Contains_int_int.calls (k : Nat) (A0 : Option Addr) (c0 : Nat) (l0 : List Int) (a1 : Int) (r : Bool) (w : World) (hr0 : Kd.C (Kd.int .i64) w A0 l0.length l0) (hc0 : l0.length ≤ c0) (h : slices_Contains_int_int.f k l0 a1 = some r) :
  Calls Try.prog 103 #[.slice A0 l0.length c0, .int .i64 a1] w fun e w' => e = .returned (.bool r) ∧ Drawn0 w w' := by
 have HR0 := Aside0.mk hr0; have HC0 := Aside0.mk hc0; clear hr0 hc0
 have H : ((slices_Index_int_int.f k l0 a1).bind fun t240 => (some (decide (t240 ≥ 0)))) = some r := h
 clear h; replace H := bS H; obtain ⟨t240, A3, H⟩ := H
 replace H : (some (decide (t240 ≥ 0))) = some r := H
 obtain rfl := Option.some.inj H
 go_enter Try.func103, Try.ntmps103
 go_wp2_with (first | ((with_reducible refine gate_callee (f := 180) rfl ?_); refine goesLa (some 7) rfl Try.func180 #[.slice A0 l0.length c0, .int .i64 a1] rfl ?_; (with_reducible refine (slices_Index_int_int.calls k _ _ l0 a1 t240 _ ?side1 ?side2 A3.out).mono ?_); (case side1 => exact cd HR0.out); (case side2 => exact HC0.out); rintro e w' ⟨rfl, ⟨nd, rfl⟩⟩; refine ⟨_, rfl, ?_⟩))
 go_ret
 exact ⟨er, drw⟩

-- NOT PRINTED: function 224 (slices_IndexFunc_string_string)

-- NOT PRINTED: function 187 (slices_ContainsFunc_string_string)

/-! ### impl_isLetter: function 100 -/
def impl_isLetter.f (a0 : ByteArray) : Option (Bool) := some (decide ((a0.size : Int) ≤ 24))
set_option maxHeartbeats 8000000 in
set_option maxRecDepth 100000 in
theorem impl_isLetter.calls (a0 : ByteArray) (r : Bool) (w : World) (h : impl_isLetter.f a0 = some r) :
  Calls Try.prog 100 #[.string a0] w fun e w' => e = .returned (.bool r) ∧ Drawn0 w w' := by
 have H : (some (decide ((a0.size : Int) ≤ 24))) = some r := h
 clear h
 obtain rfl := Option.some.inj H
 go_enter Try.func100, Try.ntmps100
 go_wp2
 go_ret
 exact ⟨er, drw⟩

/-! ### impl_areLetters_1: function 188 -/
def impl_areLetters_1.f (a0 : ByteArray) : Option (Bool) := (impl_isLetter.f a0).bind fun t241 => (some (!t241))
set_option maxHeartbeats 8000000 in
set_option maxRecDepth 100000 in
theorem impl_areLetters_1.calls (a0 : ByteArray) (r : Bool) (w : World) (h : impl_areLetters_1.f a0 = some r) :
  Calls Try.prog 188 #[.string a0] w fun e w' => e = .returned (.bool r) ∧ Drawn0 w w' := by
 have H : ((impl_isLetter.f a0).bind fun t241 => (some (!t241))) = some r := h
 clear h; replace H := bS H; obtain ⟨t241, A2, H⟩ := H
 replace H : (some (!t241)) = some r := H
 obtain rfl := Option.some.inj H
 go_enter Try.func188, Try.ntmps188
 go_wp2_with (first | ((with_reducible refine gate_callee (f := 100) rfl ?_); refine goesLa (some 4) rfl Try.func100 #[.string a0] rfl ?_; (with_reducible refine (impl_isLetter.calls a0 t241 _ A2.out).mono ?_); rintro e w' ⟨rfl, ⟨nd, rfl⟩⟩; refine ⟨_, rfl, ?_⟩))
 go_ret
 exact ⟨er, drw⟩

/-! ### slices_IndexFunc_224_at_188: function 224 -/
def slices_IndexFunc_224_at_188.l0 : Nat → List ByteArray → Int → Int → Option (Int)
  | 0, _, _, _ => none
  | k + 1, x0, x7, x8 => if x8 < x7 then (if 0 ≤ x8 then (if x8 < (x0.length : Int) then ((impl_areLetters_1.f (rdOf ByteArray.empty x0 x8)).bind fun t243 => (if t243 = true then (some x8) else (slices_IndexFunc_224_at_188.l0 k x0 x7 (wrap64 (x8 + 1))))) else (none)) else (none)) else (some (-1))
def slices_IndexFunc_224_at_188.f (k : Nat) (l0 : List ByteArray)  : Option (Int) := slices_IndexFunc_224_at_188.l0 k l0 (l0.length : Int) 0
theorem slices_IndexFunc_224_at_188.mono_l : ∀ k, (∀ y0 y1 y2, LeO (slices_IndexFunc_224_at_188.l0 k y0 y1 y2) (slices_IndexFunc_224_at_188.l0 (k + 1) y0 y1 y2))
 | 0 => fun _ _ _ r h => by simp [slices_IndexFunc_224_at_188.l0] at h
 | k + 1 => by
  have ih0 := slices_IndexFunc_224_at_188.mono_l k
  ·intro y0 y1 y2
   unfold slices_IndexFunc_224_at_188.l0
   repeat' (first | (with_reducible first | exact ih0 _ _ _ | exact LeO.refl _ | exact LeO.none _ | refine LeO.ite ?_ ?_ | refine LeO.bind ?_ (fun _ => ?_)) | exact ih0 _ _ _ | exact LeO.none _ | refine LeO.ite ?_ ?_ | refine LeO.bind ?_ (fun _ => ?_))
theorem slices_IndexFunc_224_at_188.mono : ∀ a0 k, LeO (slices_IndexFunc_224_at_188.f k a0) (slices_IndexFunc_224_at_188.f (k + 1) a0) := by
 intro a0 k
 have ih0 := slices_IndexFunc_224_at_188.mono_l k
 unfold slices_IndexFunc_224_at_188.f
 repeat' (first | (with_reducible first | exact ih0 _ _ _ | exact LeO.refl _ | exact LeO.none _ | refine LeO.ite ?_ ?_ | refine LeO.bind ?_ (fun _ => ?_)) | exact ih0 _ _ _ | exact LeO.none _ | refine LeO.ite ?_ ?_ | refine LeO.bind ?_ (fun _ => ?_))
set_option maxHeartbeats 8000000 in
set_option maxRecDepth 100000 in
theorem slices_IndexFunc_224_at_188.calls (k : Nat) (A0 : Option Addr) (c0 : Nat) (l0 : List ByteArray)  (r : Int) (w : World) (hr0 : Kd.C Kd.string w A0 l0.length l0) (hc0 : l0.length ≤ c0) (h : slices_IndexFunc_224_at_188.f k l0 = some r) :
  Calls Try.prog 224 #[.slice A0 l0.length c0, .func (.func 188) #[] #[]] w fun e w' => e = .returned (.int .i64 r) ∧ Drawn0 w w' := by
 have HR0 := Aside0.mk hr0; have HC0 := Aside0.mk hc0; clear hr0 hc0
 have H : (slices_IndexFunc_224_at_188.l0 k l0 (l0.length : Int) 0) = some r := h
 clear h
 have H' := Aside0.mk H
 clear H
 go_enter Try.func224, Try.ntmps224
 go_wp2
 go_loopg [8] k (fun kq v8 w' => ∃ (x8_1 : Int), v8 = .int .i64 x8_1 ∧ Aside0 (slices_IndexFunc_224_at_188.l0 kq l0 (l0.length : Int) x8_1 = some r) ∧ Aside0 (kq ≤ k) ∧ Drawn0 w w')
 case atStart => exact ⟨(0), er, H', ⟨Nat.le_refl _⟩, drw⟩
 case round =>
  clear H'
  obtain ⟨x8_1, rfl, HA, HK1, ⟨m1, rfl⟩⟩ := hrel
  cases gk with
  | zero => exact absurd HA.out (by simp [slices_IndexFunc_224_at_188.l0])
  | succ k1 =>
   have H := HA.out; clear HA
   simp only [slices_IndexFunc_224_at_188.l0] at H
   by_cases c3 : x8_1 < (l0.length : Int)
   ·rw [if_pos c3] at H
    have c3b0 : decide (x8_1 < (l0.length : Int)) = true := decide_eq_true c3
    clear c3; replace H := ifS H; obtain ⟨c4, H⟩ := H; have c4b0 := decide_eq_true c4; clear c4; replace H := ifS H; obtain ⟨c5, H⟩ := H; have c5b0 := decide_eq_true c5; clear c5; replace H := bS H; obtain ⟨t243, A6, H⟩ := H
    replace H : (if t243 = true then (some x8_1) else (slices_IndexFunc_224_at_188.l0 k1 l0 (l0.length : Int) (wrap64 (x8_1 + 1)))) = some r := H
    by_cases c7 : t243 = true
    ·subst c7
     have H1 : (some x8_1) = some r := by rw [if_pos rfl] at H; exact H
     clear H
     have H := H1
     clear H1
     obtain rfl := Option.some.inj H
     have p242 : 0 ≤ (x8_1 : Int) := da
     have q242 : x8_1 < (l0.length : Int) := da
     obtain ⟨ad242, e242, hx242_0⟩ := Kd.at_string HR0.out x8_1 p242 q242
     cases e242
     replace p242 := eq_true p242; replace q242 := eq_true q242
     go_wp2_with (first | ((with_reducible refine gate_value (f := 188) rfl rfl ?_); refine goesV_ (some 16) rfl rfl Try.func188 (by kernel_rfl) rfl #[.string (rdOf ByteArray.empty l0 x8_1)] rfl rfl (by (try simp only [List.map_toArray, List.map_cons, List.map_nil]); first | done | rfl | (simp only [List.length_drop, List.length_take]; rfl)) ?_; (with_reducible refine (impl_areLetters_1.calls (rdOf ByteArray.empty l0 x8_1) true _ A6.out).mono ?_); rintro e w' ⟨rfl, ⟨nd, rfl⟩⟩; refine ⟨_, rfl, ?_⟩))
     go_ret
     exact ⟨er, drw⟩
    ·replace c7 := Bool.eq_false_iff.mpr c7
     subst c7
     have H1 : (slices_IndexFunc_224_at_188.l0 k1 l0 (l0.length : Int) (wrap64 (x8_1 + 1))) = some r := by rw [if_neg (show ¬ (false = true) by decide)] at H; exact H
     clear H
     have H := H1
     clear H1
     have H' := Aside0.mk H
     clear H
     have p242 : 0 ≤ (x8_1 : Int) := da
     have q242 : x8_1 < (l0.length : Int) := da
     obtain ⟨ad242, e242, hx242_0⟩ := Kd.at_string HR0.out x8_1 p242 q242
     cases e242
     replace p242 := eq_true p242; replace q242 := eq_true q242
     go_wp2_with (first | ((with_reducible refine gate_value (f := 188) rfl rfl ?_); refine goesV_ (some 16) rfl rfl Try.func188 (by kernel_rfl) rfl #[.string (rdOf ByteArray.empty l0 x8_1)] rfl rfl (by (try simp only [List.map_toArray, List.map_cons, List.map_nil]); first | done | rfl | (simp only [List.length_drop, List.length_take]; rfl)) ?_; (with_reducible refine (impl_areLetters_1.calls (rdOf ByteArray.empty l0 x8_1) false _ A6.out).mono ?_); rintro e w' ⟨rfl, ⟨nd, rfl⟩⟩; refine ⟨_, rfl, ?_⟩))
     go_roundg k1
     case measure => have := HK1.out; omega
     case rel => exact ⟨(wrap64 (x8_1 + 1)), er, H', ⟨by have := HK1.out; omega⟩, drw⟩
   ·rw [if_neg c3] at H
    have c3b0 : decide (x8_1 < (l0.length : Int)) = false := decide_eq_false c3
    clear c3
    obtain rfl := Option.some.inj H
    go_wp2
    go_ret
    exact ⟨er, drw⟩

/-! ### slices_ContainsFunc_187_at_188: function 187 -/
def slices_ContainsFunc_187_at_188.f (k : Nat) (l0 : List ByteArray)  : Option (Bool) := (slices_IndexFunc_224_at_188.f k l0).bind fun t244 => (some (decide (t244 ≥ 0)))
theorem slices_ContainsFunc_187_at_188.mono : ∀ a0 k, LeO (slices_ContainsFunc_187_at_188.f k a0) (slices_ContainsFunc_187_at_188.f (k + 1) a0) := by
 intro a0 k
 unfold slices_ContainsFunc_187_at_188.f
 repeat' (first | (with_reducible first | exact slices_IndexFunc_224_at_188.mono _ _ | exact LeO.refl _ | exact LeO.none _ | refine LeO.ite ?_ ?_ | refine LeO.bind ?_ (fun _ => ?_)) | exact slices_IndexFunc_224_at_188.mono _ _ | exact LeO.none _ | refine LeO.ite ?_ ?_ | refine LeO.bind ?_ (fun _ => ?_))
set_option maxHeartbeats 8000000 in
set_option maxRecDepth 100000 in
theorem slices_ContainsFunc_187_at_188.calls (k : Nat) (A0 : Option Addr) (c0 : Nat) (l0 : List ByteArray)  (r : Bool) (w : World) (hr0 : Kd.C Kd.string w A0 l0.length l0) (hc0 : l0.length ≤ c0) (h : slices_ContainsFunc_187_at_188.f k l0 = some r) :
  Calls Try.prog 187 #[.slice A0 l0.length c0, .func (.func 188) #[] #[]] w fun e w' => e = .returned (.bool r) ∧ Drawn0 w w' := by
 have HR0 := Aside0.mk hr0; have HC0 := Aside0.mk hc0; clear hr0 hc0
 have H : ((slices_IndexFunc_224_at_188.f k l0).bind fun t244 => (some (decide (t244 ≥ 0)))) = some r := h
 clear h; replace H := bS H; obtain ⟨t244, A3, H⟩ := H
 replace H : (some (decide (t244 ≥ 0))) = some r := H
 obtain rfl := Option.some.inj H
 go_enter Try.func187, Try.ntmps187
 go_wp2_with (first | ((with_reducible refine gate_callee (f := 224) rfl ?_); refine goesLa (some 7) rfl Try.func224 #[.slice A0 l0.length c0, .func (.func 188) #[] #[]] rfl ?_; (with_reducible refine (slices_IndexFunc_224_at_188.calls k _ _ l0  t244 _ ?side1 ?side2 A3.out).mono ?_); (case side1 => exact cd HR0.out); (case side2 => exact HC0.out); rintro e w' ⟨rfl, ⟨nd, rfl⟩⟩; refine ⟨_, rfl, ?_⟩))
 go_ret
 exact ⟨er, drw⟩

/-! ### impl_areLetters: function 114 -/
def impl_areLetters.f (k : Nat) (l0 : List ByteArray) : Option (Bool) := if (l0.length : Int) ≤ 12 then ((slices_ContainsFunc_187_at_188.f k l0).bind fun t245 => (some (!t245))) else (some false)
theorem impl_areLetters.mono : ∀ a0 k, LeO (impl_areLetters.f k a0) (impl_areLetters.f (k + 1) a0) := by
 intro a0 k
 unfold impl_areLetters.f
 repeat' (first | (with_reducible first | exact slices_ContainsFunc_187_at_188.mono _ _ | exact LeO.refl _ | exact LeO.none _ | refine LeO.ite ?_ ?_ | refine LeO.bind ?_ (fun _ => ?_)) | exact slices_ContainsFunc_187_at_188.mono _ _ | exact LeO.none _ | refine LeO.ite ?_ ?_ | refine LeO.bind ?_ (fun _ => ?_))
set_option maxHeartbeats 8000000 in
set_option maxRecDepth 100000 in
theorem impl_areLetters.calls (k : Nat) (A0 : Option Addr) (c0 : Nat) (l0 : List ByteArray) (r : Bool) (w : World) (hr0 : Kd.C Kd.string w A0 l0.length l0) (hc0 : l0.length ≤ c0) (h : impl_areLetters.f k l0 = some r) :
  Calls Try.prog 114 #[.slice A0 l0.length c0] w fun e w' => e = .returned (.bool r) ∧ Drawn0 w w' := by
 have HR0 := Aside0.mk hr0; have HC0 := Aside0.mk hc0; clear hr0 hc0
 have H : (if (l0.length : Int) ≤ 12 then ((slices_ContainsFunc_187_at_188.f k l0).bind fun t245 => (some (!t245))) else (some false)) = some r := h
 clear h
 by_cases c2 : (l0.length : Int) ≤ 12
 ·rw [if_pos c2] at H
  have c2b0 : decide ((l0.length : Int) ≤ 12) = true := decide_eq_true c2
  have c2b1 : decide (l0.length ≤ 12) = true := decide_eq_true (by omega)
  clear c2; replace H := bS H; obtain ⟨t245, A3, H⟩ := H
  replace H : (some (!t245)) = some r := H
  obtain rfl := Option.some.inj H
  go_enter Try.func114, Try.ntmps114
  go_wp2_with (first | (go_at_call 187; (with_reducible refine (slices_ContainsFunc_187_at_188.calls k _ _ l0  t245 _ ?side1 ?side2 A3.out).mono ?_); (case side1 => exact cd HR0.out); (case side2 => exact HC0.out); rintro e w' ⟨rfl, ⟨nd, rfl⟩⟩))
  go_ret
  exact ⟨er, drw⟩
 ·rw [if_neg c2] at H
  have c2b0 : decide ((l0.length : Int) ≤ 12) = false := decide_eq_false c2
  have c2b1 : decide (l0.length ≤ 12) = false := decide_eq_false (by omega)
  clear c2
  obtain rfl := Option.some.inj H
  go_enter Try.func114, Try.ntmps114
  go_wp2
  go_ret
  exact ⟨er, drw⟩

/-! ### impl_within: function 125 -/
def impl_within.f (a0 : Int) (a1 : Int) (a2 : Int) : Option (Bool) := if a0 ≥ a1 then (some (decide (a0 ≤ a2))) else (some false)
set_option maxHeartbeats 8000000 in
set_option maxRecDepth 100000 in
theorem impl_within.calls (a0 : Int) (a1 : Int) (a2 : Int) (r : Bool) (w : World) (h : impl_within.f a0 a1 a2 = some r) :
  Calls Try.prog 125 #[.int .i64 a0, .int .i64 a1, .int .i64 a2] w fun e w' => e = .returned (.bool r) ∧ Drawn0 w w' := by
 have H : (if a0 ≥ a1 then (some (decide (a0 ≤ a2))) else (some false)) = some r := h
 clear h
 by_cases c4 : a0 ≥ a1
 ·rw [if_pos c4] at H
  have c4b0 : decide (a1 ≤ a0) = true := decide_eq_true c4
  clear c4
  obtain rfl := Option.some.inj H
  go_enter Try.func125, Try.ntmps125
  go_wp2
  go_ret
  exact ⟨er, drw⟩
 ·rw [if_neg c4] at H
  have c4b0 : decide (a1 ≤ a0) = false := decide_eq_false c4
  clear c4
  obtain rfl := Option.some.inj H
  go_enter Try.func125, Try.ntmps125
  go_wp2
  go_ret
  exact ⟨er, drw⟩

/-! ### impl_allWithin: function 196 -/
def impl_allWithin.l0 : Nat → Int → Int → List Int → Int → Int → Option (Bool)
  | 0, _, _, _, _, _ => none
  | k + 1, x1, x2, x9, x10, x11 => if x11 < x10 then (if 0 ≤ x11 then (if x11 < (x9.length : Int) then ((impl_within.f (rd x9 x11) x1 x2).bind fun t247 => (if t247 = true then (impl_allWithin.l0 k x1 x2 x9 x10 (wrap64 (x11 + 1))) else (some false))) else (none)) else (none)) else (some true)
def impl_allWithin.f (k : Nat) (l0 : List Int) (a1 : Int) (a2 : Int) : Option (Bool) := impl_allWithin.l0 k a1 a2 l0 (l0.length : Int) 0
theorem impl_allWithin.mono_l : ∀ k, (∀ y0 y1 y2 y3 y4, LeO (impl_allWithin.l0 k y0 y1 y2 y3 y4) (impl_allWithin.l0 (k + 1) y0 y1 y2 y3 y4))
 | 0 => fun _ _ _ _ _ r h => by simp [impl_allWithin.l0] at h
 | k + 1 => by
  have ih0 := impl_allWithin.mono_l k
  ·intro y0 y1 y2 y3 y4
   unfold impl_allWithin.l0
   repeat' (first | (with_reducible first | exact ih0 _ _ _ _ _ | exact LeO.refl _ | exact LeO.none _ | refine LeO.ite ?_ ?_ | refine LeO.bind ?_ (fun _ => ?_)) | exact ih0 _ _ _ _ _ | exact LeO.none _ | refine LeO.ite ?_ ?_ | refine LeO.bind ?_ (fun _ => ?_))
theorem impl_allWithin.mono : ∀ a0 a1 a2 k, LeO (impl_allWithin.f k a0 a1 a2) (impl_allWithin.f (k + 1) a0 a1 a2) := by
 intro a0 a1 a2 k
 have ih0 := impl_allWithin.mono_l k
 unfold impl_allWithin.f
 repeat' (first | (with_reducible first | exact ih0 _ _ _ _ _ | exact LeO.refl _ | exact LeO.none _ | refine LeO.ite ?_ ?_ | refine LeO.bind ?_ (fun _ => ?_)) | exact ih0 _ _ _ _ _ | exact LeO.none _ | refine LeO.ite ?_ ?_ | refine LeO.bind ?_ (fun _ => ?_))
set_option maxHeartbeats 8000000 in
set_option maxRecDepth 100000 in
theorem impl_allWithin.calls (k : Nat) (A0 : Option Addr) (c0 : Nat) (l0 : List Int) (a1 : Int) (a2 : Int) (r : Bool) (w : World) (hr0 : Kd.C (Kd.int .i64) w A0 l0.length l0) (hc0 : l0.length ≤ c0) (h : impl_allWithin.f k l0 a1 a2 = some r) :
  Calls Try.prog 196 #[.slice A0 l0.length c0, .int .i64 a1, .int .i64 a2] w fun e w' => e = .returned (.bool r) ∧ Drawn0 w w' := by
 have HR0 := Aside0.mk hr0; have HC0 := Aside0.mk hc0; clear hr0 hc0
 have H : (impl_allWithin.l0 k a1 a2 l0 (l0.length : Int) 0) = some r := h
 clear h
 have H' := Aside0.mk H
 clear H
 go_enter Try.func196, Try.ntmps196
 go_wp2
 go_loopg [11] k (fun kq v11 w' => ∃ (x11_1 : Int), v11 = .int .i64 x11_1 ∧ Aside0 (impl_allWithin.l0 kq a1 a2 l0 (l0.length : Int) x11_1 = some r) ∧ Aside0 (kq ≤ k) ∧ Drawn0 w w')
 case atStart => exact ⟨(0), er, H', ⟨Nat.le_refl _⟩, drw⟩
 case round =>
  clear H'
  obtain ⟨x11_1, rfl, HA, HK1, ⟨m1, rfl⟩⟩ := hrel
  cases gk with
  | zero => exact absurd HA.out (by simp [impl_allWithin.l0])
  | succ k1 =>
   have H := HA.out; clear HA
   simp only [impl_allWithin.l0] at H
   by_cases c4 : x11_1 < (l0.length : Int)
   ·rw [if_pos c4] at H
    have c4b0 : decide (x11_1 < (l0.length : Int)) = true := decide_eq_true c4
    clear c4; replace H := ifS H; obtain ⟨c5, H⟩ := H; have c5b0 := decide_eq_true c5; clear c5; replace H := ifS H; obtain ⟨c6, H⟩ := H; have c6b0 := decide_eq_true c6; clear c6; replace H := bS H; obtain ⟨t247, A7, H⟩ := H
    replace H : (if t247 = true then (impl_allWithin.l0 k1 a1 a2 l0 (l0.length : Int) (wrap64 (x11_1 + 1))) else (some false)) = some r := H
    by_cases c8 : t247 = true
    ·subst c8
     have H1 : (impl_allWithin.l0 k1 a1 a2 l0 (l0.length : Int) (wrap64 (x11_1 + 1))) = some r := by rw [if_pos rfl] at H; exact H
     clear H
     have H := H1
     clear H1
     have H' := Aside0.mk H
     clear H
     have p246 : 0 ≤ (x11_1 : Int) := da
     have q246 : x11_1 < (l0.length : Int) := da
     obtain ⟨ad246, e246, hx246_0⟩ := Kd.at_int HR0.out x11_1 p246 q246
     cases e246
     replace p246 := eq_true p246; replace q246 := eq_true q246
     go_wp2_with (first | ((with_reducible refine gate_callee (f := 125) rfl ?_); refine goesLa (some 18) rfl Try.func125 #[.int .i64 (rd l0 x11_1), .int .i64 a1, .int .i64 a2] rfl ?_; (with_reducible refine (impl_within.calls (rd l0 x11_1) a1 a2 true _ A7.out).mono ?_); rintro e w' ⟨rfl, ⟨nd, rfl⟩⟩; refine ⟨_, rfl, ?_⟩))
     go_roundg k1
     case measure => have := HK1.out; omega
     case rel => exact ⟨(wrap64 (x11_1 + 1)), er, H', ⟨by have := HK1.out; omega⟩, drw⟩
    ·replace c8 := Bool.eq_false_iff.mpr c8
     subst c8
     have H1 : (some false) = some r := by rw [if_neg (show ¬ (false = true) by decide)] at H; exact H
     clear H
     have H := H1
     clear H1
     obtain rfl := Option.some.inj H
     have p246 : 0 ≤ (x11_1 : Int) := da
     have q246 : x11_1 < (l0.length : Int) := da
     obtain ⟨ad246, e246, hx246_0⟩ := Kd.at_int HR0.out x11_1 p246 q246
     cases e246
     replace p246 := eq_true p246; replace q246 := eq_true q246
     go_wp2_with (first | ((with_reducible refine gate_callee (f := 125) rfl ?_); refine goesLa (some 18) rfl Try.func125 #[.int .i64 (rd l0 x11_1), .int .i64 a1, .int .i64 a2] rfl ?_; (with_reducible refine (impl_within.calls (rd l0 x11_1) a1 a2 false _ A7.out).mono ?_); rintro e w' ⟨rfl, ⟨nd, rfl⟩⟩; refine ⟨_, rfl, ?_⟩))
     go_ret
     exact ⟨er, drw⟩
   ·rw [if_neg c4] at H
    have c4b0 : decide (x11_1 < (l0.length : Int)) = false := decide_eq_false c4
    clear c4
    obtain rfl := Option.some.inj H
    go_wp2
    go_ret
    exact ⟨er, drw⟩

end Go.Proofs.Ytkgogglnipdcfaa.QFnMixes
