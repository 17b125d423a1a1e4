-- printed by this session's own program (wip/tools/pp.py: the kit's print.py with changes); Lean checks it
import Derived.Test.YtpibdgknmjjolaaQFnTablex0
namespace Go.Proofs.Ytpibdgknmjjolaa.QFnTable
open Go.RowKit Go.Proofs.YtpibdgknmjjolaaW.PrintWords Go.Proofs.YtpibdgknmjjolaaW.PrintLast Go.Proofs.YtpibdgknmjjolaaW.PrintMore
attribute [local go_sem] max2_int min2_int max_two min_two max_three min_three max_four min_four strLss strGtr strLeq strGeq   -- for this text's walks alone
set_option linter.unusedVariables false
set_option linter.unusedSimpArgs false

/-! ### spec_l1In: function 81 -/
def spec_l1In.f (a0 : Int) (a1 : Int) (a2 : Int) : Option (Bool) := if a0 ≥ a1 then (some (decide (a0 ≤ a2))) else (some false)
set_option maxHeartbeats 8000000 in
set_option maxRecDepth 100000 in
theorem spec_l1In.calls (a0 : Int) (a1 : Int) (a2 : Int) (r : Bool) (w : World) (h : spec_l1In.f a0 a1 a2 = some r) :
  Calls Try.prog 81 #[.int .i64 a0, .int .i64 a1, .int .i64 a2] w fun e w' => e = .returned (.bool r) ∧ Drawn0 w w' := by
 have H : (if a0 ≥ a1 then (some (decide (a0 ≤ a2))) else (some false)) = some r := h
 clear h
 by_cases c4 : a0 ≥ a1
 ·rw [if_pos c4] at H
  have c4b0 : decide (a1 ≤ a0) = true := decide_eq_true c4
  clear c4
  obtain rfl := Option.some.inj H
  go_enter Try.func81, Try.ntmps81
  go_wp2
  go_ret
  exact ⟨er, drw⟩
 ·rw [if_neg c4] at H
  have c4b0 : decide (a1 ≤ a0) = false := decide_eq_false c4
  clear c4
  obtain rfl := Option.some.inj H
  go_enter Try.func81, Try.ntmps81
  go_wp2
  go_ret
  exact ⟨er, drw⟩

/-! ### spec_l1All: function 82 -/
def spec_l1All.l0 : Nat → Int → Int → List Int → Int → Int → Option (Bool)
  | 0, _, _, _, _, _ => none
  | k + 1, x1, x2, x9, x10, x11 => if x11 < x10 then (if 0 ≤ x11 then (if x11 < (x9.length : Int) then ((spec_l1In.f (rd x9 x11) x1 x2).bind fun t102 => (if t102 = true then (spec_l1All.l0 k x1 x2 x9 x10 (wrap64 (x11 + 1))) else (some false))) else (none)) else (none)) else (some true)
def spec_l1All.f (k : Nat) (l0 : List Int) (a1 : Int) (a2 : Int) : Option (Bool) := spec_l1All.l0 k a1 a2 l0 (l0.length : Int) 0
theorem spec_l1All.mono_l : ∀ k, (∀ y0 y1 y2 y3 y4, LeO (spec_l1All.l0 k y0 y1 y2 y3 y4) (spec_l1All.l0 (k + 1) y0 y1 y2 y3 y4))
 | 0 => fun _ _ _ _ _ r h => by simp [spec_l1All.l0] at h
 | k + 1 => by
  have ih0 := spec_l1All.mono_l k
  ·intro y0 y1 y2 y3 y4
   unfold spec_l1All.l0
   repeat' (first | (with_reducible first | exact ih0 _ _ _ _ _ | exact LeO.refl _ | exact LeO.none _ | refine LeO.ite ?_ ?_ | refine LeO.bind ?_ (fun _ => ?_)) | exact ih0 _ _ _ _ _ | exact LeO.none _ | refine LeO.ite ?_ ?_ | refine LeO.bind ?_ (fun _ => ?_))
theorem spec_l1All.mono : ∀ a0 a1 a2 k, LeO (spec_l1All.f k a0 a1 a2) (spec_l1All.f (k + 1) a0 a1 a2) := by
 intro a0 a1 a2 k
 have ih0 := spec_l1All.mono_l k
 unfold spec_l1All.f
 repeat' (first | (with_reducible first | exact ih0 _ _ _ _ _ | exact LeO.refl _ | exact LeO.none _ | refine LeO.ite ?_ ?_ | refine LeO.bind ?_ (fun _ => ?_)) | exact ih0 _ _ _ _ _ | exact LeO.none _ | refine LeO.ite ?_ ?_ | refine LeO.bind ?_ (fun _ => ?_))
set_option maxHeartbeats 8000000 in
set_option maxRecDepth 100000 in
theorem spec_l1All.calls (k : Nat) (A0 : Option Addr) (c0 : Nat) (l0 : List Int) (a1 : Int) (a2 : Int) (r : Bool) (w : World) (hr0 : Kd.C (Kd.int .i64) w A0 l0.length l0) (hc0 : l0.length ≤ c0) (h : spec_l1All.f k l0 a1 a2 = some r) :
  Calls Try.prog 82 #[.slice A0 l0.length c0, .int .i64 a1, .int .i64 a2] w fun e w' => e = .returned (.bool r) ∧ Drawn0 w w' := by
 have HR0 := Aside0.mk hr0; have HC0 := Aside0.mk hc0; clear hr0 hc0
 have H : (spec_l1All.l0 k a1 a2 l0 (l0.length : Int) 0) = some r := h
 clear h
 have H' := Aside0.mk H
 clear H
 go_enter Try.func82, Try.ntmps82
 go_wp2
 go_loopg [11] k (fun kq v11 w' => ∃ (x11_1 : Int), v11 = .int .i64 x11_1 ∧ Aside0 (spec_l1All.l0 kq a1 a2 l0 (l0.length : Int) x11_1 = some r) ∧ Aside0 (kq ≤ k) ∧ Drawn0 w w')
 case atStart => exact ⟨(0), er, H', ⟨Nat.le_refl _⟩, drw⟩
 case round =>
  clear H'
  obtain ⟨x11_1, rfl, HA, HK1, ⟨m1, rfl⟩⟩ := hrel
  cases gk with
  | zero => exact absurd HA.out (by simp [spec_l1All.l0])
  | succ k1 =>
   have H := HA.out; clear HA
   simp only [spec_l1All.l0] at H
   by_cases c4 : x11_1 < (l0.length : Int)
   ·rw [if_pos c4] at H
    have c4b0 : decide (x11_1 < (l0.length : Int)) = true := decide_eq_true c4
    clear c4; replace H := ifS H; obtain ⟨c5, H⟩ := H; have c5b0 := decide_eq_true c5; clear c5; replace H := ifS H; obtain ⟨c6, H⟩ := H; have c6b0 := decide_eq_true c6; clear c6; replace H := bS H; obtain ⟨t102, A7, H⟩ := H
    replace H : (if t102 = true then (spec_l1All.l0 k1 a1 a2 l0 (l0.length : Int) (wrap64 (x11_1 + 1))) else (some false)) = some r := H
    by_cases c8 : t102 = true
    ·subst c8
     have H1 : (spec_l1All.l0 k1 a1 a2 l0 (l0.length : Int) (wrap64 (x11_1 + 1))) = some r := by rw [if_pos rfl] at H; exact H
     clear H
     have H := H1
     clear H1
     have H' := Aside0.mk H
     clear H
     have p101 : 0 ≤ (x11_1 : Int) := da
     have q101 : x11_1 < (l0.length : Int) := da
     obtain ⟨ad101, e101, hx101_0⟩ := Kd.at_int HR0.out x11_1 p101 q101
     cases e101
     replace p101 := eq_true p101; replace q101 := eq_true q101
     go_wp2_with (first | ((with_reducible refine gate_callee (f := 81) rfl ?_); refine goesLa (some 18) rfl Try.func81 #[.int .i64 (rd l0 x11_1), .int .i64 a1, .int .i64 a2] rfl ?_; (with_reducible refine (spec_l1In.calls (rd l0 x11_1) a1 a2 true _ A7.out).mono ?_); rintro e w' ⟨rfl, ⟨nd, rfl⟩⟩; refine ⟨_, rfl, ?_⟩))
     go_roundg k1
     case measure => have := HK1.out; omega
     case rel => exact ⟨(wrap64 (x11_1 + 1)), er, H', ⟨by have := HK1.out; omega⟩, drw⟩
    ·replace c8 := Bool.eq_false_iff.mpr c8
     subst c8
     have H1 : (some false) = some r := by rw [if_neg (show ¬ (false = true) by decide)] at H; exact H
     clear H
     have H := H1
     clear H1
     obtain rfl := Option.some.inj H
     have p101 : 0 ≤ (x11_1 : Int) := da
     have q101 : x11_1 < (l0.length : Int) := da
     obtain ⟨ad101, e101, hx101_0⟩ := Kd.at_int HR0.out x11_1 p101 q101
     cases e101
     replace p101 := eq_true p101; replace q101 := eq_true q101
     go_wp2_with (first | ((with_reducible refine gate_callee (f := 81) rfl ?_); refine goesLa (some 18) rfl Try.func81 #[.int .i64 (rd l0 x11_1), .int .i64 a1, .int .i64 a2] rfl ?_; (with_reducible refine (spec_l1In.calls (rd l0 x11_1) a1 a2 false _ A7.out).mono ?_); rintro e w' ⟨rfl, ⟨nd, rfl⟩⟩; refine ⟨_, rfl, ?_⟩))
     go_ret
     exact ⟨er, drw⟩
   ·rw [if_neg c4] at H
    have c4b0 : decide (x11_1 < (l0.length : Int)) = false := decide_eq_false c4
    clear c4
    obtain rfl := Option.some.inj H
    go_wp2
    go_ret
    exact ⟨er, drw⟩

/-! ### spec_l1Same: function 128 -/
def spec_l1Same.l0 : Nat → List Int → List Int → Int → Int → Option (Bool)
  | 0, _, _, _, _ => none
  | k + 1, x0, x1, x12, x13 => if x13 < x12 then (if 0 ≤ x13 then (if x13 < (x0.length : Int) then (if x13 < (x1.length : Int) then (if (rd x0 x13) = (rd x1 x13) then (spec_l1Same.l0 k x0 x1 x12 (wrap64 (x13 + 1))) else (some false)) else (none)) else (none)) else (none)) else (some true)
def spec_l1Same.f (k : Nat) (l0 : List Int) (l1 : List Int) : Option (Bool) := if (l0.length : Int) = (l1.length : Int) then (spec_l1Same.l0 k l0 l1 (l0.length : Int) 0) else (some false)
theorem spec_l1Same.mono_l : ∀ k, (∀ y0 y1 y2 y3, LeO (spec_l1Same.l0 k y0 y1 y2 y3) (spec_l1Same.l0 (k + 1) y0 y1 y2 y3))
 | 0 => fun _ _ _ _ r h => by simp [spec_l1Same.l0] at h
 | k + 1 => by
  have ih0 := spec_l1Same.mono_l k
  ·intro y0 y1 y2 y3
   unfold spec_l1Same.l0
   repeat' (first | (with_reducible first | exact ih0 _ _ _ _ | exact LeO.refl _ | exact LeO.none _ | refine LeO.ite ?_ ?_ | refine LeO.bind ?_ (fun _ => ?_)) | exact ih0 _ _ _ _ | exact LeO.none _ | refine LeO.ite ?_ ?_ | refine LeO.bind ?_ (fun _ => ?_))
theorem spec_l1Same.mono : ∀ a0 a1 k, LeO (spec_l1Same.f k a0 a1) (spec_l1Same.f (k + 1) a0 a1) := by
 intro a0 a1 k
 have ih0 := spec_l1Same.mono_l k
 unfold spec_l1Same.f
 repeat' (first | (with_reducible first | exact ih0 _ _ _ _ | exact LeO.refl _ | exact LeO.none _ | refine LeO.ite ?_ ?_ | refine LeO.bind ?_ (fun _ => ?_)) | exact ih0 _ _ _ _ | exact LeO.none _ | refine LeO.ite ?_ ?_ | refine LeO.bind ?_ (fun _ => ?_))
set_option maxHeartbeats 8000000 in
set_option maxRecDepth 100000 in
theorem spec_l1Same.calls (k : Nat) (A0 : Option Addr) (c0 : Nat) (l0 : List Int) (A1 : Option Addr) (c1 : Nat) (l1 : List Int) (r : Bool) (w : World) (hr0 : Kd.C (Kd.int .i64) w A0 l0.length l0) (hc0 : l0.length ≤ c0) (hr1 : Kd.C (Kd.int .i64) w A1 l1.length l1) (hc1 : l1.length ≤ c1) (h : spec_l1Same.f k l0 l1 = some r) :
  Calls Try.prog 128 #[.slice A0 l0.length c0, .slice A1 l1.length c1] w fun e w' => e = .returned (.bool r) ∧ Drawn0 w w' := by
 have HR0 := Aside0.mk hr0; have HC0 := Aside0.mk hc0; clear hr0 hc0; have HR1 := Aside0.mk hr1; have HC1 := Aside0.mk hc1; clear hr1 hc1
 have H : (if (l0.length : Int) = (l1.length : Int) then (spec_l1Same.l0 k l0 l1 (l0.length : Int) 0) else (some false)) = some r := h
 clear h
 by_cases c3 : (l0.length : Int) = (l1.length : Int)
 ·rw [if_pos c3] at H
  have c3b0 : ((l0.length : Int) == (l1.length : Int)) = true := beq_iff_eq.mpr c3
  have c3b1 : ((l0.length : Int) != (l1.length : Int)) = false := bne_eq_false_iff_eq.mpr c3
  have c3b2 : (l0.length == l1.length) = true := by first | simpa using c3 | (simp at c3 ⊢; omega)
  clear c3
  have H' := Aside0.mk H
  clear H
  go_enter Try.func128, Try.ntmps128
  go_wp2
  repeat (go_quiet (fail); try go_wp2)
  go_loopg [13] k (fun kq v13 w' => ∃ (x13_1 : Int), v13 = .int .i64 x13_1 ∧ Aside0 (spec_l1Same.l0 kq l0 l1 (l0.length : Int) x13_1 = some r) ∧ Aside0 (kq ≤ k) ∧ Drawn0 w w')
  case atStart => exact ⟨(0), er, H', ⟨Nat.le_refl _⟩, drw⟩
  case round =>
   clear H'
   (try clear c1); (try clear c3b0); (try clear c3b1); (try clear c3b2)
   obtain ⟨x13_1, rfl, HA, HK1, ⟨m1, rfl⟩⟩ := hrel
   cases gk with
   | zero => exact absurd HA.out (by simp [spec_l1Same.l0])
   | succ k1 =>
    have H := HA.out; clear HA
    simp only [spec_l1Same.l0] at H
    by_cases c4 : x13_1 < (l0.length : Int)
    ·rw [if_pos c4] at H
     have c4b0 : decide (x13_1 < (l0.length : Int)) = true := decide_eq_true c4
     clear c4; replace H := ifS H; obtain ⟨c5, H⟩ := H; have c5b0 := decide_eq_true c5; clear c5; replace H := ifS H; obtain ⟨c6, H⟩ := H; have c6b0 := decide_eq_true c6; clear c6; replace H := ifS H; obtain ⟨c7, H⟩ := H; have c7b0 := decide_eq_true c7; clear c7
     by_cases c8 : (rd l0 x13_1) = (rd l1 x13_1)
     ·rw [if_pos c8] at H
      have c8b0 : ((rd l0 x13_1) == (rd l1 x13_1)) = true := beq_iff_eq.mpr c8
      have c8b1 : ((rd l0 x13_1) != (rd l1 x13_1)) = false := bne_eq_false_iff_eq.mpr c8
      clear c8
      have H' := Aside0.mk H
      clear H
      have p103 : 0 ≤ (x13_1 : Int) := da
      have q103 : x13_1 < (l0.length : Int) := da
      obtain ⟨ad103, e103, hx103_0⟩ := Kd.at_int HR0.out x13_1 p103 q103
      cases e103
      replace p103 := eq_true p103; replace q103 := eq_true q103
      have p104 : 0 ≤ (x13_1 : Int) := da
      have q104 : x13_1 < (l1.length : Int) := da
      obtain ⟨ad104, e104, hx104_0⟩ := Kd.at_int HR1.out x13_1 p104 q104
      cases e104
      replace p104 := eq_true p104; replace q104 := eq_true q104; go_wp2
      repeat (go_quiet (fail); try go_wp2)
      go_roundg k1
      case measure => have := HK1.out; omega
      case rel => exact ⟨(wrap64 (x13_1 + 1)), er, H', ⟨by have := HK1.out; omega⟩, drw⟩
     ·rw [if_neg c8] at H
      have c8b0 : ((rd l0 x13_1) == (rd l1 x13_1)) = false := beq_eq_false_iff_ne.mpr c8
      have c8b1 : ((rd l0 x13_1) != (rd l1 x13_1)) = true := bne_iff_ne.mpr c8
      obtain rfl := Option.some.inj H
      have p103 : 0 ≤ (x13_1 : Int) := da
      have q103 : x13_1 < (l0.length : Int) := da
      obtain ⟨ad103, e103, hx103_0⟩ := Kd.at_int HR0.out x13_1 p103 q103
      cases e103
      replace p103 := eq_true p103; replace q103 := eq_true q103
      have p104 : 0 ≤ (x13_1 : Int) := da
      have q104 : x13_1 < (l1.length : Int) := da
      obtain ⟨ad104, e104, hx104_0⟩ := Kd.at_int HR1.out x13_1 p104 q104
      cases e104
      replace p104 := eq_true p104; replace q104 := eq_true q104; go_wp2
      repeat (go_quiet (fail); try go_wp2)
      go_ret
      exact ⟨er, drw⟩
    ·rw [if_neg c4] at H
     have c4b0 : decide (x13_1 < (l0.length : Int)) = false := decide_eq_false c4
     clear c4
     obtain rfl := Option.some.inj H
     go_wp2
     repeat (go_quiet (fail); try go_wp2)
     go_ret
     exact ⟨er, drw⟩
 ·rw [if_neg c3] at H
  have c3b0 : ((l0.length : Int) == (l1.length : Int)) = false := beq_eq_false_iff_ne.mpr c3
  have c3b1 : ((l0.length : Int) != (l1.length : Int)) = true := bne_iff_ne.mpr c3
  have c3b2 : (l0.length == l1.length) = false := by first | simpa using c3 | (simp at c3 ⊢; omega)
  obtain rfl := Option.some.inj H
  go_enter Try.func128, Try.ntmps128
  go_wp2
  repeat (go_quiet (fail); try go_wp2)
  go_ret
  exact ⟨er, drw⟩

/-! ### spec_GoodTable: function 60 -/
mutual
def spec_GoodTable.l0 : Nat → List (List Int) → Int → Int → Int → List (List Int) → List Int → Option (Bool)
  | 0, _, _, _, _, _, _ => none
  | k + 1, x8, x9, x10, x106000, x106001, x106002 => if x10 < x9 then (if 0 ≤ x10 then (if x10 < (x8.length : Int) then (if ((rd_L1 x8 x10).length : Int) = 2 then (if 0 < ((rd_L1 x8 x10).length : Int) then ((spec_l1In.f (rd (rd_L1 x8 x10) 0) 0 (wrap64 (x106000 - 1))).bind fun t110 => (if t110 = true then (if 1 < ((rd_L1 x8 x10).length : Int) then ((spec_l1In.f (rd (rd_L1 x8 x10) 1) 0 (wrap64 (x106000 - 1))).bind fun t112 => (if t112 = true then (spec_GoodTable.j1 k x10 (rd_L1 x8 x10) x8 x9 x10 (decide ((rd (rd_L1 x8 x10) 0) ≥ (rd (rd_L1 x8 x10) 1))) x106000 x106001 x106002) else (spec_GoodTable.j1 k x10 (rd_L1 x8 x10) x8 x9 x10 true x106000 x106001 x106002))) else (none)) else (spec_GoodTable.j1 k x10 (rd_L1 x8 x10) x8 x9 x10 true x106000 x106001 x106002))) else (none)) else (spec_GoodTable.j1 k x10 (rd_L1 x8 x10) x8 x9 x10 true x106000 x106001 x106002)) else (none)) else (none)) else ((spec_l1In.f x106000 1 6).bind fun t106 => (if t106 = true then (if (x106001.length : Int) ≤ 15 then (if (x106002.length : Int) = (x106001.length : Int) then ((spec_l1All.f k x106002 0 255).bind fun t107 => (some t107)) else (some false)) else (some false)) else (some false)))
def spec_GoodTable.j1 : Nat → Int → List Int → List (List Int) → Int → Int → Bool → Int → List (List Int) → List Int → Option (Bool)
  | 0, _, _, _, _, _, _, _, _, _ => none
  | k + 1, x3, x4, x8, x9, x10, x46, x106000, x106001, x106002 => if x46 = true then (some false) else (if 0 ≤ x3 then (if x3 ≤ (x106001.length : Int) then ((some (x106001.take (x3 : Int).toNat : List (List Int))).bind fun y115 => (spec_GoodTable.l1 k x4 x8 x9 x10 y115 (y115.length : Int) 0 x106000 x106001 x106002)) else (none)) else (none))
def spec_GoodTable.l1 : Nat → List Int → List (List Int) → Int → Int → List (List Int) → Int → Int → Int → List (List Int) → List Int → Option (Bool)
  | 0, _, _, _, _, _, _, _, _, _, _ => none
  | k + 1, x4, x8, x9, x10, x50, x51, x52, x106000, x106001, x106002 => if x52 < x51 then (if 0 ≤ x52 then (if x52 < (x50.length : Int) then ((spec_l1Same.f k x4 (rd_L1 x50 x52)).bind fun t120 => (if t120 = true then (some false) else (spec_GoodTable.l1 k x4 x8 x9 x10 x50 x51 (wrap64 (x52 + 1)) x106000 x106001 x106002))) else (none)) else (none)) else (spec_GoodTable.l0 k x8 x9 (wrap64 (x10 + 1)) x106000 x106001 x106002)
end
def spec_GoodTable.f (k : Nat) (a0_0 : Int) (l0_1 : List (List Int)) (l0_2 : List Int) : Option (Bool) := spec_GoodTable.l0 k l0_1 (l0_1.length : Int) 0 a0_0 l0_1 l0_2
theorem spec_GoodTable.mono_l : ∀ k, (∀ y0 y1 y2 y3 y4 y5, LeO (spec_GoodTable.l0 k y0 y1 y2 y3 y4 y5) (spec_GoodTable.l0 (k + 1) y0 y1 y2 y3 y4 y5)) ∧ (∀ y0 y1 y2 y3 y4 y5 y6 y7 y8, LeO (spec_GoodTable.j1 k y0 y1 y2 y3 y4 y5 y6 y7 y8) (spec_GoodTable.j1 (k + 1) y0 y1 y2 y3 y4 y5 y6 y7 y8)) ∧ (∀ y0 y1 y2 y3 y4 y5 y6 y7 y8 y9, LeO (spec_GoodTable.l1 k y0 y1 y2 y3 y4 y5 y6 y7 y8 y9) (spec_GoodTable.l1 (k + 1) y0 y1 y2 y3 y4 y5 y6 y7 y8 y9))
 | 0 => ⟨fun _ _ _ _ _ _ r h => by simp [spec_GoodTable.l0] at h, fun _ _ _ _ _ _ _ _ _ r h => by simp [spec_GoodTable.j1] at h, fun _ _ _ _ _ _ _ _ _ _ r h => by simp [spec_GoodTable.l1] at h⟩
 | k + 1 => by
  obtain ⟨ih0, ih1, ih2⟩ := spec_GoodTable.mono_l k
  refine ⟨?_, ?_, ?_⟩
  ·intro y0 y1 y2 y3 y4 y5
   unfold spec_GoodTable.l0
   repeat' (first | (with_reducible first | exact ih0 _ _ _ _ _ _ | exact ih1 _ _ _ _ _ _ _ _ _ | exact ih2 _ _ _ _ _ _ _ _ _ _ | exact spec_l1All.mono _ _ _ _ | exact spec_l1Same.mono _ _ _ | exact LeO.refl _ | exact LeO.none _ | refine LeO.ite ?_ ?_ | refine LeO.bind ?_ (fun _ => ?_)) | exact ih0 _ _ _ _ _ _ | exact ih1 _ _ _ _ _ _ _ _ _ | exact ih2 _ _ _ _ _ _ _ _ _ _ | exact spec_l1All.mono _ _ _ _ | exact spec_l1Same.mono _ _ _ | exact LeO.none _ | refine LeO.ite ?_ ?_ | refine LeO.bind ?_ (fun _ => ?_))
  ·intro y0 y1 y2 y3 y4 y5 y6 y7 y8
   unfold spec_GoodTable.j1
   repeat' (first | (with_reducible first | exact ih0 _ _ _ _ _ _ | exact ih1 _ _ _ _ _ _ _ _ _ | exact ih2 _ _ _ _ _ _ _ _ _ _ | exact spec_l1All.mono _ _ _ _ | exact spec_l1Same.mono _ _ _ | exact LeO.refl _ | exact LeO.none _ | refine LeO.ite ?_ ?_ | refine LeO.bind ?_ (fun _ => ?_)) | exact ih0 _ _ _ _ _ _ | exact ih1 _ _ _ _ _ _ _ _ _ | exact ih2 _ _ _ _ _ _ _ _ _ _ | exact spec_l1All.mono _ _ _ _ | exact spec_l1Same.mono _ _ _ | exact LeO.none _ | refine LeO.ite ?_ ?_ | refine LeO.bind ?_ (fun _ => ?_))
  ·intro y0 y1 y2 y3 y4 y5 y6 y7 y8 y9
   unfold spec_GoodTable.l1
   repeat' (first | (with_reducible first | exact ih0 _ _ _ _ _ _ | exact ih1 _ _ _ _ _ _ _ _ _ | exact ih2 _ _ _ _ _ _ _ _ _ _ | exact spec_l1All.mono _ _ _ _ | exact spec_l1Same.mono _ _ _ | exact LeO.refl _ | exact LeO.none _ | refine LeO.ite ?_ ?_ | refine LeO.bind ?_ (fun _ => ?_)) | exact ih0 _ _ _ _ _ _ | exact ih1 _ _ _ _ _ _ _ _ _ | exact ih2 _ _ _ _ _ _ _ _ _ _ | exact spec_l1All.mono _ _ _ _ | exact spec_l1Same.mono _ _ _ | exact LeO.none _ | refine LeO.ite ?_ ?_ | refine LeO.bind ?_ (fun _ => ?_))
theorem spec_GoodTable.mono : ∀ a0 a1 a2 k, LeO (spec_GoodTable.f k a0 a1 a2) (spec_GoodTable.f (k + 1) a0 a1 a2) := by
 intro a0 a1 a2 k
 obtain ⟨ih0, ih1, ih2⟩ := spec_GoodTable.mono_l k
 unfold spec_GoodTable.f
 repeat' (first | (with_reducible first | exact ih0 _ _ _ _ _ _ | exact ih1 _ _ _ _ _ _ _ _ _ | exact ih2 _ _ _ _ _ _ _ _ _ _ | exact spec_l1All.mono _ _ _ _ | exact spec_l1Same.mono _ _ _ | exact LeO.refl _ | exact LeO.none _ | refine LeO.ite ?_ ?_ | refine LeO.bind ?_ (fun _ => ?_)) | exact ih0 _ _ _ _ _ _ | exact ih1 _ _ _ _ _ _ _ _ _ | exact ih2 _ _ _ _ _ _ _ _ _ _ | exact spec_l1All.mono _ _ _ _ | exact spec_l1Same.mono _ _ _ | exact LeO.none _ | refine LeO.ite ?_ ?_ | refine LeO.bind ?_ (fun _ => ?_))
def spec_GoodTable.T4 : Bool × List (List Nat × List Nat) := (true, [([], []), ([0], [0]), ([1], [1]), ([2], [2]), ([3], [3]), ([4, 3], [3, 4]), ([5, 3], [3, 5]), ([3], [3]), ([7, 3], [3, 7]), ([8, 3], [3, 8]), ([6, 9, 3, 3], [3, 6, 9]), ([10, 3], [3, 10]), ([3, 11], [3, 11]), ([12, 10], [12]), ([13], [13]), ([14, 13], [13, 14]), ([15, 13], [13, 15]), ([13], [13]), ([17, 13], [13, 17]), ([18, 13], [13, 18]), ([16, 19, 13, 13], [13, 16, 19]), ([20, 13], [13, 20]), ([13, 21], [13, 21]), ([22, 20], [22]), ([23], [23]), ([24, 23], [23, 24]), ([25, 23], [23, 25]), ([23], [23]), ([27, 23], [23, 27]), ([28, 23], [23, 28]), ([26, 29, 23], [23, 26, 29]), ([23, 30], [23, 30])])
def spec_GoodTable.B4 : List Nat := [0, 1, 3, 7, 15, 31, 63, 15, 143, 399, 1023, 2047, 4095, 8191, 16383, 32767, 65535, 16383, 147455, 409599, 1048575, 2097151, 4194303, 8388607, 16777215, 33554431, 67108863, 16777215, 150994943, 419430399, 1073741823, 2147483647]
theorem spec_GoodTable.tab4 : rtab .any (opsOf Try.f60 4) = spec_GoodTable.T4 := by kernel_rfl
theorem spec_GoodTable.bits4 : waitsOk spec_GoodTable.T4.2 spec_GoodTable.B4 = true := by kernel_rfl
set_option maxHeartbeats 8000000 in
set_option maxRecDepth 100000 in
theorem spec_GoodTable.calls (k : Nat) (a0_0 : Int) (A0_1 : Option Addr) (c0_1 : Nat) (l0_1 : List (List Int)) (A0_2 : Option Addr) (c0_2 : Nat) (l0_2 : List Int) (r : Bool) (w : World) (hr0_1 : Kd.C (Kd.slice 3 (Kd.int .i64)) w A0_1 l0_1.length l0_1) (hc0_1 : l0_1.length ≤ c0_1) (hr0_2 : Kd.C (Kd.int .i64) w A0_2 l0_2.length l0_2) (hc0_2 : l0_2.length ≤ c0_2) (h : spec_GoodTable.f k a0_0 l0_1 l0_2 = some r) :
  Calls Try.prog 60 #[.agg #[.int .i64 a0_0, .slice A0_1 l0_1.length c0_1, .slice A0_2 l0_2.length c0_2]] w fun e w' => e = .returned (.bool r) ∧ Below w.heap.size w w' := by
 have hu38 := Try.underlying38
 have HR0_1 := Aside0.mk hr0_1; have HC0_1 := Aside0.mk hc0_1; clear hr0_1 hc0_1; have HR0_2 := Aside0.mk hr0_2; have HC0_2 := Aside0.mk hc0_2; clear hr0_2 hc0_2
 have HB := Aside0.mk (Below.refl w.heap.size w)
 have H : (spec_GoodTable.l0 k l0_1 (l0_1.length : Int) 0 a0_0 l0_1 l0_2) = some r := h
 clear h
 have H' := Aside0.mk H
 clear H
 go_enter Try.func60, Try.ntmps60
 go_wp2_with (first | ((with_reducible refine gate_dst (N := 1) rfl ?_); (try (refine gate_guard (by rfl) ?_; dsimp only)); refine boxev 1 #[.int .i64 a0_0, .slice A0_1 l0_1.length c0_1, .slice A0_2 l0_2.length c0_2] 38 ?_; intro gb105 hg w2 hbox hb; have BK105 := ak (hbox); have GW105 := ak (hgl hg (belowd HB)); have GE105 := ak (hgl hg (belowd HB)); replace HB := ak (below_step (belowd HB) hb); clear hb hbox hg; obtain ⟨hcz3_0, hcz3_1, hcz3_2, hfz3_0, hfz3_1, hfz3_2⟩ := box3 BK105))
 go_loopg [10] k (fun kq v10 w' => ∃ (x10_1 : Int), v10 = .int .i64 x10_1 ∧ Aside0 (spec_GoodTable.l0 kq l0_1 (l0_1.length : Int) x10_1 a0_0 l0_1 l0_2 = some r) ∧ Aside0 (kq ≤ k) ∧ Aside0 (w'.heap[gb105]? = some (.cells #[.int .i64 a0_0, (.slice A0_1 l0_1.length c0_1), (.slice A0_2 l0_2.length c0_2)] 38 (0, 0))) ∧ Aside0 (Below w.heap.size w w'))
 case atStart => exact ⟨(0), er, H', ⟨Nat.le_refl _⟩, ⟨blkd BK105⟩, ⟨belowg1 HB GE105⟩⟩
 case round =>
  clear H'
  (try clear hcz3_0); (try clear hcz3_1); (try clear hcz3_2); (try clear hfz3_0); (try clear hfz3_1); (try clear hfz3_2)
  obtain ⟨x10_1, rfl, HA, HK1, BK105, HB⟩ := hrel
  cases gk with
  | zero => exact absurd HA.out (by simp [spec_GoodTable.l0])
  | succ k1 =>
   have H := HA.out; clear HA
   simp only [spec_GoodTable.l0] at H
   by_cases c4 : x10_1 < (l0_1.length : Int)
   ·rw [if_pos c4] at H
    have c4b0 : decide (x10_1 < (l0_1.length : Int)) = true := decide_eq_true c4
    clear c4; replace H := ifS H; obtain ⟨c5, H⟩ := H; have c5b0 := decide_eq_true c5; clear c5; replace H := ifS H; obtain ⟨c6, H⟩ := H; have c6b0 := decide_eq_true c6; clear c6; have HC7 := Aside0.mk H; clear H
    have p108 : 0 ≤ (x10_1 : Int) := da
    have q108 : x10_1 < (l0_1.length : Int) := da
    obtain ⟨ad108, A108_0, c108_0, e108, hx108_0, hl108_0, hi108_0⟩ := at_L1 HR0_1.out x10_1 p108 q108
    cases e108
    replace hx108_0 := (HB.out.cell (World.block_lt_of_cell? w _ hx108_0)).trans hx108_0
    have HR108_0 := Aside0.mk hi108_0; have HC108_0 := Aside0.mk hl108_0; clear hi108_0 hl108_0; replace p108 := eq_true p108; replace q108 := eq_true q108
    go_upto_region 4 with (fail)
    go_cut [46] (fun v46 wc => ∃ (kq : Nat) (x46_6 : Bool), v46 = .bool x46_6 ∧ Aside0 (spec_GoodTable.j1 kq x10_1 (rd_L1 l0_1 x10_1) l0_1 (l0_1.length : Int) x10_1 x46_6 a0_0 l0_1 l0_2 = some r) ∧ Aside0 (kq ≤ k1) ∧ Aside0 (wc.heap[gb105]? = some (.cells #[.int .i64 a0_0, (.slice (some ad108) l0_1.length c0_1), (.slice A0_2 l0_2.length c0_2)] 38 (0, 0))) ∧ Aside0 (Below w.heap.size w wc))
    case first =>
     have H := HC7.out; clear HC7
     by_cases c8 : ((rd_L1 l0_1 x10_1).length : Int) = 2
     ·rw [if_pos c8] at H
      have c8b0 : (((rd_L1 l0_1 x10_1).length : Int) == 2) = true := beq_iff_eq.mpr c8
      have c8b1 : (((rd_L1 l0_1 x10_1).length : Int) != 2) = false := bne_eq_false_iff_eq.mpr c8
      clear c8
      (first | rw [c8b0] | (simp only [i64_w, i32_w]; rw [c8b0]) | skip)
      replace H := ifS H; obtain ⟨c9, H⟩ := H; have c9b0 := decide_eq_true c9
      have c9b1 : decide (0 < (rd_L1 l0_1 x10_1).length) = true := decide_eq_true (by omega)
      clear c9; replace H := bS H; obtain ⟨t110, A10, H⟩ := H
      replace H : (if t110 = true then (if 1 < ((rd_L1 l0_1 x10_1).length : Int) then ((spec_l1In.f (rd (rd_L1 l0_1 x10_1) 1) 0 (wrap64 (a0_0 - 1))).bind fun t112 => (if t112 = true then (spec_GoodTable.j1 k1 x10_1 (rd_L1 l0_1 x10_1) l0_1 (l0_1.length : Int) x10_1 (decide ((rd (rd_L1 l0_1 x10_1) 0) ≥ (rd (rd_L1 l0_1 x10_1) 1))) a0_0 l0_1 l0_2) else (spec_GoodTable.j1 k1 x10_1 (rd_L1 l0_1 x10_1) l0_1 (l0_1.length : Int) x10_1 true a0_0 l0_1 l0_2))) else (none)) else (spec_GoodTable.j1 k1 x10_1 (rd_L1 l0_1 x10_1) l0_1 (l0_1.length : Int) x10_1 true a0_0 l0_1 l0_2)) = some r := H
      by_cases c11 : t110 = true
      ·subst c11
       have H1 : (if 1 < ((rd_L1 l0_1 x10_1).length : Int) then ((spec_l1In.f (rd (rd_L1 l0_1 x10_1) 1) 0 (wrap64 (a0_0 - 1))).bind fun t112 => (if t112 = true then (spec_GoodTable.j1 k1 x10_1 (rd_L1 l0_1 x10_1) l0_1 (l0_1.length : Int) x10_1 (decide ((rd (rd_L1 l0_1 x10_1) 0) ≥ (rd (rd_L1 l0_1 x10_1) 1))) a0_0 l0_1 l0_2) else (spec_GoodTable.j1 k1 x10_1 (rd_L1 l0_1 x10_1) l0_1 (l0_1.length : Int) x10_1 true a0_0 l0_1 l0_2))) else (none)) = some r := by rw [if_pos rfl] at H; exact H
       clear H
       have H := H1
       clear H1; replace H := ifS H; obtain ⟨c12, H⟩ := H; have c12b0 := decide_eq_true c12
       have c12b1 : decide (1 < (rd_L1 l0_1 x10_1).length) = true := decide_eq_true (by omega)
       clear c12; replace H := bS H; obtain ⟨t112, A13, H⟩ := H
       replace H : (if t112 = true then (spec_GoodTable.j1 k1 x10_1 (rd_L1 l0_1 x10_1) l0_1 (l0_1.length : Int) x10_1 (decide ((rd (rd_L1 l0_1 x10_1) 0) ≥ (rd (rd_L1 l0_1 x10_1) 1))) a0_0 l0_1 l0_2) else (spec_GoodTable.j1 k1 x10_1 (rd_L1 l0_1 x10_1) l0_1 (l0_1.length : Int) x10_1 true a0_0 l0_1 l0_2)) = some r := H
       by_cases c14 : t112 = true
       ·subst c14
        have H1 : (spec_GoodTable.j1 k1 x10_1 (rd_L1 l0_1 x10_1) l0_1 (l0_1.length : Int) x10_1 (decide ((rd (rd_L1 l0_1 x10_1) 0) ≥ (rd (rd_L1 l0_1 x10_1) 1))) a0_0 l0_1 l0_2) = some r := by rw [if_pos rfl] at H; exact H
        clear H
        have H := H1
        clear H1
        have H' := Aside0.mk H
        clear H
        try go_wp2
        replace BK105 := ak (blk_drew BK105.out)
        replace HB := ak (below_drew1 HB.out)
        have p109 : 0 ≤ (0 : Int) := (by omega)
        have q109 : 0 < ((rd_L1 l0_1 x10_1).length : Int) := da
        obtain ⟨ad109, e109, hx109_0⟩ := Kd.at_int HR108_0.out 0 p109 q109
        have hw109_0 := hx109_0
        (try rw [show ((0 : Int)).toNat = 0 from rfl] at hw109_0)
        (try rw [show 0 * 1 = 0 from rfl] at hw109_0)
        (try rw [Addr.add_zero'] at hw109_0)
        cases e109
        have qi109 : (0 < (rd_L1 l0_1 x10_1).length) = True := eq_true (by omega)
        (try rw [show ((0 : Int)).toNat = 0 from rfl] at hx109_0)
        (try rw [Addr.add_zero'] at hx109_0)
        replace hx109_0 := (HB.out.cell (World.block_lt_of_cell? w _ hx109_0)).trans hx109_0
        replace p109 := eq_true p109; replace q109 := eq_true q109
        have p111 : 0 ≤ (1 : Int) := (by omega)
        have q111 : 1 < ((rd_L1 l0_1 x10_1).length : Int) := da
        obtain ⟨ad111, e111, hx111_0⟩ := Kd.at_int HR108_0.out 1 p111 q111
        have hw111_0 := hx111_0
        (try rw [show ((1 : Int)).toNat = 1 from rfl] at hw111_0)
        (try rw [show 1 * 1 = 1 from rfl] at hw111_0)
        (try simp only [Nat.reduceMul, Nat.reduceEqDiff, Go.Addr.add, ↓reduceIte] at hw111_0)
        obtain rfl : ad109 = ad111 := (by injection e111)
        (try simp only [show (1 : Int).toNat = 1 from rfl, Nat.reduceMul, Nat.reduceEqDiff, Go.Addr.add, ↓reduceIte] at hx111_0)
        have qi111 : (1 < (rd_L1 l0_1 x10_1).length) = True := eq_true (by omega)
        (try rw [show ((1 : Int)).toNat = 1 from rfl] at hx111_0)
        replace hx111_0 := (HB.out.cell (World.block_lt_of_cell? w _ hx111_0)).trans hx111_0
        replace p111 := eq_true p111; replace q111 := eq_true q111
        have p113 : 0 ≤ (0 : Int) := (by omega)
        have q113 : 0 < ((rd_L1 l0_1 x10_1).length : Int) := da
        obtain ⟨ad113, e113, hx113_0⟩ := Kd.at_int HR108_0.out 0 p113 q113
        have hw113_0 := hx113_0
        (try rw [show ((0 : Int)).toNat = 0 from rfl] at hw113_0)
        (try rw [show 0 * 1 = 0 from rfl] at hw113_0)
        (try rw [Addr.add_zero'] at hw113_0)
        obtain rfl : ad109 = ad113 := (by injection e113)
        have qi113 : (0 < (rd_L1 l0_1 x10_1).length) = True := eq_true (by omega)
        (try rw [show ((0 : Int)).toNat = 0 from rfl] at hx113_0)
        (try rw [Addr.add_zero'] at hx113_0)
        replace hx113_0 := (HB.out.cell (World.block_lt_of_cell? w _ hx113_0)).trans hx113_0
        replace p113 := eq_true p113; replace q113 := eq_true q113
        have p114 : 0 ≤ (1 : Int) := (by omega)
        have q114 : 1 < ((rd_L1 l0_1 x10_1).length : Int) := da
        obtain ⟨ad114, e114, hx114_0⟩ := Kd.at_int HR108_0.out 1 p114 q114
        have hw114_0 := hx114_0
        (try rw [show ((1 : Int)).toNat = 1 from rfl] at hw114_0)
        (try rw [show 1 * 1 = 1 from rfl] at hw114_0)
        (try simp only [Nat.reduceMul, Nat.reduceEqDiff, Go.Addr.add, ↓reduceIte] at hw114_0)
        obtain rfl : ad109 = ad114 := (by injection e114)
        (try simp only [show (1 : Int).toNat = 1 from rfl, Nat.reduceMul, Nat.reduceEqDiff, Go.Addr.add, ↓reduceIte] at hx114_0)
        have qi114 : (1 < (rd_L1 l0_1 x10_1).length) = True := eq_true (by omega)
        (try rw [show ((1 : Int)).toNat = 1 from rfl] at hx114_0)
        replace hx114_0 := (HB.out.cell (World.block_lt_of_cell? w _ hx114_0)).trans hx114_0
        replace p114 := eq_true p114; replace q114 := eq_true q114
        refine start_ (n := 32) (S := fun w' => w'.cell? ⟨gb105, 0, none⟩ = some (.int .i64 a0_0) ∧ w'.cell? ⟨gb105, 1, none⟩ = some (.slice (some ad108) l0_1.length c0_1) ∧ w'.cell? ⟨gb105, 2, none⟩ = some (.slice A0_2 l0_2.length c0_2) ∧ w'.cell? ad109 = some (.int .i64 (rd (rd_L1 l0_1 x10_1) 0)) ∧ w'.cell? ⟨ad109.block, ad109.off + 1, none⟩ = some (.int .i64 (rd (rd_L1 l0_1 x10_1) 1)) ∧ w'.cell? ad109 = some (.int .i64 (rd (rd_L1 l0_1 x10_1) 0)) ∧ w'.cell? ⟨ad109.block, ad109.off + 1, none⟩ = some (.int .i64 (rd (rd_L1 l0_1 x10_1) 1))) (ds := []) (bl 32 0) (by kernel_rfl) rfl rfl ⟨bq BK105 0, bq BK105 1, bq BK105 2, ((HB.out.cell (World.block_lt_of_cell? w _ hw109_0)).trans hw109_0), ((HB.out.cell (World.block_lt_of_cell? w _ hw111_0)).trans hw111_0), ((HB.out.cell (World.block_lt_of_cell? w _ hw113_0)).trans hw113_0), ((HB.out.cell (World.block_lt_of_cell? w _ hw114_0)).trans hw114_0)⟩ (fun hHeld => ?_); refine with_tabW spec_GoodTable.tab4 spec_GoodTable.bits4 (fun HT_ HW_ => ?_)
        generalize wr.drew = w15 at BK105 HB hx109_0 hx111_0 hx113_0 hx114_0 hHeld ⊢
        refine pureA 0 (some 15) 32 1 HT_ ?_
        refine pureA 1 (some 16) 32 3 HT_ ?_
        refine pureA 2 (some 17) 32 7 HT_ ?_
        refine pureA 3 (some 18) 32 15 HT_ ?_
        refine pureA 4 (some 19) 32 31 HT_ ?_
        refine pureA 5 (some 20) 32 63 HT_ ?_
        refine pureA 7 (some 22) 32 191 HT_ ?_
        refine takeA 6 (some 21) 32 255 HT_ HW_ hHeld ?_ (hy := by rintro w' ⟨s0, s1, s2, s3, s4, s5, s6⟩; go_simp; with_reducible rfl)
        refine takeA 8 (some 23) 32 511 HT_ HW_ hHeld ?_ (hy := by rintro w' ⟨s0, s1, s2, s3, s4, s5, s6⟩; go_simp; with_reducible rfl)
        refine pureA 9 (some 24) 32 1023 HT_ ?_
        refine oneA 10 (some 25) 32 2047 HT_ (fun K hK => ?_)
        refine goes_ Try.func81 (by kernel_rfl) rfl #[.int .i64 (rd (rd_L1 l0_1 x10_1) 0), .int .i64 0, .int .i64 (wrap64 (a0_0 - 1))] (by rfl) rfl rfl (by (try simp only [List.map_toArray, List.map_cons, List.map_nil]); first | done | rfl | (simp only [List.length_drop, List.length_take]; rfl)) ?_
        with_reducible refine (spec_l1In.calls (rd (rd_L1 l0_1 x10_1) 0) 0 (wrap64 (a0_0 - 1)) true _ A10.out).mono ?_
        rintro e w' ⟨rfl, ⟨nd, rfl⟩⟩
        refine ⟨_, rfl, ?_⟩
        refine hK.out _ _ ⟨bq BK105 0, bq BK105 1, bq BK105 2, ((HB.out.cell (World.block_lt_of_cell? w _ hw109_0)).trans hw109_0), ((HB.out.cell (World.block_lt_of_cell? w _ hw111_0)).trans hw111_0), ((HB.out.cell (World.block_lt_of_cell? w _ hw113_0)).trans hw113_0), ((HB.out.cell (World.block_lt_of_cell? w _ hw114_0)).trans hw114_0)⟩ (fun hHeld => ?_)
        clear hK K
        refine norm_ (a' := ?_) ?_ ?_
        rotate_left
        ·show Act.put _ (some 25) _ = _
         simp only [Act.put, List.setIfInBounds_toArray, List.set_cons_zero, List.set_cons_succ, i64_w, i32_w]
         rfl
        refine pureA 11 (some 26) 32 4095 HT_ ?_
        refine pureA 12 (some 27) 32 8191 HT_ ?_
        refine pureA 13 (some 28) 32 16383 HT_ ?_
        refine pureA 14 (some 29) 32 32767 HT_ ?_
        refine pureA 15 (some 30) 32 65535 HT_ ?_
        refine pureA 17 (some 32) 32 196607 HT_ ?_
        refine takeA 16 (some 31) 32 262143 HT_ HW_ hHeld ?_ (hy := by rintro w' ⟨s0, s1, s2, s3, s4, s5, s6⟩; go_simp; with_reducible rfl)
        refine takeA 18 (some 33) 32 524287 HT_ HW_ hHeld ?_ (hy := by rintro w' ⟨s0, s1, s2, s3, s4, s5, s6⟩; go_simp; with_reducible rfl)
        refine pureA 19 (some 34) 32 1048575 HT_ ?_
        refine oneA 20 (some 35) 32 2097151 HT_ (fun K hK => ?_)
        refine goes_ Try.func81 (by kernel_rfl) rfl #[.int .i64 (rd (rd_L1 l0_1 x10_1) 1), .int .i64 0, .int .i64 (wrap64 (a0_0 - 1))] (by rfl) rfl rfl (by (try simp only [List.map_toArray, List.map_cons, List.map_nil]); first | done | rfl | (simp only [List.length_drop, List.length_take]; rfl)) ?_
        with_reducible refine (spec_l1In.calls (rd (rd_L1 l0_1 x10_1) 1) 0 (wrap64 (a0_0 - 1)) true _ A13.out).mono ?_
        rintro e w' ⟨rfl, ⟨nd, rfl⟩⟩
        refine ⟨_, rfl, ?_⟩
        refine hK.out _ _ ⟨bq BK105 0, bq BK105 1, bq BK105 2, ((HB.out.cell (World.block_lt_of_cell? w _ hw109_0)).trans hw109_0), ((HB.out.cell (World.block_lt_of_cell? w _ hw111_0)).trans hw111_0), ((HB.out.cell (World.block_lt_of_cell? w _ hw113_0)).trans hw113_0), ((HB.out.cell (World.block_lt_of_cell? w _ hw114_0)).trans hw114_0)⟩ (fun hHeld => ?_)
        clear hK K
        refine norm_ (a' := ?_) ?_ ?_
        rotate_left
        ·show Act.put _ (some 35) _ = _
         simp only [Act.put, List.setIfInBounds_toArray, List.set_cons_zero, List.set_cons_succ, i64_w, i32_w]
         rfl
        refine pureA 21 (some 36) 32 4194303 HT_ ?_
        refine pureA 22 (some 37) 32 8388607 HT_ ?_
        refine pureA 23 (some 38) 32 16777215 HT_ ?_
        refine pureA 24 (some 39) 32 33554431 HT_ ?_
        refine pureA 25 (some 40) 32 67108863 HT_ ?_
        refine pureA 27 (some 42) 32 201326591 HT_ ?_
        refine pureA 28 (some 43) 32 469762047 HT_ ?_
        refine takeA 26 (some 41) 32 536870911 HT_ HW_ hHeld ?_ (hy := by rintro w' ⟨s0, s1, s2, s3, s4, s5, s6⟩; go_simp; with_reducible rfl)
        refine takeA 29 (some 44) 32 1073741823 HT_ HW_ hHeld ?_ (hy := by rintro w' ⟨s0, s1, s2, s3, s4, s5, s6⟩; go_simp; with_reducible rfl)
        refine pureA 30 (some 45) 32 2147483647 HT_ ?_
        refine pureA 31 (some 46) 32 4294967295 HT_ ?_
        refine done_ (done_of HT_.out (by kernel_rfl)) ?_
        try go_wp2
        go_meet
        case rel => exact ⟨_, (decide ((rd (rd_L1 l0_1 x10_1) 0) ≥ (rd (rd_L1 l0_1 x10_1) 1))), er, H', ⟨by have := HK1.out; first | omega | exact Nat.le_refl _⟩, ⟨blkd BK105⟩, ⟨belowg1 HB GE105⟩⟩
       ·replace c14 := Bool.eq_false_iff.mpr c14
        subst c14
        have H1 : (spec_GoodTable.j1 k1 x10_1 (rd_L1 l0_1 x10_1) l0_1 (l0_1.length : Int) x10_1 true a0_0 l0_1 l0_2) = some r := by rw [if_neg (show ¬ (false = true) by decide)] at H; exact H
        clear H
        have H := H1
        clear H1
        have H' := Aside0.mk H
        clear H
        try go_wp2
        replace BK105 := ak (blk_drew BK105.out)
        replace HB := ak (below_drew1 HB.out)
        have p109 : 0 ≤ (0 : Int) := (by omega)
        have q109 : 0 < ((rd_L1 l0_1 x10_1).length : Int) := da
        obtain ⟨ad109, e109, hx109_0⟩ := Kd.at_int HR108_0.out 0 p109 q109
        have hw109_0 := hx109_0
        (try rw [show ((0 : Int)).toNat = 0 from rfl] at hw109_0)
        (try rw [show 0 * 1 = 0 from rfl] at hw109_0)
        (try rw [Addr.add_zero'] at hw109_0)
        cases e109
        have qi109 : (0 < (rd_L1 l0_1 x10_1).length) = True := eq_true (by omega)
        (try rw [show ((0 : Int)).toNat = 0 from rfl] at hx109_0)
        (try rw [Addr.add_zero'] at hx109_0)
        replace hx109_0 := (HB.out.cell (World.block_lt_of_cell? w _ hx109_0)).trans hx109_0
        replace p109 := eq_true p109; replace q109 := eq_true q109
        have p111 : 0 ≤ (1 : Int) := (by omega)
        have q111 : 1 < ((rd_L1 l0_1 x10_1).length : Int) := da
        obtain ⟨ad111, e111, hx111_0⟩ := Kd.at_int HR108_0.out 1 p111 q111
        have hw111_0 := hx111_0
        (try rw [show ((1 : Int)).toNat = 1 from rfl] at hw111_0)
        (try rw [show 1 * 1 = 1 from rfl] at hw111_0)
        (try simp only [Nat.reduceMul, Nat.reduceEqDiff, Go.Addr.add, ↓reduceIte] at hw111_0)
        obtain rfl : ad109 = ad111 := (by injection e111)
        (try simp only [show (1 : Int).toNat = 1 from rfl, Nat.reduceMul, Nat.reduceEqDiff, Go.Addr.add, ↓reduceIte] at hx111_0)
        have qi111 : (1 < (rd_L1 l0_1 x10_1).length) = True := eq_true (by omega)
        (try rw [show ((1 : Int)).toNat = 1 from rfl] at hx111_0)
        replace hx111_0 := (HB.out.cell (World.block_lt_of_cell? w _ hx111_0)).trans hx111_0
        replace p111 := eq_true p111; replace q111 := eq_true q111
        refine start_ (n := 32) (S := fun w' => w'.cell? ⟨gb105, 0, none⟩ = some (.int .i64 a0_0) ∧ w'.cell? ⟨gb105, 1, none⟩ = some (.slice (some ad108) l0_1.length c0_1) ∧ w'.cell? ⟨gb105, 2, none⟩ = some (.slice A0_2 l0_2.length c0_2) ∧ w'.cell? ad109 = some (.int .i64 (rd (rd_L1 l0_1 x10_1) 0)) ∧ w'.cell? ⟨ad109.block, ad109.off + 1, none⟩ = some (.int .i64 (rd (rd_L1 l0_1 x10_1) 1))) (ds := []) (bl 32 0) (by kernel_rfl) rfl rfl ⟨bq BK105 0, bq BK105 1, bq BK105 2, ((HB.out.cell (World.block_lt_of_cell? w _ hw109_0)).trans hw109_0), ((HB.out.cell (World.block_lt_of_cell? w _ hw111_0)).trans hw111_0)⟩ (fun hHeld => ?_); refine with_tabW spec_GoodTable.tab4 spec_GoodTable.bits4 (fun HT_ HW_ => ?_)
        generalize wr.drew = w16 at BK105 HB hx109_0 hx111_0 hHeld ⊢
        refine pureA 0 (some 15) 32 1 HT_ ?_
        refine pureA 1 (some 16) 32 3 HT_ ?_
        refine pureA 2 (some 17) 32 7 HT_ ?_
        refine pureA 3 (some 18) 32 15 HT_ ?_
        refine pureA 4 (some 19) 32 31 HT_ ?_
        refine pureA 5 (some 20) 32 63 HT_ ?_
        refine pureA 7 (some 22) 32 191 HT_ ?_
        refine takeA 6 (some 21) 32 255 HT_ HW_ hHeld ?_ (hy := by rintro w' ⟨s0, s1, s2, s3, s4⟩; go_simp; with_reducible rfl)
        refine takeA 8 (some 23) 32 511 HT_ HW_ hHeld ?_ (hy := by rintro w' ⟨s0, s1, s2, s3, s4⟩; go_simp; with_reducible rfl)
        refine pureA 9 (some 24) 32 1023 HT_ ?_
        refine oneA 10 (some 25) 32 2047 HT_ (fun K hK => ?_)
        refine goes_ Try.func81 (by kernel_rfl) rfl #[.int .i64 (rd (rd_L1 l0_1 x10_1) 0), .int .i64 0, .int .i64 (wrap64 (a0_0 - 1))] (by rfl) rfl rfl (by (try simp only [List.map_toArray, List.map_cons, List.map_nil]); first | done | rfl | (simp only [List.length_drop, List.length_take]; rfl)) ?_
        with_reducible refine (spec_l1In.calls (rd (rd_L1 l0_1 x10_1) 0) 0 (wrap64 (a0_0 - 1)) true _ A10.out).mono ?_
        rintro e w' ⟨rfl, ⟨nd, rfl⟩⟩
        refine ⟨_, rfl, ?_⟩
        refine hK.out _ _ ⟨bq BK105 0, bq BK105 1, bq BK105 2, ((HB.out.cell (World.block_lt_of_cell? w _ hw109_0)).trans hw109_0), ((HB.out.cell (World.block_lt_of_cell? w _ hw111_0)).trans hw111_0)⟩ (fun hHeld => ?_)
        clear hK K
        refine norm_ (a' := ?_) ?_ ?_
        rotate_left
        ·show Act.put _ (some 25) _ = _
         simp only [Act.put, List.setIfInBounds_toArray, List.set_cons_zero, List.set_cons_succ, i64_w, i32_w]
         rfl
        refine pureA 11 (some 26) 32 4095 HT_ ?_
        refine pureA 12 (some 27) 32 8191 HT_ ?_
        refine pureA 13 (some 28) 32 16383 HT_ ?_
        refine pureA 14 (some 29) 32 32767 HT_ ?_
        refine pureA 15 (some 30) 32 65535 HT_ ?_
        refine pureA 17 (some 32) 32 196607 HT_ ?_
        refine takeA 16 (some 31) 32 262143 HT_ HW_ hHeld ?_ (hy := by rintro w' ⟨s0, s1, s2, s3, s4⟩; go_simp; with_reducible rfl)
        refine takeA 18 (some 33) 32 524287 HT_ HW_ hHeld ?_ (hy := by rintro w' ⟨s0, s1, s2, s3, s4⟩; go_simp; with_reducible rfl)
        refine pureA 19 (some 34) 32 1048575 HT_ ?_
        refine oneA 20 (some 35) 32 2097151 HT_ (fun K hK => ?_)
        refine goes_ Try.func81 (by kernel_rfl) rfl #[.int .i64 (rd (rd_L1 l0_1 x10_1) 1), .int .i64 0, .int .i64 (wrap64 (a0_0 - 1))] (by rfl) rfl rfl (by (try simp only [List.map_toArray, List.map_cons, List.map_nil]); first | done | rfl | (simp only [List.length_drop, List.length_take]; rfl)) ?_
        with_reducible refine (spec_l1In.calls (rd (rd_L1 l0_1 x10_1) 1) 0 (wrap64 (a0_0 - 1)) false _ A13.out).mono ?_
        rintro e w' ⟨rfl, ⟨nd, rfl⟩⟩
        refine ⟨_, rfl, ?_⟩
        refine hK.out _ _ ⟨bq BK105 0, bq BK105 1, bq BK105 2, ((HB.out.cell (World.block_lt_of_cell? w _ hw109_0)).trans hw109_0), ((HB.out.cell (World.block_lt_of_cell? w _ hw111_0)).trans hw111_0)⟩ (fun hHeld => ?_)
        clear hK K
        refine norm_ (a' := ?_) ?_ ?_
        rotate_left
        ·show Act.put _ (some 35) _ = _
         simp only [Act.put, List.setIfInBounds_toArray, List.set_cons_zero, List.set_cons_succ, i64_w, i32_w]
         rfl
        refine pureA 21 (some 36) 32 4194303 HT_ ?_
        refine pureA 22 (some 37) 32 8388607 HT_ ?_
        refine pureA 23 (some 38) 32 16777215 HT_ ?_
        refine pureB 24 (some 39) 32 33554431 HT_ ?_
        refine pureB 25 (some 40) 32 67108863 HT_ ?_
        refine pureB 26 (some 41) 32 134217727 HT_ ?_
        refine pureB 27 (some 42) 32 268435455 HT_ ?_
        refine pureB 28 (some 43) 32 536870911 HT_ ?_
        refine pureB 29 (some 44) 32 1073741823 HT_ ?_
        refine pureB 30 (some 45) 32 2147483647 HT_ ?_
        refine pureA 31 (some 46) 32 4294967295 HT_ ?_
        refine done_ (done_of HT_.out (by kernel_rfl)) ?_
        try go_wp2
        go_meet
        case rel => exact ⟨_, (true), er, H', ⟨by have := HK1.out; first | omega | exact Nat.le_refl _⟩, ⟨blkd BK105⟩, ⟨belowg1 HB GE105⟩⟩
      ·replace c11 := Bool.eq_false_iff.mpr c11
       subst c11
       have H1 : (spec_GoodTable.j1 k1 x10_1 (rd_L1 l0_1 x10_1) l0_1 (l0_1.length : Int) x10_1 true a0_0 l0_1 l0_2) = some r := by rw [if_neg (show ¬ (false = true) by decide)] at H; exact H
       clear H
       have H := H1
       clear H1
       have H' := Aside0.mk H
       clear H
       try go_wp2
       replace BK105 := ak (blk_drew BK105.out)
       replace HB := ak (below_drew1 HB.out)
       have p109 : 0 ≤ (0 : Int) := (by omega)
       have q109 : 0 < ((rd_L1 l0_1 x10_1).length : Int) := da
       obtain ⟨ad109, e109, hx109_0⟩ := Kd.at_int HR108_0.out 0 p109 q109
       have hw109_0 := hx109_0
       (try rw [show ((0 : Int)).toNat = 0 from rfl] at hw109_0)
       (try rw [show 0 * 1 = 0 from rfl] at hw109_0)
       (try rw [Addr.add_zero'] at hw109_0)
       cases e109
       have qi109 : (0 < (rd_L1 l0_1 x10_1).length) = True := eq_true (by omega)
       (try rw [show ((0 : Int)).toNat = 0 from rfl] at hx109_0)
       (try rw [Addr.add_zero'] at hx109_0)
       replace hx109_0 := (HB.out.cell (World.block_lt_of_cell? w _ hx109_0)).trans hx109_0
       replace p109 := eq_true p109; replace q109 := eq_true q109
       refine start_ (n := 32) (S := fun w' => w'.cell? ⟨gb105, 0, none⟩ = some (.int .i64 a0_0) ∧ w'.cell? ⟨gb105, 1, none⟩ = some (.slice (some ad108) l0_1.length c0_1) ∧ w'.cell? ⟨gb105, 2, none⟩ = some (.slice A0_2 l0_2.length c0_2) ∧ w'.cell? ad109 = some (.int .i64 (rd (rd_L1 l0_1 x10_1) 0))) (ds := []) (bl 32 0) (by kernel_rfl) rfl rfl ⟨bq BK105 0, bq BK105 1, bq BK105 2, ((HB.out.cell (World.block_lt_of_cell? w _ hw109_0)).trans hw109_0)⟩ (fun hHeld => ?_); refine with_tabW spec_GoodTable.tab4 spec_GoodTable.bits4 (fun HT_ HW_ => ?_)
       generalize wr.drew = w17 at BK105 HB hx109_0 hHeld ⊢
       refine pureA 0 (some 15) 32 1 HT_ ?_
       refine pureA 1 (some 16) 32 3 HT_ ?_
       refine pureA 2 (some 17) 32 7 HT_ ?_
       refine pureA 3 (some 18) 32 15 HT_ ?_
       refine pureA 4 (some 19) 32 31 HT_ ?_
       refine pureA 5 (some 20) 32 63 HT_ ?_
       refine pureA 7 (some 22) 32 191 HT_ ?_
       refine takeA 6 (some 21) 32 255 HT_ HW_ hHeld ?_ (hy := by rintro w' ⟨s0, s1, s2, s3⟩; go_simp; with_reducible rfl)
       refine takeA 8 (some 23) 32 511 HT_ HW_ hHeld ?_ (hy := by rintro w' ⟨s0, s1, s2, s3⟩; go_simp; with_reducible rfl)
       refine pureA 9 (some 24) 32 1023 HT_ ?_
       refine oneA 10 (some 25) 32 2047 HT_ (fun K hK => ?_)
       refine goes_ Try.func81 (by kernel_rfl) rfl #[.int .i64 (rd (rd_L1 l0_1 x10_1) 0), .int .i64 0, .int .i64 (wrap64 (a0_0 - 1))] (by rfl) rfl rfl (by (try simp only [List.map_toArray, List.map_cons, List.map_nil]); first | done | rfl | (simp only [List.length_drop, List.length_take]; rfl)) ?_
       with_reducible refine (spec_l1In.calls (rd (rd_L1 l0_1 x10_1) 0) 0 (wrap64 (a0_0 - 1)) false _ A10.out).mono ?_
       rintro e w' ⟨rfl, ⟨nd, rfl⟩⟩
       refine ⟨_, rfl, ?_⟩
       refine hK.out _ _ ⟨bq BK105 0, bq BK105 1, bq BK105 2, ((HB.out.cell (World.block_lt_of_cell? w _ hw109_0)).trans hw109_0)⟩ (fun hHeld => ?_)
       clear hK K
       refine norm_ (a' := ?_) ?_ ?_
       rotate_left
       ·show Act.put _ (some 25) _ = _
        simp only [Act.put, List.setIfInBounds_toArray, List.set_cons_zero, List.set_cons_succ, i64_w, i32_w]
        rfl
       refine pureA 11 (some 26) 32 4095 HT_ ?_
       refine pureA 12 (some 27) 32 8191 HT_ ?_
       refine pureA 13 (some 28) 32 16383 HT_ ?_
       refine pureB 14 (some 29) 32 32767 HT_ ?_
       refine pureB 15 (some 30) 32 65535 HT_ ?_
       refine pureB 16 (some 31) 32 131071 HT_ ?_
       refine pureB 17 (some 32) 32 262143 HT_ ?_
       refine pureB 18 (some 33) 32 524287 HT_ ?_
       refine pureB 19 (some 34) 32 1048575 HT_ ?_
       refine pureB 20 (some 35) 32 2097151 HT_ ?_
       refine pureB 21 (some 36) 32 4194303 HT_ ?_
       refine pureA 22 (some 37) 32 8388607 HT_ ?_
       refine pureA 23 (some 38) 32 16777215 HT_ ?_
       refine pureB 24 (some 39) 32 33554431 HT_ ?_
       refine pureB 25 (some 40) 32 67108863 HT_ ?_
       refine pureB 26 (some 41) 32 134217727 HT_ ?_
       refine pureB 27 (some 42) 32 268435455 HT_ ?_
       refine pureB 28 (some 43) 32 536870911 HT_ ?_
       refine pureB 29 (some 44) 32 1073741823 HT_ ?_
       refine pureB 30 (some 45) 32 2147483647 HT_ ?_
       refine pureA 31 (some 46) 32 4294967295 HT_ ?_
       refine done_ (done_of HT_.out (by kernel_rfl)) ?_
       try go_wp2
       go_meet
       case rel => exact ⟨_, (true), er, H', ⟨by have := HK1.out; first | omega | exact Nat.le_refl _⟩, ⟨blkd BK105⟩, ⟨belowg1 HB GE105⟩⟩
     ·rw [if_neg c8] at H
      have c8b0 : (((rd_L1 l0_1 x10_1).length : Int) == 2) = false := beq_eq_false_iff_ne.mpr c8
      have c8b1 : (((rd_L1 l0_1 x10_1).length : Int) != 2) = true := bne_iff_ne.mpr c8
      (first | rw [c8b0] | (simp only [i64_w, i32_w]; rw [c8b0]) | skip)
      have H' := Aside0.mk H
      clear H
      try go_wp2
      replace BK105 := ak (blk_drew BK105.out)
      replace HB := ak (below_drew1 HB.out)
      refine start_ (n := 32) (S := fun w' => True) (ds := []) (bl 32 0) (by kernel_rfl) rfl rfl trivial (fun hHeld => ?_); refine with_tabW spec_GoodTable.tab4 spec_GoodTable.bits4 (fun HT_ HW_ => ?_)
      generalize wr.drew = w18 at BK105 HB hHeld ⊢
      refine pureA 0 (some 15) 32 1 HT_ ?_
      refine pureA 1 (some 16) 32 3 HT_ ?_
      refine pureA 2 (some 17) 32 7 HT_ ?_
      refine pureA 3 (some 18) 32 15 HT_ ?_
      refine pureB 4 (some 19) 32 31 HT_ ?_
      refine pureB 5 (some 20) 32 63 HT_ ?_
      refine pureB 6 (some 21) 32 127 HT_ ?_
      refine pureB 7 (some 22) 32 255 HT_ ?_
      refine pureB 8 (some 23) 32 511 HT_ ?_
      refine pureB 9 (some 24) 32 1023 HT_ ?_
      refine pureB 10 (some 25) 32 2047 HT_ ?_
      refine pureB 11 (some 26) 32 4095 HT_ ?_
      refine pureA 12 (some 27) 32 8191 HT_ ?_
      refine pureA 13 (some 28) 32 16383 HT_ ?_
      refine pureB 14 (some 29) 32 32767 HT_ ?_
      refine pureB 15 (some 30) 32 65535 HT_ ?_
      refine pureB 16 (some 31) 32 131071 HT_ ?_
      refine pureB 17 (some 32) 32 262143 HT_ ?_
      refine pureB 18 (some 33) 32 524287 HT_ ?_
      refine pureB 19 (some 34) 32 1048575 HT_ ?_
      refine pureB 20 (some 35) 32 2097151 HT_ ?_
      refine pureB 21 (some 36) 32 4194303 HT_ ?_
      refine pureA 22 (some 37) 32 8388607 HT_ ?_
      refine pureA 23 (some 38) 32 16777215 HT_ ?_
      refine pureB 24 (some 39) 32 33554431 HT_ ?_
      refine pureB 25 (some 40) 32 67108863 HT_ ?_
      refine pureB 26 (some 41) 32 134217727 HT_ ?_
      refine pureB 27 (some 42) 32 268435455 HT_ ?_
      refine pureB 28 (some 43) 32 536870911 HT_ ?_
      refine pureB 29 (some 44) 32 1073741823 HT_ ?_
      refine pureB 30 (some 45) 32 2147483647 HT_ ?_
      refine pureA 31 (some 46) 32 4294967295 HT_ ?_
      refine done_ (done_of HT_.out (by kernel_rfl)) ?_
      try go_wp2
      go_meet
      case rel => exact ⟨_, (true), er, H', ⟨by have := HK1.out; first | omega | exact Nat.le_refl _⟩, ⟨blkd BK105⟩, ⟨belowg1 HB GE105⟩⟩
    case rest =>
     clear HC7
     obtain ⟨kq, x46_6, rfl, HA, HJ6, BK105, HB⟩ := hcut
     cases kq with
     | zero => exact absurd HA.out (by simp [spec_GoodTable.j1])
     | succ kj6 =>
      have H := HA.out; clear HA
      simp only [spec_GoodTable.j1] at H
      by_cases c19 : x46_6 = true
      ·subst c19
       have H1 : (some false) = some r := by rw [if_pos rfl] at H; exact H
       clear H
       have H := H1
       clear H1
       obtain rfl := Option.some.inj H
       go_wp2
       go_ret
       exact ⟨er2, belowg1 HB GE105⟩
      ·replace c19 := Bool.eq_false_iff.mpr c19
       subst c19
       have H1 : (if 0 ≤ x10_1 then (if x10_1 ≤ (l0_1.length : Int) then ((some (l0_1.take (x10_1 : Int).toNat : List (List Int))).bind fun y115 => (spec_GoodTable.l1 kj6 (rd_L1 l0_1 x10_1) l0_1 (l0_1.length : Int) x10_1 y115 (y115.length : Int) 0 a0_0 l0_1 l0_2)) else (none)) else (none)) = some r := by rw [if_neg (show ¬ (false = true) by decide)] at H; exact H
       clear H
       have H := H1
       clear H1; replace H := ifS H; obtain ⟨c20, H⟩ := H; have c20b0 := eq_true c20
       have c20b1 : decide (0 ≤ x10_1) = true := decide_eq_true c20
       clear c20; replace H := ifS H; obtain ⟨c21, H⟩ := H; have c21b0 := eq_true c21
       have c21b1 : decide (x10_1 ≤ (l0_1.length : Int)) = true := decide_eq_true c21
       clear c21
       obtain ⟨y115, hy_⟩ : ∃ y_ : List (List Int), y_ = (l0_1.take (x10_1 : Int).toNat) := ⟨_, rfl⟩
       replace H : (spec_GoodTable.l1 kj6 (rd_L1 l0_1 x10_1) l0_1 (l0_1.length : Int) x10_1 y115 (y115.length : Int) 0 a0_0 l0_1 l0_2) = some r := yH
       have Ny115 := ak hy_; clear hy_
       have H' := Aside0.mk H
       clear H; obtain ⟨hcz22_0, hcz22_1, hcz22_2, hfz22_0, hfz22_1, hfz22_2⟩ := box3 BK105
       have q23 : (x10_1 : Int) ≤ ((l0_1.length : Int) : Int) := da
       obtain ⟨i023, hi023, _, hsz23, _⟩ := info_parts info22
       have hroom23 : l0_1.length ≤ c0_1 := HC0_1.out
       have hC23 : Kd.C (Kd.slice 3 (Kd.int .i64)) _ (some ad108) l0_1.length l0_1 := HR0_1.out
       have hcut23 := cut_to (P := Try.prog) 32 22 .i64 Try.underlying32 hi023 (some ad108) l0_1.length c0_1 x10_1 (da) q23 hroom23
       have hr23 := Kd.C_take (m := (x10_1 : Int).toNat) hC23 (by omega)
       have hy23 : y115.length = (x10_1 : Int).toNat := (by rw [Ny115.out, List.length_take]; omega)
       rw [← Ny115.out] at hr23
       rw [← hy23] at hcut23
       have HR118 := Aside0.mk hr23
       have HC118 := Aside0.mk (show y115.length ≤ c0_1 from by omega)
       clear hr23 hC23 hroom23 hi023 hsz23; have KY23 := Aside0.mk hy23; clear hy23; replace q23 := eq_true q23; go_wp2
       go_loopg [52] kj6 (fun kq v52 w' => ∃ (x52_3 : Int), v52 = .int .i64 x52_3 ∧ Aside0 (spec_GoodTable.l1 kq (rd_L1 l0_1 x10_1) l0_1 (l0_1.length : Int) x10_1 y115 (y115.length : Int) x52_3 a0_0 l0_1 l0_2 = some r) ∧ Aside0 (kq ≤ kj6) ∧ Aside0 (w'.heap[gb105]? = some (.cells #[.int .i64 a0_0, (.slice (some ad108) l0_1.length c0_1), (.slice A0_2 l0_2.length c0_2)] 38 (0, 0))) ∧ Aside0 (Below w.heap.size w w'))
       case atStart => exact ⟨(0), er, H', ⟨Nat.le_refl _⟩, ⟨blkd BK105⟩, ⟨belowg1 HB GE105⟩⟩
       case round =>
        clear H'
        (try clear c19); (try clear c20b0); (try clear c20b1); (try clear c21b0); (try clear c21b1); (try clear q23); (try clear hcz22_0); (try clear hcz22_1); (try clear hcz22_2); (try clear hfz22_0); (try clear hfz22_1); (try clear hfz22_2)
        obtain ⟨x52_3, rfl, HA, HK3, BK105, HB⟩ := hrel
        cases gk with
        | zero => exact absurd HA.out (by simp [spec_GoodTable.l1])
        | succ k3 =>
         have H := HA.out; clear HA
         simp only [spec_GoodTable.l1] at H
         by_cases c24 : x52_3 < (y115.length : Int)
         ·rw [if_pos c24] at H
          have c24b0 : decide (x52_3 < (y115.length : Int)) = true := decide_eq_true c24
          clear c24; replace H := ifS H; obtain ⟨c25, H⟩ := H; have c25b0 := decide_eq_true c25; clear c25; replace H := ifS H; obtain ⟨c26, H⟩ := H; have c26b0 := decide_eq_true c26; clear c26; replace H := bS H; obtain ⟨t120, A27, H⟩ := H
          replace H : (if t120 = true then (some false) else (spec_GoodTable.l1 k3 (rd_L1 l0_1 x10_1) l0_1 (l0_1.length : Int) x10_1 y115 (y115.length : Int) (wrap64 (x52_3 + 1)) a0_0 l0_1 l0_2)) = some r := H
          by_cases c28 : t120 = true
          ·subst c28
           have H1 : (some false) = some r := by rw [if_pos rfl] at H; exact H
           clear H
           have H := H1
           clear H1
           obtain rfl := Option.some.inj H
           have p119 : 0 ≤ (x52_3 : Int) := da
           have q119 : x52_3 < (y115.length : Int) := da
           obtain ⟨ad119, A119_0, c119_0, e119, hx119_0, hl119_0, hi119_0⟩ := at_L1 HR118.out x52_3 p119 q119
           obtain rfl : ad108 = ad119 := (by injection e119)
           replace hx119_0 := (HB.out.cell (World.block_lt_of_cell? w _ hx119_0)).trans hx119_0
           have HR119_0 := Aside0.mk hi119_0; have HC119_0 := Aside0.mk hl119_0; clear hi119_0 hl119_0; replace p119 := eq_true p119; replace q119 := eq_true q119
           go_wp2_with (first | ((with_reducible refine gate_callee (f := 128) rfl ?_); refine goesLa (some 58) rfl Try.func128 #[.slice A108_0 (rd_L1 l0_1 x10_1).length c108_0, .slice A119_0 (rd_L1 y115 x52_3).length c119_0] rfl ?_; (with_reducible refine (spec_l1Same.calls k3 _ _ (rd_L1 l0_1 x10_1) _ _ (rd_L1 y115 x52_3) true _ ?side1 ?side2 ?side3 ?side4 A27.out).mono ?_); (case side1 => exact cd (Kd.C_below HR108_0.out HB.out)); (case side2 => exact HC108_0.out); (case side3 => exact cd (Kd.C_below HR119_0.out HB.out)); (case side4 => exact HC119_0.out); rintro e w' ⟨rfl, ⟨nd, rfl⟩⟩; refine ⟨_, rfl, ?_⟩))
           go_ret
           exact ⟨er2, belowg1 HB GE105⟩
          ·replace c28 := Bool.eq_false_iff.mpr c28
           subst c28
           have H1 : (spec_GoodTable.l1 k3 (rd_L1 l0_1 x10_1) l0_1 (l0_1.length : Int) x10_1 y115 (y115.length : Int) (wrap64 (x52_3 + 1)) a0_0 l0_1 l0_2) = some r := by rw [if_neg (show ¬ (false = true) by decide)] at H; exact H
           clear H
           have H := H1
           clear H1
           have H' := Aside0.mk H
           clear H
           have p119 : 0 ≤ (x52_3 : Int) := da
           have q119 : x52_3 < (y115.length : Int) := da
           obtain ⟨ad119, A119_0, c119_0, e119, hx119_0, hl119_0, hi119_0⟩ := at_L1 HR118.out x52_3 p119 q119
           obtain rfl : ad108 = ad119 := (by injection e119)
           replace hx119_0 := (HB.out.cell (World.block_lt_of_cell? w _ hx119_0)).trans hx119_0
           have HR119_0 := Aside0.mk hi119_0; have HC119_0 := Aside0.mk hl119_0; clear hi119_0 hl119_0; replace p119 := eq_true p119; replace q119 := eq_true q119
           go_wp2_with (first | ((with_reducible refine gate_callee (f := 128) rfl ?_); refine goesLa (some 58) rfl Try.func128 #[.slice A108_0 (rd_L1 l0_1 x10_1).length c108_0, .slice A119_0 (rd_L1 y115 x52_3).length c119_0] rfl ?_; (with_reducible refine (spec_l1Same.calls k3 _ _ (rd_L1 l0_1 x10_1) _ _ (rd_L1 y115 x52_3) false _ ?side1 ?side2 ?side3 ?side4 A27.out).mono ?_); (case side1 => exact cd (Kd.C_below HR108_0.out HB.out)); (case side2 => exact HC108_0.out); (case side3 => exact cd (Kd.C_below HR119_0.out HB.out)); (case side4 => exact HC119_0.out); rintro e w' ⟨rfl, ⟨nd, rfl⟩⟩; refine ⟨_, rfl, ?_⟩))
           go_roundg k3
           case measure => have := HK1.out; have := HJ6.out; have := HK3.out; omega
           case rel => exact ⟨(wrap64 (x52_3 + 1)), er, H', ⟨by have := HK1.out; have := HJ6.out; have := HK3.out; omega⟩, ⟨blkd BK105⟩, ⟨belowg1 HB GE105⟩⟩
         ·rw [if_neg c24] at H
          have c24b0 : decide (x52_3 < (y115.length : Int)) = false := decide_eq_false c24
          clear c24
          have H' := Aside0.mk H
          clear H; go_wp2
          go_roundg k3
          case measure => have := HK1.out; have := HJ6.out; have := HK3.out; omega
          case rel => exact ⟨(wrap64 (x10_1 + 1)), er, H', ⟨by have := HK1.out; have := HJ6.out; have := HK3.out; omega⟩, ⟨blkd BK105⟩, ⟨belowg1 HB GE105⟩⟩
   ·rw [if_neg c4] at H
    have c4b0 : decide (x10_1 < (l0_1.length : Int)) = false := decide_eq_false c4
    clear c4; replace H := bS H; obtain ⟨t106, A29, H⟩ := H
    replace H : (if t106 = true then (if (l0_1.length : Int) ≤ 15 then (if (l0_2.length : Int) = (l0_1.length : Int) then ((spec_l1All.f k1 l0_2 0 255).bind fun t107 => (some t107)) else (some false)) else (some false)) else (some false)) = some r := H
    by_cases c30 : t106 = true
    ·subst c30
     have H1 : (if (l0_1.length : Int) ≤ 15 then (if (l0_2.length : Int) = (l0_1.length : Int) then ((spec_l1All.f k1 l0_2 0 255).bind fun t107 => (some t107)) else (some false)) else (some false)) = some r := by rw [if_pos rfl] at H; exact H
     clear H
     have H := H1
     clear H1
     by_cases c31 : (l0_1.length : Int) ≤ 15
     ·rw [if_pos c31] at H
      have c31b0 : decide ((l0_1.length : Int) ≤ 15) = true := decide_eq_true c31
      have c31b1 : decide (l0_1.length ≤ 15) = true := decide_eq_true (by omega)
      clear c31
      by_cases c32 : (l0_2.length : Int) = (l0_1.length : Int)
      ·rw [if_pos c32] at H
       have c32b0 : ((l0_2.length : Int) == (l0_1.length : Int)) = true := beq_iff_eq.mpr c32
       have c32b1 : ((l0_2.length : Int) != (l0_1.length : Int)) = false := bne_eq_false_iff_eq.mpr c32
       have c32b2 : (l0_2.length == l0_1.length) = true := by first | simpa using c32 | (simp at c32 ⊢; omega)
       clear c32; replace H := bS H; obtain ⟨t107, A33, H⟩ := H
       replace H : (some t107) = some r := H
       obtain rfl := Option.some.inj H
       obtain ⟨hcz34_0, hcz34_1, hcz34_2, hfz34_0, hfz34_1, hfz34_2⟩ := box3 BK105
       go_wp2_with (first | ((with_reducible refine gate_callee (f := 81) rfl ?_); refine goesLa (some 63) rfl Try.func81 #[.int .i64 a0_0, .int .i64 1, .int .i64 6] rfl ?_; (with_reducible refine (spec_l1In.calls a0_0 1 6 true _ A29.out).mono ?_); rintro e w' ⟨rfl, ⟨nd, rfl⟩⟩; refine ⟨_, rfl, ?_⟩) | (go_at_call 82; (with_reducible refine (spec_l1All.calls k1 _ _ l0_2 0 255 t107 _ ?side1 ?side2 A33.out).mono ?_); (case side1 => exact cd (Kd.C_below HR0_2.out (belowg1 HB GE105))); (case side2 => exact HC0_2.out); rintro e w' ⟨rfl, ⟨nd, rfl⟩⟩))
       go_ret
       exact ⟨er2, belowg1 HB GE105⟩
      ·rw [if_neg c32] at H
       have c32b0 : ((l0_2.length : Int) == (l0_1.length : Int)) = false := beq_eq_false_iff_ne.mpr c32
       have c32b1 : ((l0_2.length : Int) != (l0_1.length : Int)) = true := bne_iff_ne.mpr c32
       have c32b2 : (l0_2.length == l0_1.length) = false := by first | simpa using c32 | (simp at c32 ⊢; omega)
       obtain rfl := Option.some.inj H
       obtain ⟨hcz35_0, hcz35_1, hcz35_2, hfz35_0, hfz35_1, hfz35_2⟩ := box3 BK105
       go_wp2_with (first | ((with_reducible refine gate_callee (f := 81) rfl ?_); refine goesLa (some 63) rfl Try.func81 #[.int .i64 a0_0, .int .i64 1, .int .i64 6] rfl ?_; (with_reducible refine (spec_l1In.calls a0_0 1 6 true _ A29.out).mono ?_); rintro e w' ⟨rfl, ⟨nd, rfl⟩⟩; refine ⟨_, rfl, ?_⟩))
       go_ret
       exact ⟨er2, belowg1 HB GE105⟩
     ·rw [if_neg c31] at H
      have c31b0 : decide ((l0_1.length : Int) ≤ 15) = false := decide_eq_false c31
      have c31b1 : decide (l0_1.length ≤ 15) = false := decide_eq_false (by omega)
      clear c31
      obtain rfl := Option.some.inj H
      obtain ⟨hcz36_0, hcz36_1, hcz36_2, hfz36_0, hfz36_1, hfz36_2⟩ := box3 BK105
      go_wp2_with (first | ((with_reducible refine gate_callee (f := 81) rfl ?_); refine goesLa (some 63) rfl Try.func81 #[.int .i64 a0_0, .int .i64 1, .int .i64 6] rfl ?_; (with_reducible refine (spec_l1In.calls a0_0 1 6 true _ A29.out).mono ?_); rintro e w' ⟨rfl, ⟨nd, rfl⟩⟩; refine ⟨_, rfl, ?_⟩))
      go_ret
      exact ⟨er2, belowg1 HB GE105⟩
    ·replace c30 := Bool.eq_false_iff.mpr c30
     subst c30
     have H1 : (some false) = some r := by rw [if_neg (show ¬ (false = true) by decide)] at H; exact H
     clear H
     have H := H1
     clear H1
     obtain rfl := Option.some.inj H
     obtain ⟨hcz37_0, hcz37_1, hcz37_2, hfz37_0, hfz37_1, hfz37_2⟩ := box3 BK105
     go_wp2_with (first | ((with_reducible refine gate_callee (f := 81) rfl ?_); refine goesLa (some 63) rfl Try.func81 #[.int .i64 a0_0, .int .i64 1, .int .i64 6] rfl ?_; (with_reducible refine (spec_l1In.calls a0_0 1 6 false _ A29.out).mono ?_); rintro e w' ⟨rfl, ⟨nd, rfl⟩⟩; refine ⟨_, rfl, ?_⟩))
     go_ret
     exact ⟨er2, belowg1 HB GE105⟩

/-! ### spec_l15Byte: function 119 -/
def spec_l15Byte.f (a0 : Int) : Option (Bool) := (spec_l1In.f a0 0 255).bind fun t121 => (some t121)
set_option maxHeartbeats 8000000 in
set_option maxRecDepth 100000 in
theorem spec_l15Byte.calls (a0 : Int) (r : Bool) (w : World) (h : spec_l15Byte.f a0 = some r) :
  Calls Try.prog 119 #[.int .i64 a0] w fun e w' => e = .returned (.bool r) ∧ Drawn0 w w' := by
 have H : ((spec_l1In.f a0 0 255).bind fun t121 => (some t121)) = some r := h
 clear h; replace H := bS H; obtain ⟨t121, A2, H⟩ := H
 replace H : (some t121) = some r := H
 obtain rfl := Option.some.inj H
 go_enter Try.func119, Try.ntmps119
 go_wp2_with (first | ((with_reducible refine gate_callee (f := 81) rfl ?_); refine goesLa (some 4) rfl Try.func81 #[.int .i64 a0, .int .i64 0, .int .i64 255] rfl ?_; (with_reducible refine (spec_l1In.calls a0 0 255 t121 _ A2.out).mono ?_); rintro e w' ⟨rfl, ⟨nd, rfl⟩⟩; refine ⟨_, rfl, ?_⟩))
 go_ret
 exact ⟨er, drw⟩

/-! ### spec_l15Asked: function 95 -/
def spec_l15Asked.f (k : Nat) (a0_0 : Int) (l0_1 : List (List Int)) (l0_2 : List Int) (a1 : Int) (a2 : Int) : Option (Bool) := (spec_GoodTable.f k a0_0 l0_1 l0_2).bind fun t123 => (if t123 = true then ((spec_l1In.f a1 (-1) (wrap64 (a0_0 - 1))).bind fun t124 => (if t124 = true then ((spec_l15Byte.f a2).bind fun t125 => (some t125)) else (some false))) else (some false))
theorem spec_l15Asked.mono : ∀ a0 a1 a2 a3 a4 k, LeO (spec_l15Asked.f k a0 a1 a2 a3 a4) (spec_l15Asked.f (k + 1) a0 a1 a2 a3 a4) := by
 intro a0 a1 a2 a3 a4 k
 unfold spec_l15Asked.f
 repeat' (first | (with_reducible first | exact spec_GoodTable.mono _ _ _ _ | exact LeO.refl _ | exact LeO.none _ | refine LeO.ite ?_ ?_ | refine LeO.bind ?_ (fun _ => ?_)) | exact spec_GoodTable.mono _ _ _ _ | exact LeO.none _ | refine LeO.ite ?_ ?_ | refine LeO.bind ?_ (fun _ => ?_))
set_option maxHeartbeats 8000000 in
set_option maxRecDepth 100000 in
theorem spec_l15Asked.calls (k : Nat) (a0_0 : Int) (A0_1 : Option Addr) (c0_1 : Nat) (l0_1 : List (List Int)) (A0_2 : Option Addr) (c0_2 : Nat) (l0_2 : List Int) (a1 : Int) (a2 : Int) (r : Bool) (w : World) (hr0_1 : Kd.C (Kd.slice 3 (Kd.int .i64)) w A0_1 l0_1.length l0_1) (hc0_1 : l0_1.length ≤ c0_1) (hr0_2 : Kd.C (Kd.int .i64) w A0_2 l0_2.length l0_2) (hc0_2 : l0_2.length ≤ c0_2) (h : spec_l15Asked.f k a0_0 l0_1 l0_2 a1 a2 = some r) :
  Calls Try.prog 95 #[.agg #[.int .i64 a0_0, .slice A0_1 l0_1.length c0_1, .slice A0_2 l0_2.length c0_2], .int .i64 a1, .int .i64 a2] w fun e w' => e = .returned (.bool r) ∧ Below w.heap.size w w' := by
 have hu38 := Try.underlying38
 have HR0_1 := Aside0.mk hr0_1; have HC0_1 := Aside0.mk hc0_1; clear hr0_1 hc0_1; have HR0_2 := Aside0.mk hr0_2; have HC0_2 := Aside0.mk hc0_2; clear hr0_2 hc0_2
 have HB := Aside0.mk (Below.refl w.heap.size w)
 have H : ((spec_GoodTable.f k a0_0 l0_1 l0_2).bind fun t123 => (if t123 = true then ((spec_l1In.f a1 (-1) (wrap64 (a0_0 - 1))).bind fun t124 => (if t124 = true then ((spec_l15Byte.f a2).bind fun t125 => (some t125)) else (some false))) else (some false))) = some r := h
 clear h; replace H := bS H; obtain ⟨t123, A4, H⟩ := H
 replace H : (if t123 = true then ((spec_l1In.f a1 (-1) (wrap64 (a0_0 - 1))).bind fun t124 => (if t124 = true then ((spec_l15Byte.f a2).bind fun t125 => (some t125)) else (some false))) else (some false)) = some r := H
 by_cases c5 : t123 = true
 ·subst c5
  have H1 : ((spec_l1In.f a1 (-1) (wrap64 (a0_0 - 1))).bind fun t124 => (if t124 = true then ((spec_l15Byte.f a2).bind fun t125 => (some t125)) else (some false))) = some r := by rw [if_pos rfl] at H; exact H
  clear H
  have H := H1
  clear H1; replace H := bS H; obtain ⟨t124, A6, H⟩ := H
  replace H : (if t124 = true then ((spec_l15Byte.f a2).bind fun t125 => (some t125)) else (some false)) = some r := H
  by_cases c7 : t124 = true
  ·subst c7
   have H1 : ((spec_l15Byte.f a2).bind fun t125 => (some t125)) = some r := by rw [if_pos rfl] at H; exact H
   clear H
   have H := H1
   clear H1; replace H := bS H; obtain ⟨t125, A8, H⟩ := H
   replace H : (some t125) = some r := H
   obtain rfl := Option.some.inj H
   go_enter Try.func95, Try.ntmps95
   go_wp2_with (first | ((with_reducible refine gate_dst (N := 3) rfl ?_); refine boxev 3 #[.int .i64 a0_0, .slice A0_1 l0_1.length c0_1, .slice A0_2 l0_2.length c0_2] 38 ?_; intro gb122 hg w9 hbox hb; have BK122 := ak (hbox); have GW122 := ak (hgl hg (belowd HB)); have GE122 := ak (hgl hg (belowd HB)); replace HB := ak (below_step (belowd HB) hb); clear hb hbox hg; obtain ⟨hcz10_0, hcz10_1, hcz10_2, hfz10_0, hfz10_1, hfz10_2⟩ := box3 BK122) | ((with_reducible refine gate_callee (f := 60) rfl ?_); refine goesLa (some 8) rfl Try.func60 #[.agg #[.int .i64 a0_0, .slice A0_1 l0_1.length c0_1, .slice A0_2 l0_2.length c0_2]] rfl ?_; (with_reducible refine (spec_GoodTable.calls k a0_0 _ _ l0_1 _ _ l0_2 true _ ?side1 ?side2 ?side3 ?side4 A4.out).mono ?_); (case side1 => exact cd (Kd.C_below HR0_1.out HB.out)); (case side2 => exact HC0_1.out); (case side3 => exact cd (Kd.C_below HR0_2.out HB.out)); (case side4 => exact HC0_2.out); rintro e w11 ⟨rfl, hb⟩; refine ⟨_, rfl, ?_⟩; replace BK122 := ak (blk_below (blkd BK122) hb); replace HB := ak (below_step (belowg1 HB GE122) hb); (try clear hb); obtain ⟨hcz12_0, hcz12_1, hcz12_2, hfz12_0, hfz12_1, hfz12_2⟩ := box3 BK122) | (go_at_call 81; (with_reducible refine (spec_l1In.calls a1 (-1) (wrap64 (a0_0 - 1)) true _ A6.out).mono ?_); rintro e w' ⟨rfl, ⟨nd, rfl⟩⟩) | (go_at_call 119; (with_reducible refine (spec_l15Byte.calls a2 t125 _ A8.out).mono ?_); rintro e w' ⟨rfl, ⟨nd, rfl⟩⟩))
   go_ret
   exact ⟨er2, belowg1 HB GE122⟩
  ·replace c7 := Bool.eq_false_iff.mpr c7
   subst c7
   have H1 : (some false) = some r := by rw [if_neg (show ¬ (false = true) by decide)] at H; exact H
   clear H
   have H := H1
   clear H1
   obtain rfl := Option.some.inj H
   go_enter Try.func95, Try.ntmps95
   go_wp2_with (first | ((with_reducible refine gate_dst (N := 3) rfl ?_); refine boxev 3 #[.int .i64 a0_0, .slice A0_1 l0_1.length c0_1, .slice A0_2 l0_2.length c0_2] 38 ?_; intro gb122 hg w13 hbox hb; have BK122 := ak (hbox); have GW122 := ak (hgl hg (belowd HB)); have GE122 := ak (hgl hg (belowd HB)); replace HB := ak (below_step (belowd HB) hb); clear hb hbox hg; obtain ⟨hcz14_0, hcz14_1, hcz14_2, hfz14_0, hfz14_1, hfz14_2⟩ := box3 BK122) | ((with_reducible refine gate_callee (f := 60) rfl ?_); refine goesLa (some 8) rfl Try.func60 #[.agg #[.int .i64 a0_0, .slice A0_1 l0_1.length c0_1, .slice A0_2 l0_2.length c0_2]] rfl ?_; (with_reducible refine (spec_GoodTable.calls k a0_0 _ _ l0_1 _ _ l0_2 true _ ?side1 ?side2 ?side3 ?side4 A4.out).mono ?_); (case side1 => exact cd (Kd.C_below HR0_1.out HB.out)); (case side2 => exact HC0_1.out); (case side3 => exact cd (Kd.C_below HR0_2.out HB.out)); (case side4 => exact HC0_2.out); rintro e w15 ⟨rfl, hb⟩; refine ⟨_, rfl, ?_⟩; replace BK122 := ak (blk_below (blkd BK122) hb); replace HB := ak (below_step (belowg1 HB GE122) hb); (try clear hb); obtain ⟨hcz16_0, hcz16_1, hcz16_2, hfz16_0, hfz16_1, hfz16_2⟩ := box3 BK122) | (go_at_call 81; (with_reducible refine (spec_l1In.calls a1 (-1) (wrap64 (a0_0 - 1)) false _ A6.out).mono ?_); rintro e w' ⟨rfl, ⟨nd, rfl⟩⟩))
   go_ret
   exact ⟨er2, belowg1 HB GE122⟩
 ·replace c5 := Bool.eq_false_iff.mpr c5
  subst c5
  have H1 : (some false) = some r := by rw [if_neg (show ¬ (false = true) by decide)] at H; exact H
  clear H
  have H := H1
  clear H1
  obtain rfl := Option.some.inj H
  go_enter Try.func95, Try.ntmps95
  go_wp2_with (first | ((with_reducible refine gate_dst (N := 3) rfl ?_); refine boxev 3 #[.int .i64 a0_0, .slice A0_1 l0_1.length c0_1, .slice A0_2 l0_2.length c0_2] 38 ?_; intro gb122 hg w17 hbox hb; have BK122 := ak (hbox); have GW122 := ak (hgl hg (belowd HB)); have GE122 := ak (hgl hg (belowd HB)); replace HB := ak (below_step (belowd HB) hb); clear hb hbox hg; obtain ⟨hcz18_0, hcz18_1, hcz18_2, hfz18_0, hfz18_1, hfz18_2⟩ := box3 BK122) | ((with_reducible refine gate_callee (f := 60) rfl ?_); refine goesLa (some 8) rfl Try.func60 #[.agg #[.int .i64 a0_0, .slice A0_1 l0_1.length c0_1, .slice A0_2 l0_2.length c0_2]] rfl ?_; (with_reducible refine (spec_GoodTable.calls k a0_0 _ _ l0_1 _ _ l0_2 false _ ?side1 ?side2 ?side3 ?side4 A4.out).mono ?_); (case side1 => exact cd (Kd.C_below HR0_1.out HB.out)); (case side2 => exact HC0_1.out); (case side3 => exact cd (Kd.C_below HR0_2.out HB.out)); (case side4 => exact HC0_2.out); rintro e w19 ⟨rfl, hb⟩; refine ⟨_, rfl, ?_⟩; replace BK122 := ak (blk_below (blkd BK122) hb); replace HB := ak (below_step (belowg1 HB GE122) hb); (try clear hb)))
  go_ret
  exact ⟨er2, belowg1 HB GE122⟩

end Go.Proofs.Ytpibdgknmjjolaa.QFnTable
