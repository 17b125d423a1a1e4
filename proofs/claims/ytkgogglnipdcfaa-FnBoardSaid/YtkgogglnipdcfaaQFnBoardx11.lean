-- printed by this session's own program (wip/tools/pp.py: the kit's print.py with changes); Lean checks it
import Derived.Test.YtkgogglnipdcfaaQFnBoardx0
import Derived.Test.YtkgogglnipdcfaaQFnBoardx2
import Derived.Test.YtkgogglnipdcfaaQFnBoardx3
import Derived.Test.YtkgogglnipdcfaaQFnBoardx5
import Derived.Test.YtkgogglnipdcfaaQFnBoardx10
namespace Go.Proofs.Ytkgogglnipdcfaa.QFnBoard
open Go.RowKit Go.Proofs.YtkgogglnipdcfaaW.PrintWords Go.Proofs.YtkgogglnipdcfaaW.PrintLast Go.Proofs.YtkgogglnipdcfaaW.PrintMore
attribute [local go_sem] max2_int min2_int max_two min_two max_three min_three max_four min_four strLss strGtr strLeq strGeq   -- for this text's walks alone
set_option linter.unusedVariables false
set_option linter.unusedSimpArgs false

/-! ### laws_sameRows: function 123 -/
def laws_sameRows.l0 : Nat → List (List Int) → List (List Int) → Int → Int → Option (Bool)
  | 0, _, _, _, _ => none
  | k + 1, x0, x1, x12, x13 => if x13 < x12 then (if 0 ≤ x13 then (if x13 < (x0.length : Int) then (if x13 < (x1.length : Int) then ((laws_sameInts.f k (rd_L3 x0 x13) (rd_L3 x1 x13)).bind fun t453 => (if t453 = true then (laws_sameRows.l0 k x0 x1 x12 (wrap64 (x13 + 1))) else (some false))) else (none)) else (none)) else (none)) else (some true)
def laws_sameRows.f (k : Nat) (l0 : List (List Int)) (l1 : List (List Int)) : Option (Bool) := if (l0.length : Int) = (l1.length : Int) then (laws_sameRows.l0 k l0 l1 (l0.length : Int) 0) else (some false)
theorem laws_sameRows.mono_l : ∀ k, (∀ y0 y1 y2 y3, LeO (laws_sameRows.l0 k y0 y1 y2 y3) (laws_sameRows.l0 (k + 1) y0 y1 y2 y3))
 | 0 => fun _ _ _ _ r h => by simp [laws_sameRows.l0] at h
 | k + 1 => by
  have ih0 := laws_sameRows.mono_l k
  ·intro y0 y1 y2 y3
   unfold laws_sameRows.l0
   repeat' (first | (with_reducible first | exact ih0 _ _ _ _ | exact laws_sameInts.mono _ _ _ | exact LeO.refl _ | exact LeO.none _ | refine LeO.ite ?_ ?_ | refine LeO.bind ?_ (fun _ => ?_)) | exact ih0 _ _ _ _ | exact laws_sameInts.mono _ _ _ | exact LeO.none _ | refine LeO.ite ?_ ?_ | refine LeO.bind ?_ (fun _ => ?_))
theorem laws_sameRows.mono : ∀ a0 a1 k, LeO (laws_sameRows.f k a0 a1) (laws_sameRows.f (k + 1) a0 a1) := by
 intro a0 a1 k
 have ih0 := laws_sameRows.mono_l k
 unfold laws_sameRows.f
 repeat' (first | (with_reducible first | exact ih0 _ _ _ _ | exact laws_sameInts.mono _ _ _ | exact LeO.refl _ | exact LeO.none _ | refine LeO.ite ?_ ?_ | refine LeO.bind ?_ (fun _ => ?_)) | exact ih0 _ _ _ _ | exact laws_sameInts.mono _ _ _ | exact LeO.none _ | refine LeO.ite ?_ ?_ | refine LeO.bind ?_ (fun _ => ?_))
set_option maxHeartbeats 8000000 in
set_option maxRecDepth 100000 in
theorem laws_sameRows.calls (k : Nat) (A0 : Option Addr) (c0 : Nat) (l0 : List (List Int)) (A1 : Option Addr) (c1 : Nat) (l1 : List (List Int)) (r : Bool) (w : World) (hr0 : Kd.C (Kd.slice 3 (Kd.int .i64)) w A0 l0.length l0) (hc0 : l0.length ≤ c0) (hr1 : Kd.C (Kd.slice 3 (Kd.int .i64)) w A1 l1.length l1) (hc1 : l1.length ≤ c1) (h : laws_sameRows.f k l0 l1 = some r) :
  Calls Try.prog 123 #[.slice A0 l0.length c0, .slice A1 l1.length c1] w fun e w' => e = .returned (.bool r) ∧ Drawn0 w w' := by
 have HR0 := Aside0.mk hr0; have HC0 := Aside0.mk hc0; clear hr0 hc0; have HR1 := Aside0.mk hr1; have HC1 := Aside0.mk hc1; clear hr1 hc1
 have H : (if (l0.length : Int) = (l1.length : Int) then (laws_sameRows.l0 k l0 l1 (l0.length : Int) 0) else (some false)) = some r := h
 clear h
 by_cases c3 : (l0.length : Int) = (l1.length : Int)
 ·rw [if_pos c3] at H
  have c3b0 : ((l0.length : Int) == (l1.length : Int)) = true := beq_iff_eq.mpr c3
  have c3b1 : ((l0.length : Int) != (l1.length : Int)) = false := bne_eq_false_iff_eq.mpr c3
  have c3b2 : (l0.length == l1.length) = true := by first | simpa using c3 | (simp at c3 ⊢; omega)
  clear c3
  have H' := Aside0.mk H
  clear H
  go_enter Try.func123, Try.ntmps123
  go_wp2
  repeat (go_quiet (fail); try go_wp2)
  go_loopg [13] k (fun kq v13 w' => ∃ (x13_1 : Int), v13 = .int .i64 x13_1 ∧ Aside0 (laws_sameRows.l0 kq l0 l1 (l0.length : Int) x13_1 = some r) ∧ Aside0 (kq ≤ k) ∧ Drawn0 w w')
  case atStart => exact ⟨(0), er, H', ⟨Nat.le_refl _⟩, drw⟩
  case round =>
   clear H'
   (try clear c1); (try clear c3b0); (try clear c3b1); (try clear c3b2)
   obtain ⟨x13_1, rfl, HA, HK1, ⟨m1, rfl⟩⟩ := hrel
   cases gk with
   | zero => exact absurd HA.out (by simp [laws_sameRows.l0])
   | succ k1 =>
    have H := HA.out; clear HA
    simp only [laws_sameRows.l0] at H
    by_cases c4 : x13_1 < (l0.length : Int)
    ·rw [if_pos c4] at H
     have c4b0 : decide (x13_1 < (l0.length : Int)) = true := decide_eq_true c4
     clear c4; replace H := ifS H; obtain ⟨c5, H⟩ := H; have c5b0 := decide_eq_true c5; clear c5; replace H := ifS H; obtain ⟨c6, H⟩ := H; have c6b0 := decide_eq_true c6; clear c6; replace H := ifS H; obtain ⟨c7, H⟩ := H; have c7b0 := decide_eq_true c7; clear c7; replace H := bS H; obtain ⟨t453, A8, H⟩ := H
     replace H : (if t453 = true then (laws_sameRows.l0 k1 l0 l1 (l0.length : Int) (wrap64 (x13_1 + 1))) else (some false)) = some r := H
     by_cases c9 : t453 = true
     ·subst c9
      have H1 : (laws_sameRows.l0 k1 l0 l1 (l0.length : Int) (wrap64 (x13_1 + 1))) = some r := by rw [if_pos rfl] at H; exact H
      clear H
      have H := H1
      clear H1
      have H' := Aside0.mk H
      clear H
      have p451 : 0 ≤ (x13_1 : Int) := da
      have q451 : x13_1 < (l0.length : Int) := da
      obtain ⟨ad451, A451_0, c451_0, e451, hx451_0, hl451_0, hi451_0⟩ := at_L3 HR0.out x13_1 p451 q451
      cases e451
      have HR451_0 := Aside0.mk hi451_0; have HC451_0 := Aside0.mk hl451_0; clear hi451_0 hl451_0; replace p451 := eq_true p451; replace q451 := eq_true q451
      have p452 : 0 ≤ (x13_1 : Int) := da
      have q452 : x13_1 < (l1.length : Int) := da
      obtain ⟨ad452, A452_0, c452_0, e452, hx452_0, hl452_0, hi452_0⟩ := at_L3 HR1.out x13_1 p452 q452
      cases e452
      have HR452_0 := Aside0.mk hi452_0; have HC452_0 := Aside0.mk hl452_0; clear hi452_0 hl452_0; replace p452 := eq_true p452; replace q452 := eq_true q452
      go_wp2_with (first | (go_at_call 61; (with_reducible refine (laws_sameInts.calls k1 _ _ (rd_L3 l0 x13_1) _ _ (rd_L3 l1 x13_1) true _ ?side1 ?side2 ?side3 ?side4 A8.out).mono ?_); (case side1 => exact cd HR451_0.out); (case side2 => exact HC451_0.out); (case side3 => exact cd HR452_0.out); (case side4 => exact HC452_0.out); rintro e w' ⟨rfl, ⟨nd, rfl⟩⟩; (try first | exact ⟨rfl, _, World.drewN_drewN _ _ _⟩ | exact ⟨rfl, _, Eq.trans (World.drewN_drewN _ _ _) (congrArg (World.drewN _) (Nat.add_assoc _ _ _))⟩)))
      repeat (go_quiet (first | (go_at_call 61; (with_reducible refine (laws_sameInts.calls k1 _ _ (rd_L3 l0 x13_1) _ _ (rd_L3 l1 x13_1) true _ ?side1 ?side2 ?side3 ?side4 A8.out).mono ?_); (case side1 => exact cd HR451_0.out); (case side2 => exact HC451_0.out); (case side3 => exact cd HR452_0.out); (case side4 => exact HC452_0.out); rintro e w' ⟨rfl, ⟨nd, rfl⟩⟩; (try first | exact ⟨rfl, _, World.drewN_drewN _ _ _⟩ | exact ⟨rfl, _, Eq.trans (World.drewN_drewN _ _ _) (congrArg (World.drewN _) (Nat.add_assoc _ _ _))⟩))); try go_wp2_with (first | (go_at_call 61; (with_reducible refine (laws_sameInts.calls k1 _ _ (rd_L3 l0 x13_1) _ _ (rd_L3 l1 x13_1) true _ ?side1 ?side2 ?side3 ?side4 A8.out).mono ?_); (case side1 => exact cd HR451_0.out); (case side2 => exact HC451_0.out); (case side3 => exact cd HR452_0.out); (case side4 => exact HC452_0.out); rintro e w' ⟨rfl, ⟨nd, rfl⟩⟩; (try first | exact ⟨rfl, _, World.drewN_drewN _ _ _⟩ | exact ⟨rfl, _, Eq.trans (World.drewN_drewN _ _ _) (congrArg (World.drewN _) (Nat.add_assoc _ _ _))⟩))))
      go_roundg k1
      case measure => have := HK1.out; omega
      case rel => exact ⟨(wrap64 (x13_1 + 1)), er, H', ⟨by have := HK1.out; omega⟩, drw⟩
     ·replace c9 := Bool.eq_false_iff.mpr c9
      subst c9
      have H1 : (some false) = some r := by rw [if_neg (show ¬ (false = true) by decide)] at H; exact H
      clear H
      have H := H1
      clear H1
      obtain rfl := Option.some.inj H
      have p451 : 0 ≤ (x13_1 : Int) := da
      have q451 : x13_1 < (l0.length : Int) := da
      obtain ⟨ad451, A451_0, c451_0, e451, hx451_0, hl451_0, hi451_0⟩ := at_L3 HR0.out x13_1 p451 q451
      cases e451
      have HR451_0 := Aside0.mk hi451_0; have HC451_0 := Aside0.mk hl451_0; clear hi451_0 hl451_0; replace p451 := eq_true p451; replace q451 := eq_true q451
      have p452 : 0 ≤ (x13_1 : Int) := da
      have q452 : x13_1 < (l1.length : Int) := da
      obtain ⟨ad452, A452_0, c452_0, e452, hx452_0, hl452_0, hi452_0⟩ := at_L3 HR1.out x13_1 p452 q452
      cases e452
      have HR452_0 := Aside0.mk hi452_0; have HC452_0 := Aside0.mk hl452_0; clear hi452_0 hl452_0; replace p452 := eq_true p452; replace q452 := eq_true q452
      go_wp2_with (first | (go_at_call 61; (with_reducible refine (laws_sameInts.calls k1 _ _ (rd_L3 l0 x13_1) _ _ (rd_L3 l1 x13_1) false _ ?side1 ?side2 ?side3 ?side4 A8.out).mono ?_); (case side1 => exact cd HR451_0.out); (case side2 => exact HC451_0.out); (case side3 => exact cd HR452_0.out); (case side4 => exact HC452_0.out); rintro e w' ⟨rfl, ⟨nd, rfl⟩⟩; (try first | exact ⟨rfl, _, World.drewN_drewN _ _ _⟩ | exact ⟨rfl, _, Eq.trans (World.drewN_drewN _ _ _) (congrArg (World.drewN _) (Nat.add_assoc _ _ _))⟩)))
      repeat (go_quiet (first | (go_at_call 61; (with_reducible refine (laws_sameInts.calls k1 _ _ (rd_L3 l0 x13_1) _ _ (rd_L3 l1 x13_1) false _ ?side1 ?side2 ?side3 ?side4 A8.out).mono ?_); (case side1 => exact cd HR451_0.out); (case side2 => exact HC451_0.out); (case side3 => exact cd HR452_0.out); (case side4 => exact HC452_0.out); rintro e w' ⟨rfl, ⟨nd, rfl⟩⟩; (try first | exact ⟨rfl, _, World.drewN_drewN _ _ _⟩ | exact ⟨rfl, _, Eq.trans (World.drewN_drewN _ _ _) (congrArg (World.drewN _) (Nat.add_assoc _ _ _))⟩))); try go_wp2_with (first | (go_at_call 61; (with_reducible refine (laws_sameInts.calls k1 _ _ (rd_L3 l0 x13_1) _ _ (rd_L3 l1 x13_1) false _ ?side1 ?side2 ?side3 ?side4 A8.out).mono ?_); (case side1 => exact cd HR451_0.out); (case side2 => exact HC451_0.out); (case side3 => exact cd HR452_0.out); (case side4 => exact HC452_0.out); rintro e w' ⟨rfl, ⟨nd, rfl⟩⟩; (try first | exact ⟨rfl, _, World.drewN_drewN _ _ _⟩ | exact ⟨rfl, _, Eq.trans (World.drewN_drewN _ _ _) (congrArg (World.drewN _) (Nat.add_assoc _ _ _))⟩))))
      go_ret
      exact ⟨er, drw⟩
    ·rw [if_neg c4] at H
     have c4b0 : decide (x13_1 < (l0.length : Int)) = false := decide_eq_false c4
     clear c4
     obtain rfl := Option.some.inj H
     go_wp2
     repeat (go_quiet (fail); try go_wp2)
     go_ret
     exact ⟨er, drw⟩
 ·rw [if_neg c3] at H
  have c3b0 : ((l0.length : Int) == (l1.length : Int)) = false := beq_eq_false_iff_ne.mpr c3
  have c3b1 : ((l0.length : Int) != (l1.length : Int)) = true := bne_iff_ne.mpr c3
  have c3b2 : (l0.length == l1.length) = false := by first | simpa using c3 | (simp at c3 ⊢; omega)
  obtain rfl := Option.some.inj H
  go_enter Try.func123, Try.ntmps123
  go_wp2
  repeat (go_quiet (fail); try go_wp2)
  go_ret
  exact ⟨er, drw⟩

/-! ### laws_sameBoard: function 31 -/
def laws_sameBoard.f (k : Nat) (a0_0 : Int) (a0_1 : Int) (l0_2 : List (List Int)) (l0_3 : List Int) (l0_4 : List Int) (a1_0 : Int) (a1_1 : Int) (l1_2 : List (List Int)) (l1_3 : List Int) (l1_4 : List Int) : Option (Bool) := if a0_0 = a1_0 then (if a0_1 = a1_1 then ((laws_sameRows.f k l0_2 l1_2).bind fun t456 => (if t456 = true then ((laws_sameInts.f k l0_3 l1_3).bind fun t457 => (if t457 = true then ((laws_sameInts.f k l0_4 l1_4).bind fun t458 => (some t458)) else (some false))) else (some false))) else (some false)) else (some false)
theorem laws_sameBoard.mono : ∀ a0 a1 a2 a3 a4 a5 a6 a7 a8 a9 k, LeO (laws_sameBoard.f k a0 a1 a2 a3 a4 a5 a6 a7 a8 a9) (laws_sameBoard.f (k + 1) a0 a1 a2 a3 a4 a5 a6 a7 a8 a9) := by
 intro a0 a1 a2 a3 a4 a5 a6 a7 a8 a9 k
 unfold laws_sameBoard.f
 repeat' (first | (with_reducible first | exact laws_sameInts.mono _ _ _ | exact laws_sameRows.mono _ _ _ | exact LeO.refl _ | exact LeO.none _ | refine LeO.ite ?_ ?_ | refine LeO.bind ?_ (fun _ => ?_)) | exact laws_sameInts.mono _ _ _ | exact laws_sameRows.mono _ _ _ | exact LeO.none _ | refine LeO.ite ?_ ?_ | refine LeO.bind ?_ (fun _ => ?_))
set_option maxHeartbeats 8000000 in
set_option maxRecDepth 100000 in
theorem laws_sameBoard.calls (k : Nat) (a0_0 : Int) (a0_1 : Int) (A0_2 : Option Addr) (c0_2 : Nat) (l0_2 : List (List Int)) (A0_3 : Option Addr) (c0_3 : Nat) (l0_3 : List Int) (A0_4 : Option Addr) (c0_4 : Nat) (l0_4 : List Int) (a1_0 : Int) (a1_1 : Int) (A1_2 : Option Addr) (c1_2 : Nat) (l1_2 : List (List Int)) (A1_3 : Option Addr) (c1_3 : Nat) (l1_3 : List Int) (A1_4 : Option Addr) (c1_4 : Nat) (l1_4 : List Int) (r : Bool) (w : World) (hr0_2 : Kd.C (Kd.slice 3 (Kd.int .i64)) w A0_2 l0_2.length l0_2) (hc0_2 : l0_2.length ≤ c0_2) (hr0_3 : Kd.C (Kd.int .i64) w A0_3 l0_3.length l0_3) (hc0_3 : l0_3.length ≤ c0_3) (hr0_4 : Kd.C (Kd.int .i64) w A0_4 l0_4.length l0_4) (hc0_4 : l0_4.length ≤ c0_4) (hr1_2 : Kd.C (Kd.slice 3 (Kd.int .i64)) w A1_2 l1_2.length l1_2) (hc1_2 : l1_2.length ≤ c1_2) (hr1_3 : Kd.C (Kd.int .i64) w A1_3 l1_3.length l1_3) (hc1_3 : l1_3.length ≤ c1_3) (hr1_4 : Kd.C (Kd.int .i64) w A1_4 l1_4.length l1_4) (hc1_4 : l1_4.length ≤ c1_4) (h : laws_sameBoard.f k a0_0 a0_1 l0_2 l0_3 l0_4 a1_0 a1_1 l1_2 l1_3 l1_4 = some r) :
  Calls Try.prog 31 #[.agg #[.int .i64 a0_0, .int .i64 a0_1, .slice A0_2 l0_2.length c0_2, .slice A0_3 l0_3.length c0_3, .slice A0_4 l0_4.length c0_4], .agg #[.int .i64 a1_0, .int .i64 a1_1, .slice A1_2 l1_2.length c1_2, .slice A1_3 l1_3.length c1_3, .slice A1_4 l1_4.length c1_4]] w fun e w' => e = .returned (.bool r) ∧ Below w.heap.size w w' := by
 have hu47 := Try.underlying47
 have HR0_2 := Aside0.mk hr0_2; have HC0_2 := Aside0.mk hc0_2; clear hr0_2 hc0_2; have HR0_3 := Aside0.mk hr0_3; have HC0_3 := Aside0.mk hc0_3; clear hr0_3 hc0_3; have HR0_4 := Aside0.mk hr0_4; have HC0_4 := Aside0.mk hc0_4; clear hr0_4 hc0_4; have HR1_2 := Aside0.mk hr1_2; have HC1_2 := Aside0.mk hc1_2; clear hr1_2 hc1_2; have HR1_3 := Aside0.mk hr1_3; have HC1_3 := Aside0.mk hc1_3; clear hr1_3 hc1_3; have HR1_4 := Aside0.mk hr1_4; have HC1_4 := Aside0.mk hc1_4; clear hr1_4 hc1_4
 have HB := Aside0.mk (Below.refl w.heap.size w)
 have H : (if a0_0 = a1_0 then (if a0_1 = a1_1 then ((laws_sameRows.f k l0_2 l1_2).bind fun t456 => (if t456 = true then ((laws_sameInts.f k l0_3 l1_3).bind fun t457 => (if t457 = true then ((laws_sameInts.f k l0_4 l1_4).bind fun t458 => (some t458)) else (some false))) else (some false))) else (some false)) else (some false)) = some r := h
 clear h
 by_cases c3 : a0_0 = a1_0
 ·rw [if_pos c3] at H
  have c3b0 : (a0_0 == a1_0) = true := beq_iff_eq.mpr c3
  have c3b1 : (a0_0 != a1_0) = false := bne_eq_false_iff_eq.mpr c3
  clear c3
  by_cases c4 : a0_1 = a1_1
  ·rw [if_pos c4] at H
   have c4b0 : (a0_1 == a1_1) = true := beq_iff_eq.mpr c4
   have c4b1 : (a0_1 != a1_1) = false := bne_eq_false_iff_eq.mpr c4
   clear c4; replace H := bS H; obtain ⟨t456, A5, H⟩ := H
   replace H : (if t456 = true then ((laws_sameInts.f k l0_3 l1_3).bind fun t457 => (if t457 = true then ((laws_sameInts.f k l0_4 l1_4).bind fun t458 => (some t458)) else (some false))) else (some false)) = some r := H
   by_cases c6 : t456 = true
   ·subst c6
    have H1 : ((laws_sameInts.f k l0_3 l1_3).bind fun t457 => (if t457 = true then ((laws_sameInts.f k l0_4 l1_4).bind fun t458 => (some t458)) else (some false))) = some r := by rw [if_pos rfl] at H; exact H
    clear H
    have H := H1
    clear H1; replace H := bS H; obtain ⟨t457, A7, H⟩ := H
    replace H : (if t457 = true then ((laws_sameInts.f k l0_4 l1_4).bind fun t458 => (some t458)) else (some false)) = some r := H
    by_cases c8 : t457 = true
    ·subst c8
     have H1 : ((laws_sameInts.f k l0_4 l1_4).bind fun t458 => (some t458)) = some r := by rw [if_pos rfl] at H; exact H
     clear H
     have H := H1
     clear H1; replace H := bS H; obtain ⟨t458, A9, H⟩ := H
     replace H : (some t458) = some r := H
     obtain rfl := Option.some.inj H
     go_enter Try.func31, Try.ntmps31
     go_wp2_with (first | ((with_reducible refine gate_dst (N := 2) rfl ?_); refine boxev 2 #[.int .i64 a0_0, .int .i64 a0_1, .slice A0_2 l0_2.length c0_2, .slice A0_3 l0_3.length c0_3, .slice A0_4 l0_4.length c0_4] 47 ?_; intro gb454 hg w10 hbox hb; have BK454 := ak (hbox); have GW454 := ak (hgl hg (belowd HB)); have GE454 := ak (hgl hg (belowd HB)); replace HB := ak (below_step (belowd HB) hb); clear hb hbox hg) | ((with_reducible refine gate_dst (N := 3) rfl ?_); refine boxev 3 #[.int .i64 a1_0, .int .i64 a1_1, .slice A1_2 l1_2.length c1_2, .slice A1_3 l1_3.length c1_3, .slice A1_4 l1_4.length c1_4] 47 ?_; intro gb455 hg w11 hbox hb; have BK455 := ak (hbox); have GW455 := ak (hgl hg (belowg1 HB GE454)); have GE455 := ak (hgl hg (belowg1 HB GE454)); replace HB := ak (below_step (belowg1 HB GE454) hb); have NB454_455 := ak ((by rw [hg]; exact Nat.ne_of_lt (blk_lt (blkd BK454)) : gb454 ≠ gb455)); have NB455_454 := ak ((by rw [hg]; exact Nat.ne_of_gt (blk_lt (blkd BK454)) : gb455 ≠ gb454)); replace BK454 := ak (blk_below (blkd BK454) hb); clear hb hbox hg; have hnb12 := NB454_455.out; have hnc12 := NB455_454.out; obtain ⟨hcz13_0, hcz13_1, hcz13_2, hcz13_3, hcz13_4, hfz13_0, hfz13_1, hfz13_2, hfz13_3, hfz13_4⟩ := box5 BK454; obtain ⟨hcz14_0, hcz14_1, hcz14_2, hcz14_3, hcz14_4, hfz14_0, hfz14_1, hfz14_2, hfz14_3, hfz14_4⟩ := box5 BK455) | (go_at_call 123; (with_reducible refine (laws_sameRows.calls k _ _ l0_2 _ _ l1_2 true _ ?side1 ?side2 ?side3 ?side4 A5.out).mono ?_); (case side1 => exact cd (Kd.C_below HR0_2.out HB.out)); (case side2 => exact HC0_2.out); (case side3 => exact cd (Kd.C_below HR1_2.out HB.out)); (case side4 => exact HC1_2.out); rintro e w' ⟨rfl, ⟨nd, rfl⟩⟩) | (go_at_call 61; (with_reducible refine (laws_sameInts.calls k _ _ l0_3 _ _ l1_3 true _ ?side1 ?side2 ?side3 ?side4 A7.out).mono ?_); (case side1 => exact cd (Kd.C_below HR0_3.out (belowg2 HB GE454 GE455))); (case side2 => exact HC0_3.out); (case side3 => exact cd (Kd.C_below HR1_3.out (belowg2 HB GE454 GE455))); (case side4 => exact HC1_3.out); rintro e w' ⟨rfl, ⟨nd, rfl⟩⟩) | (go_at_call 61; (with_reducible refine (laws_sameInts.calls k _ _ l0_4 _ _ l1_4 t458 _ ?side1 ?side2 ?side3 ?side4 A9.out).mono ?_); (case side1 => exact cd (Kd.C_below HR0_4.out (belowg2 HB GE454 GE455))); (case side2 => exact HC0_4.out); (case side3 => exact cd (Kd.C_below HR1_4.out (belowg2 HB GE454 GE455))); (case side4 => exact HC1_4.out); rintro e w' ⟨rfl, ⟨nd, rfl⟩⟩))
     go_ret
     exact ⟨er2, belowg2 HB GE454 GE455⟩
    ·replace c8 := Bool.eq_false_iff.mpr c8
     subst c8
     have H1 : (some false) = some r := by rw [if_neg (show ¬ (false = true) by decide)] at H; exact H
     clear H
     have H := H1
     clear H1
     obtain rfl := Option.some.inj H
     go_enter Try.func31, Try.ntmps31
     go_wp2_with (first | ((with_reducible refine gate_dst (N := 2) rfl ?_); refine boxev 2 #[.int .i64 a0_0, .int .i64 a0_1, .slice A0_2 l0_2.length c0_2, .slice A0_3 l0_3.length c0_3, .slice A0_4 l0_4.length c0_4] 47 ?_; intro gb454 hg w15 hbox hb; have BK454 := ak (hbox); have GW454 := ak (hgl hg (belowd HB)); have GE454 := ak (hgl hg (belowd HB)); replace HB := ak (below_step (belowd HB) hb); clear hb hbox hg) | ((with_reducible refine gate_dst (N := 3) rfl ?_); refine boxev 3 #[.int .i64 a1_0, .int .i64 a1_1, .slice A1_2 l1_2.length c1_2, .slice A1_3 l1_3.length c1_3, .slice A1_4 l1_4.length c1_4] 47 ?_; intro gb455 hg w16 hbox hb; have BK455 := ak (hbox); have GW455 := ak (hgl hg (belowg1 HB GE454)); have GE455 := ak (hgl hg (belowg1 HB GE454)); replace HB := ak (below_step (belowg1 HB GE454) hb); have NB454_455 := ak ((by rw [hg]; exact Nat.ne_of_lt (blk_lt (blkd BK454)) : gb454 ≠ gb455)); have NB455_454 := ak ((by rw [hg]; exact Nat.ne_of_gt (blk_lt (blkd BK454)) : gb455 ≠ gb454)); replace BK454 := ak (blk_below (blkd BK454) hb); clear hb hbox hg; have hnb17 := NB454_455.out; have hnc17 := NB455_454.out; obtain ⟨hcz18_0, hcz18_1, hcz18_2, hcz18_3, hcz18_4, hfz18_0, hfz18_1, hfz18_2, hfz18_3, hfz18_4⟩ := box5 BK454; obtain ⟨hcz19_0, hcz19_1, hcz19_2, hcz19_3, hcz19_4, hfz19_0, hfz19_1, hfz19_2, hfz19_3, hfz19_4⟩ := box5 BK455) | (go_at_call 123; (with_reducible refine (laws_sameRows.calls k _ _ l0_2 _ _ l1_2 true _ ?side1 ?side2 ?side3 ?side4 A5.out).mono ?_); (case side1 => exact cd (Kd.C_below HR0_2.out HB.out)); (case side2 => exact HC0_2.out); (case side3 => exact cd (Kd.C_below HR1_2.out HB.out)); (case side4 => exact HC1_2.out); rintro e w' ⟨rfl, ⟨nd, rfl⟩⟩) | (go_at_call 61; (with_reducible refine (laws_sameInts.calls k _ _ l0_3 _ _ l1_3 false _ ?side1 ?side2 ?side3 ?side4 A7.out).mono ?_); (case side1 => exact cd (Kd.C_below HR0_3.out (belowg2 HB GE454 GE455))); (case side2 => exact HC0_3.out); (case side3 => exact cd (Kd.C_below HR1_3.out (belowg2 HB GE454 GE455))); (case side4 => exact HC1_3.out); rintro e w' ⟨rfl, ⟨nd, rfl⟩⟩))
     go_ret
     exact ⟨er2, belowg2 HB GE454 GE455⟩
   ·replace c6 := Bool.eq_false_iff.mpr c6
    subst c6
    have H1 : (some false) = some r := by rw [if_neg (show ¬ (false = true) by decide)] at H; exact H
    clear H
    have H := H1
    clear H1
    obtain rfl := Option.some.inj H
    go_enter Try.func31, Try.ntmps31
    go_wp2_with (first | ((with_reducible refine gate_dst (N := 2) rfl ?_); refine boxev 2 #[.int .i64 a0_0, .int .i64 a0_1, .slice A0_2 l0_2.length c0_2, .slice A0_3 l0_3.length c0_3, .slice A0_4 l0_4.length c0_4] 47 ?_; intro gb454 hg w20 hbox hb; have BK454 := ak (hbox); have GW454 := ak (hgl hg (belowd HB)); have GE454 := ak (hgl hg (belowd HB)); replace HB := ak (below_step (belowd HB) hb); clear hb hbox hg) | ((with_reducible refine gate_dst (N := 3) rfl ?_); refine boxev 3 #[.int .i64 a1_0, .int .i64 a1_1, .slice A1_2 l1_2.length c1_2, .slice A1_3 l1_3.length c1_3, .slice A1_4 l1_4.length c1_4] 47 ?_; intro gb455 hg w21 hbox hb; have BK455 := ak (hbox); have GW455 := ak (hgl hg (belowg1 HB GE454)); have GE455 := ak (hgl hg (belowg1 HB GE454)); replace HB := ak (below_step (belowg1 HB GE454) hb); have NB454_455 := ak ((by rw [hg]; exact Nat.ne_of_lt (blk_lt (blkd BK454)) : gb454 ≠ gb455)); have NB455_454 := ak ((by rw [hg]; exact Nat.ne_of_gt (blk_lt (blkd BK454)) : gb455 ≠ gb454)); replace BK454 := ak (blk_below (blkd BK454) hb); clear hb hbox hg; have hnb22 := NB454_455.out; have hnc22 := NB455_454.out; obtain ⟨hcz23_0, hcz23_1, hcz23_2, hcz23_3, hcz23_4, hfz23_0, hfz23_1, hfz23_2, hfz23_3, hfz23_4⟩ := box5 BK454; obtain ⟨hcz24_0, hcz24_1, hcz24_2, hcz24_3, hcz24_4, hfz24_0, hfz24_1, hfz24_2, hfz24_3, hfz24_4⟩ := box5 BK455) | (go_at_call 123; (with_reducible refine (laws_sameRows.calls k _ _ l0_2 _ _ l1_2 false _ ?side1 ?side2 ?side3 ?side4 A5.out).mono ?_); (case side1 => exact cd (Kd.C_below HR0_2.out HB.out)); (case side2 => exact HC0_2.out); (case side3 => exact cd (Kd.C_below HR1_2.out HB.out)); (case side4 => exact HC1_2.out); rintro e w' ⟨rfl, ⟨nd, rfl⟩⟩))
    go_ret
    exact ⟨er2, belowg2 HB GE454 GE455⟩
  ·rw [if_neg c4] at H
   have c4b0 : (a0_1 == a1_1) = false := beq_eq_false_iff_ne.mpr c4
   have c4b1 : (a0_1 != a1_1) = true := bne_iff_ne.mpr c4
   obtain rfl := Option.some.inj H
   go_enter Try.func31, Try.ntmps31
   go_wp2_with (first | ((with_reducible refine gate_dst (N := 2) rfl ?_); refine boxev 2 #[.int .i64 a0_0, .int .i64 a0_1, .slice A0_2 l0_2.length c0_2, .slice A0_3 l0_3.length c0_3, .slice A0_4 l0_4.length c0_4] 47 ?_; intro gb454 hg w25 hbox hb; have BK454 := ak (hbox); have GW454 := ak (hgl hg (belowd HB)); have GE454 := ak (hgl hg (belowd HB)); replace HB := ak (below_step (belowd HB) hb); clear hb hbox hg) | ((with_reducible refine gate_dst (N := 3) rfl ?_); refine boxev 3 #[.int .i64 a1_0, .int .i64 a1_1, .slice A1_2 l1_2.length c1_2, .slice A1_3 l1_3.length c1_3, .slice A1_4 l1_4.length c1_4] 47 ?_; intro gb455 hg w26 hbox hb; have BK455 := ak (hbox); have GW455 := ak (hgl hg (belowg1 HB GE454)); have GE455 := ak (hgl hg (belowg1 HB GE454)); replace HB := ak (below_step (belowg1 HB GE454) hb); have NB454_455 := ak ((by rw [hg]; exact Nat.ne_of_lt (blk_lt (blkd BK454)) : gb454 ≠ gb455)); have NB455_454 := ak ((by rw [hg]; exact Nat.ne_of_gt (blk_lt (blkd BK454)) : gb455 ≠ gb454)); replace BK454 := ak (blk_below (blkd BK454) hb); clear hb hbox hg; have hnb27 := NB454_455.out; have hnc27 := NB455_454.out; obtain ⟨hcz28_0, hcz28_1, hcz28_2, hcz28_3, hcz28_4, hfz28_0, hfz28_1, hfz28_2, hfz28_3, hfz28_4⟩ := box5 BK454; obtain ⟨hcz29_0, hcz29_1, hcz29_2, hcz29_3, hcz29_4, hfz29_0, hfz29_1, hfz29_2, hfz29_3, hfz29_4⟩ := box5 BK455))
   go_ret
   exact ⟨er2, belowg2 HB GE454 GE455⟩
 ·rw [if_neg c3] at H
  have c3b0 : (a0_0 == a1_0) = false := beq_eq_false_iff_ne.mpr c3
  have c3b1 : (a0_0 != a1_0) = true := bne_iff_ne.mpr c3
  obtain rfl := Option.some.inj H
  go_enter Try.func31, Try.ntmps31
  go_wp2_with (first | ((with_reducible refine gate_dst (N := 2) rfl ?_); refine boxev 2 #[.int .i64 a0_0, .int .i64 a0_1, .slice A0_2 l0_2.length c0_2, .slice A0_3 l0_3.length c0_3, .slice A0_4 l0_4.length c0_4] 47 ?_; intro gb454 hg w30 hbox hb; have BK454 := ak (hbox); have GW454 := ak (hgl hg (belowd HB)); have GE454 := ak (hgl hg (belowd HB)); replace HB := ak (below_step (belowd HB) hb); clear hb hbox hg) | ((with_reducible refine gate_dst (N := 3) rfl ?_); refine boxev 3 #[.int .i64 a1_0, .int .i64 a1_1, .slice A1_2 l1_2.length c1_2, .slice A1_3 l1_3.length c1_3, .slice A1_4 l1_4.length c1_4] 47 ?_; intro gb455 hg w31 hbox hb; have BK455 := ak (hbox); have GW455 := ak (hgl hg (belowg1 HB GE454)); have GE455 := ak (hgl hg (belowg1 HB GE454)); replace HB := ak (below_step (belowg1 HB GE454) hb); have NB454_455 := ak ((by rw [hg]; exact Nat.ne_of_lt (blk_lt (blkd BK454)) : gb454 ≠ gb455)); have NB455_454 := ak ((by rw [hg]; exact Nat.ne_of_gt (blk_lt (blkd BK454)) : gb455 ≠ gb454)); replace BK454 := ak (blk_below (blkd BK454) hb); clear hb hbox hg; have hnb32 := NB454_455.out; have hnc32 := NB455_454.out; obtain ⟨hcz33_0, hcz33_1, hcz33_2, hcz33_3, hcz33_4, hfz33_0, hfz33_1, hfz33_2, hfz33_3, hfz33_4⟩ := box5 BK454; obtain ⟨hcz34_0, hcz34_1, hcz34_2, hcz34_3, hcz34_4, hfz34_0, hfz34_1, hfz34_2, hfz34_3, hfz34_4⟩ := box5 BK455))
  go_ret
  exact ⟨er2, belowg2 HB GE454 GE455⟩

/-! ### impl_isEpoch: function 129 -/
def impl_isEpoch.f (a0 : Int) : Option (Bool) := (impl_within.f a0 0 20).bind fun t459 => (some t459)
set_option maxHeartbeats 8000000 in
set_option maxRecDepth 100000 in
theorem impl_isEpoch.calls (a0 : Int) (r : Bool) (w : World) (h : impl_isEpoch.f a0 = some r) :
  Calls Try.prog 129 #[.int .i64 a0] w fun e w' => e = .returned (.bool r) ∧ Drawn0 w w' := by
 have H : ((impl_within.f a0 0 20).bind fun t459 => (some t459)) = some r := h
 clear h; replace H := bS H; obtain ⟨t459, A2, H⟩ := H
 replace H : (some t459) = some r := H
 obtain rfl := Option.some.inj H
 go_enter Try.func129, Try.ntmps129
 go_wp2_with (first | ((with_reducible refine gate_callee (f := 125) rfl ?_); refine goesLa (some 4) rfl Try.func125 #[.int .i64 a0, .int .i64 0, .int .i64 20] rfl ?_; (with_reducible refine (impl_within.calls a0 0 20 t459 _ A2.out).mono ?_); rintro e w' ⟨rfl, ⟨nd, rfl⟩⟩; refine ⟨_, rfl, ?_⟩))
 go_ret
 exact ⟨er, drw⟩

/-! ### impl_CertifiedIn: function 33 -/
mutual
def impl_CertifiedIn.j0 : Nat → Int → Bool → Int → Int → List (List Int) → List Int → List Int → Option (List Int × Bool)
  | 0, _, _, _, _, _, _, _ => none
  | k + 1, x1, x18, x461000, x461001, x461002, x461003, x461004 => if x18 = true then (some (([] : List Int), false)) else (impl_CertifiedIn.l0 k x1 (([] : List Int)) 0 x461000 x461001 x461002 x461003 x461004)
def impl_CertifiedIn.l0 : Nat → Int → List Int → Int → Int → Int → List (List Int) → List Int → List Int → Option (List Int × Bool)
  | 0, _, _, _, _, _, _, _, _ => none
  | k + 1, x1, x6, x20, x461000, x461001, x461002, x461003, x461004 => if x20 < 10 then (impl_CertifiedIn.l1 k x1 x6 x20 0 x20 x461002 (x461002.length : Int) 0 x461000 x461001 x461002 x461003 x461004) else (some (x6, true))
def impl_CertifiedIn.l1 : Nat → Int → List Int → Int → Int → Int → List (List Int) → Int → Int → Int → Int → List (List Int) → List Int → List Int → Option (List Int × Bool)
  | 0, _, _, _, _, _, _, _, _, _, _, _, _, _ => none
  | k + 1, x1, x6, x7, x8, x20, x24, x25, x26, x461000, x461001, x461002, x461003, x461004 => if x26 < x25 then (if 0 ≤ x26 then (if x26 < (x24.length : Int) then (if 0 < ((rd_L3 x24 x26).length : Int) then (if (rd (rd_L3 x24 x26) 0) = x1 then (if 2 < ((rd_L3 x24 x26).length : Int) then (if (rd (rd_L3 x24 x26) 2) = x7 then (impl_CertifiedIn.l1 k x1 x6 x7 (wrap64 (x8 + 1)) x20 x24 x25 (wrap64 (x26 + 1)) x461000 x461001 x461002 x461003 x461004) else (impl_CertifiedIn.l1 k x1 x6 x7 x8 x20 x24 x25 (wrap64 (x26 + 1)) x461000 x461001 x461002 x461003 x461004)) else (none)) else (impl_CertifiedIn.l1 k x1 x6 x7 x8 x20 x24 x25 (wrap64 (x26 + 1)) x461000 x461001 x461002 x461003 x461004)) else (none)) else (none)) else (none)) else (if x8 > (wrap64 (2 * x461000)) then (if x6.length < 17592186044416 then (impl_CertifiedIn.l0 k x1 (x6 ++ [x7]) (wrap64 (x20 + 1)) x461000 x461001 x461002 x461003 x461004) else (none)) else (impl_CertifiedIn.l0 k x1 x6 (wrap64 (x20 + 1)) x461000 x461001 x461002 x461003 x461004))
end
def impl_CertifiedIn.f (k : Nat) (a0_0 : Int) (a0_1 : Int) (l0_2 : List (List Int)) (l0_3 : List Int) (l0_4 : List Int) (a1 : Int) : Option (List Int × Bool) := (impl_GoodBoard.f k a0_0 a0_1 l0_2 l0_3 l0_4).bind fun t461 => (if t461 = true then ((impl_isEpoch.f a1).bind fun t462 => (impl_CertifiedIn.j0 k a1 (!t462) a0_0 a0_1 l0_2 l0_3 l0_4)) else (impl_CertifiedIn.j0 k a1 true a0_0 a0_1 l0_2 l0_3 l0_4))
theorem impl_CertifiedIn.mono_l : ∀ k, (∀ y0 y1 y2 y3 y4 y5 y6, LeO (impl_CertifiedIn.j0 k y0 y1 y2 y3 y4 y5 y6) (impl_CertifiedIn.j0 (k + 1) y0 y1 y2 y3 y4 y5 y6)) ∧ (∀ y0 y1 y2 y3 y4 y5 y6 y7, LeO (impl_CertifiedIn.l0 k y0 y1 y2 y3 y4 y5 y6 y7) (impl_CertifiedIn.l0 (k + 1) y0 y1 y2 y3 y4 y5 y6 y7)) ∧ (∀ y0 y1 y2 y3 y4 y5 y6 y7 y8 y9 y10 y11 y12, LeO (impl_CertifiedIn.l1 k y0 y1 y2 y3 y4 y5 y6 y7 y8 y9 y10 y11 y12) (impl_CertifiedIn.l1 (k + 1) y0 y1 y2 y3 y4 y5 y6 y7 y8 y9 y10 y11 y12))
 | 0 => ⟨fun _ _ _ _ _ _ _ r h => by simp [impl_CertifiedIn.j0] at h, fun _ _ _ _ _ _ _ _ r h => by simp [impl_CertifiedIn.l0] at h, fun _ _ _ _ _ _ _ _ _ _ _ _ _ r h => by simp [impl_CertifiedIn.l1] at h⟩
 | k + 1 => by
  obtain ⟨ih0, ih1, ih2⟩ := impl_CertifiedIn.mono_l k
  refine ⟨?_, ?_, ?_⟩
  ·intro y0 y1 y2 y3 y4 y5 y6
   unfold impl_CertifiedIn.j0
   repeat' (first | (with_reducible first | exact ih0 _ _ _ _ _ _ _ | exact ih1 _ _ _ _ _ _ _ _ | exact ih2 _ _ _ _ _ _ _ _ _ _ _ _ _ | exact impl_GoodBoard.mono _ _ _ _ _ _ | exact LeO.refl _ | exact LeO.none _ | refine LeO.ite ?_ ?_ | refine LeO.bind ?_ (fun _ => ?_)) | exact ih0 _ _ _ _ _ _ _ | exact ih1 _ _ _ _ _ _ _ _ | exact ih2 _ _ _ _ _ _ _ _ _ _ _ _ _ | exact impl_GoodBoard.mono _ _ _ _ _ _ | exact LeO.none _ | refine LeO.ite ?_ ?_ | refine LeO.bind ?_ (fun _ => ?_))
  ·intro y0 y1 y2 y3 y4 y5 y6 y7
   unfold impl_CertifiedIn.l0
   repeat' (first | (with_reducible first | exact ih0 _ _ _ _ _ _ _ | exact ih1 _ _ _ _ _ _ _ _ | exact ih2 _ _ _ _ _ _ _ _ _ _ _ _ _ | exact impl_GoodBoard.mono _ _ _ _ _ _ | exact LeO.refl _ | exact LeO.none _ | refine LeO.ite ?_ ?_ | refine LeO.bind ?_ (fun _ => ?_)) | exact ih0 _ _ _ _ _ _ _ | exact ih1 _ _ _ _ _ _ _ _ | exact ih2 _ _ _ _ _ _ _ _ _ _ _ _ _ | exact impl_GoodBoard.mono _ _ _ _ _ _ | exact LeO.none _ | refine LeO.ite ?_ ?_ | refine LeO.bind ?_ (fun _ => ?_))
  ·intro y0 y1 y2 y3 y4 y5 y6 y7 y8 y9 y10 y11 y12
   unfold impl_CertifiedIn.l1
   repeat' (first | (with_reducible first | exact ih0 _ _ _ _ _ _ _ | exact ih1 _ _ _ _ _ _ _ _ | exact ih2 _ _ _ _ _ _ _ _ _ _ _ _ _ | exact impl_GoodBoard.mono _ _ _ _ _ _ | exact LeO.refl _ | exact LeO.none _ | refine LeO.ite ?_ ?_ | refine LeO.bind ?_ (fun _ => ?_)) | exact ih0 _ _ _ _ _ _ _ | exact ih1 _ _ _ _ _ _ _ _ | exact ih2 _ _ _ _ _ _ _ _ _ _ _ _ _ | exact impl_GoodBoard.mono _ _ _ _ _ _ | exact LeO.none _ | refine LeO.ite ?_ ?_ | refine LeO.bind ?_ (fun _ => ?_))
theorem impl_CertifiedIn.mono : ∀ a0 a1 a2 a3 a4 a5 k, LeO (impl_CertifiedIn.f k a0 a1 a2 a3 a4 a5) (impl_CertifiedIn.f (k + 1) a0 a1 a2 a3 a4 a5) := by
 intro a0 a1 a2 a3 a4 a5 k
 obtain ⟨ih0, ih1, ih2⟩ := impl_CertifiedIn.mono_l k
 unfold impl_CertifiedIn.f
 repeat' (first | (with_reducible first | exact ih0 _ _ _ _ _ _ _ | exact ih1 _ _ _ _ _ _ _ _ | exact ih2 _ _ _ _ _ _ _ _ _ _ _ _ _ | exact impl_GoodBoard.mono _ _ _ _ _ _ | exact LeO.refl _ | exact LeO.none _ | refine LeO.ite ?_ ?_ | refine LeO.bind ?_ (fun _ => ?_)) | exact ih0 _ _ _ _ _ _ _ | exact ih1 _ _ _ _ _ _ _ _ | exact ih2 _ _ _ _ _ _ _ _ _ _ _ _ _ | exact impl_GoodBoard.mono _ _ _ _ _ _ | exact LeO.none _ | refine LeO.ite ?_ ?_ | refine LeO.bind ?_ (fun _ => ?_))
set_option maxHeartbeats 8000000 in
set_option maxRecDepth 100000 in
theorem impl_CertifiedIn.calls (k : Nat) (a0_0 : Int) (a0_1 : Int) (A0_2 : Option Addr) (c0_2 : Nat) (l0_2 : List (List Int)) (A0_3 : Option Addr) (c0_3 : Nat) (l0_3 : List Int) (A0_4 : Option Addr) (c0_4 : Nat) (l0_4 : List Int) (a1 : Int) (r1 : List Int) (r2 : Bool) (w : World) (hr0_2 : Kd.C (Kd.slice 3 (Kd.int .i64)) w A0_2 l0_2.length l0_2) (hc0_2 : l0_2.length ≤ c0_2) (hr0_3 : Kd.C (Kd.int .i64) w A0_3 l0_3.length l0_3) (hc0_3 : l0_3.length ≤ c0_3) (hr0_4 : Kd.C (Kd.int .i64) w A0_4 l0_4.length l0_4) (hc0_4 : l0_4.length ≤ c0_4) (h : impl_CertifiedIn.f k a0_0 a0_1 l0_2 l0_3 l0_4 a1 = some (r1, r2)) :
  Calls Try.prog 33 #[.agg #[.int .i64 a0_0, .int .i64 a0_1, .slice A0_2 l0_2.length c0_2, .slice A0_3 l0_3.length c0_3, .slice A0_4 l0_4.length c0_4], .int .i64 a1] w fun e w' => ∃ v0_ : Value, e = .returned (.tuple #[v0_, .bool r2]) ∧ Kd.R (Kd.int .i64) 3 w' w.heap.size (fun _ => True) v0_ r1 ∧ Below w.heap.size w w' := by
 have hu47 := Try.underlying47
 have HR0_2 := Aside0.mk hr0_2; have HC0_2 := Aside0.mk hc0_2; clear hr0_2 hc0_2; have HR0_3 := Aside0.mk hr0_3; have HC0_3 := Aside0.mk hc0_3; clear hr0_3 hc0_3; have HR0_4 := Aside0.mk hr0_4; have HC0_4 := Aside0.mk hc0_4; clear hr0_4 hc0_4
 have HB := Aside0.mk (Below.refl w.heap.size w)
 have H : ((impl_GoodBoard.f k a0_0 a0_1 l0_2 l0_3 l0_4).bind fun t461 => (if t461 = true then ((impl_isEpoch.f a1).bind fun t462 => (impl_CertifiedIn.j0 k a1 (!t462) a0_0 a0_1 l0_2 l0_3 l0_4)) else (impl_CertifiedIn.j0 k a1 true a0_0 a0_1 l0_2 l0_3 l0_4))) = some (r1, r2) := h
 clear h; have HC3 := Aside0.mk H; clear H
 go_enter Try.func33, Try.ntmps33
 go_upto_region 1 with (first | ((with_reducible refine gate_dst (N := 2) rfl ?_); refine boxev 2 #[.int .i64 a0_0, .int .i64 a0_1, .slice A0_2 l0_2.length c0_2, .slice A0_3 l0_3.length c0_3, .slice A0_4 l0_4.length c0_4] 47 ?_; intro gb460 hg w4 hbox hb; have BK460 := ak (hbox); have GW460 := ak (hgl hg (belowd HB)); have GE460 := ak (hgl hg (belowd HB)); replace HB := ak (below_step (belowd HB) hb); clear hb hbox hg))
 (try simp only [Act.put, List.setIfInBounds_toArray, List.set_cons_zero, List.set_cons_succ])
 go_cut [18] (fun v18 wc => ∃ (kq : Nat) (x18_2 : Bool), v18 = .bool x18_2 ∧ Aside0 (impl_CertifiedIn.j0 kq a1 x18_2 a0_0 a0_1 l0_2 l0_3 l0_4 = some (r1, r2)) ∧ Aside0 (kq ≤ k) ∧ Aside0 (wc.heap[gb460]? = some (.cells #[.int .i64 a0_0, .int .i64 a0_1, (.slice A0_2 l0_2.length c0_2), (.slice A0_3 l0_3.length c0_3), (.slice A0_4 l0_4.length c0_4)] 47 (0, 0))) ∧ Aside0 (Below w.heap.size w wc))
 case first =>
  have H := HC3.out; clear HC3; replace H := bS H; obtain ⟨t461, A5, H⟩ := H
  replace H : (if t461 = true then ((impl_isEpoch.f a1).bind fun t462 => (impl_CertifiedIn.j0 k a1 (!t462) a0_0 a0_1 l0_2 l0_3 l0_4)) else (impl_CertifiedIn.j0 k a1 true a0_0 a0_1 l0_2 l0_3 l0_4)) = some (r1, r2) := H
  by_cases c6 : t461 = true
  ·subst c6
   have H1 : ((impl_isEpoch.f a1).bind fun t462 => (impl_CertifiedIn.j0 k a1 (!t462) a0_0 a0_1 l0_2 l0_3 l0_4)) = some (r1, r2) := by rw [if_pos rfl] at H; exact H
   clear H
   have H := H1
   clear H1; replace H := bS H; obtain ⟨t462, A7, H⟩ := H
   replace H : (impl_CertifiedIn.j0 k a1 (!t462) a0_0 a0_1 l0_2 l0_3 l0_4) = some (r1, r2) := H
   have H' := Aside0.mk H
   clear H; obtain ⟨hcz8_0, hcz8_1, hcz8_2, hcz8_3, hcz8_4, hfz8_0, hfz8_1, hfz8_2, hfz8_3, hfz8_4⟩ := box5 BK460
   go_wp2_with (first | ((with_reducible refine gate_callee (f := 32) rfl ?_); refine goesLa (some 12) rfl Try.func32 #[.agg #[.int .i64 a0_0, .int .i64 a0_1, .slice A0_2 l0_2.length c0_2, .slice A0_3 l0_3.length c0_3, .slice A0_4 l0_4.length c0_4]] rfl ?_; (with_reducible refine (impl_GoodBoard.calls k a0_0 a0_1 _ _ l0_2 _ _ l0_3 _ _ l0_4 true _ ?side1 ?side2 ?side3 ?side4 ?side5 ?side6 A5.out).mono ?_); (case side1 => exact cd (Kd.C_below HR0_2.out HB.out)); (case side2 => exact HC0_2.out); (case side3 => exact cd (Kd.C_below HR0_3.out HB.out)); (case side4 => exact HC0_3.out); (case side5 => exact cd (Kd.C_below HR0_4.out HB.out)); (case side6 => exact HC0_4.out); rintro e w9 ⟨rfl, hb⟩; refine ⟨_, rfl, ?_⟩; replace BK460 := ak (blk_below (blkd BK460) hb); replace HB := ak (below_step (belowg1 HB GE460) hb); (try clear hb)) | (go_at_call 129; (with_reducible refine (impl_isEpoch.calls a1 t462 _ A7.out).mono ?_); rintro e w' ⟨rfl, ⟨nd, rfl⟩⟩))
   go_meet
   case rel => exact ⟨_, (!t462), er, H', ⟨by first | omega | exact Nat.le_refl _⟩, ⟨blkd BK460⟩, ⟨belowg1 HB GE460⟩⟩
  ·replace c6 := Bool.eq_false_iff.mpr c6
   subst c6
   have H1 : (impl_CertifiedIn.j0 k a1 true a0_0 a0_1 l0_2 l0_3 l0_4) = some (r1, r2) := by rw [if_neg (show ¬ (false = true) by decide)] at H; exact H
   clear H
   have H := H1
   clear H1
   have H' := Aside0.mk H
   clear H; obtain ⟨hcz10_0, hcz10_1, hcz10_2, hcz10_3, hcz10_4, hfz10_0, hfz10_1, hfz10_2, hfz10_3, hfz10_4⟩ := box5 BK460
   go_wp2_with (first | ((with_reducible refine gate_callee (f := 32) rfl ?_); refine goesLa (some 12) rfl Try.func32 #[.agg #[.int .i64 a0_0, .int .i64 a0_1, .slice A0_2 l0_2.length c0_2, .slice A0_3 l0_3.length c0_3, .slice A0_4 l0_4.length c0_4]] rfl ?_; (with_reducible refine (impl_GoodBoard.calls k a0_0 a0_1 _ _ l0_2 _ _ l0_3 _ _ l0_4 false _ ?side1 ?side2 ?side3 ?side4 ?side5 ?side6 A5.out).mono ?_); (case side1 => exact cd (Kd.C_below HR0_2.out HB.out)); (case side2 => exact HC0_2.out); (case side3 => exact cd (Kd.C_below HR0_3.out HB.out)); (case side4 => exact HC0_3.out); (case side5 => exact cd (Kd.C_below HR0_4.out HB.out)); (case side6 => exact HC0_4.out); rintro e w11 ⟨rfl, hb⟩; refine ⟨_, rfl, ?_⟩; replace BK460 := ak (blk_below (blkd BK460) hb); replace HB := ak (below_step (belowg1 HB GE460) hb); (try clear hb)))
   go_meet
   case rel => exact ⟨_, (true), er, H', ⟨by first | omega | exact Nat.le_refl _⟩, ⟨blkd BK460⟩, ⟨belowg1 HB GE460⟩⟩
 case rest =>
  clear HC3
  obtain ⟨kq, x18_2, rfl, HA, HJ2, BK460, HB⟩ := hcut
  cases kq with
  | zero => exact absurd HA.out (by simp [impl_CertifiedIn.j0])
  | succ kj2 =>
   have H := HA.out; clear HA
   simp only [impl_CertifiedIn.j0] at H
   by_cases c12 : x18_2 = true
   ·subst c12
    have H1 : (some (([] : List Int), false)) = some (r1, r2) := by rw [if_pos rfl] at H; exact H
    clear H
    have H := H1
    clear H1
    simp only [Option.some.injEq, Prod.mk.injEq] at H
    obtain ⟨rfl, rfl⟩ := H; go_wp2
    go_ret2
    exact ⟨_, er2, by first | exact Kd.R_nil _ _ _ _ _ | exact Kd.N_nil _ _ _ _ _ | exact Kd.V_nil _ _ _ _ _ | exact Kd.Q_nil _ _ _ _ _ | exact Kd.S_nil _ _ _ _ _, belowg1 HB GE460⟩
   ·replace c12 := Bool.eq_false_iff.mpr c12
    subst c12
    have H1 : (impl_CertifiedIn.l0 kj2 a1 (([] : List Int)) 0 a0_0 a0_1 l0_2 l0_3 l0_4) = some (r1, r2) := by rw [if_neg (show ¬ (false = true) by decide)] at H; exact H
    clear H
    have H := H1
    clear H1
    obtain ⟨y463, hy_⟩ : ∃ y_ : List Int, y_ = (([] : List Int)) := ⟨_, rfl⟩
    replace H : (impl_CertifiedIn.l0 kj2 a1 y463 0 a0_0 a0_1 l0_2 l0_3 l0_4) = some (r1, r2) := yH
    have Ny463 := ak hy_; clear hy_
    have H' := Aside0.mk H
    clear H
    go_wp2_with (first | ((with_reducible refine gate_dst (N := 19) rfl ?_); refine Kd.R_lit (Kd.int .i64) _ 3 ?hg (N := 19) ?hd (xs := ([] : List Int)) (inner := []) (ok := fun _ => True) (okp := fun _ => True) ?hr ?hp (fun _ hk => hk) trivial (Below.refl _ _) (Nat.le_refl _) (by simp) ?_; (case hd => rfl); (case hg => rfl); (case hr => first | (go_simp; done) | (go_simp; rfl)); (case hp => exact (Reps.none _ _)); intro v464 w13 ho14 hb hg_ hnew_; clear hg_ hnew_; (first | rw [← Ny463.out] at ho14 | (simp only [Int.reduceToNat] at ho14; rw [← Ny463.out] at ho14)); have HO465 := ak (Kd.R_lower ho14 (below_size (belowg1 HB GE460))); replace BK460 := ak (blk_below (blkd BK460) hb); replace HB := ak (below_step (belowg1 HB GE460) hb); clear hb ho14))
    go_loopg [6, 20] kj2 (fun kq v6 v20 w' => ∃ (x6_2 : List Int) (x20_2 : Int), v20 = .int .i64 x20_2 ∧ Aside0 (impl_CertifiedIn.l0 kq a1 x6_2 x20_2 a0_0 a0_1 l0_2 l0_3 l0_4 = some (r1, r2)) ∧ Aside0 (kq ≤ kj2) ∧ Aside0 (Kd.R (Kd.int .i64) 3 w' w.heap.size (fun _ => True) v6 x6_2) ∧ Aside0 (w'.heap[gb460]? = some (.cells #[.int .i64 a0_0, .int .i64 a0_1, (.slice A0_2 l0_2.length c0_2), (.slice A0_3 l0_3.length c0_3), (.slice A0_4 l0_4.length c0_4)] 47 (0, 0))) ∧ Aside0 (Below w.heap.size w w'))
    case atStart => exact ⟨(y463), (0), er, H', ⟨Nat.le_refl _⟩, ⟨rdl HO465⟩, ⟨blkd BK460⟩, ⟨belowg1 HB GE460⟩⟩
    case round =>
     clear H'
     (try clear c12)
     obtain ⟨x6_2, x20_2, rfl, HA, HK2, HO_6, BK460, HB⟩ := hrel
     cases gk with
     | zero => exact absurd HA.out (by simp [impl_CertifiedIn.l0])
     | succ k2 =>
      have H := HA.out; clear HA
      simp only [impl_CertifiedIn.l0] at H
      by_cases c15 : x20_2 < 10
      ·rw [if_pos c15] at H
       have c15b0 : decide (x20_2 < 10) = true := decide_eq_true c15
       clear c15
       have H' := Aside0.mk H
       clear H; obtain ⟨hcz16_0, hcz16_1, hcz16_2, hcz16_3, hcz16_4, hfz16_0, hfz16_1, hfz16_2, hfz16_3, hfz16_4⟩ := box5 BK460; go_wp2
       go_loopg [8, 26] k2 (fun kq v8 v26 w' => ∃ (x8_3 : Int) (x26_3 : Int), v8 = .int .i64 x8_3 ∧ v26 = .int .i64 x26_3 ∧ Aside0 (impl_CertifiedIn.l1 kq a1 x6_2 x20_2 x8_3 x20_2 l0_2 (l0_2.length : Int) x26_3 a0_0 a0_1 l0_2 l0_3 l0_4 = some (r1, r2)) ∧ Aside0 (kq ≤ k2) ∧ Aside0 (Kd.R (Kd.int .i64) 3 w' w.heap.size (fun _ => True) u6 x6_2) ∧ Aside0 (w'.heap[gb460]? = some (.cells #[.int .i64 a0_0, .int .i64 a0_1, (.slice A0_2 l0_2.length c0_2), (.slice A0_3 l0_3.length c0_3), (.slice A0_4 l0_4.length c0_4)] 47 (0, 0))) ∧ Aside0 (Below w.heap.size w w'))
       case atStart => exact ⟨(0), (0), er, er, H', ⟨Nat.le_refl _⟩, ⟨rdl HO_6⟩, ⟨blkd BK460⟩, ⟨belowg1 HB GE460⟩⟩
       case round =>
        clear H'
        (try clear c15b0); (try clear hcz16_0); (try clear hcz16_1); (try clear hcz16_2); (try clear hcz16_3); (try clear hcz16_4); (try clear hfz16_0); (try clear hfz16_1); (try clear hfz16_2); (try clear hfz16_3); (try clear hfz16_4)
        obtain ⟨x8_3, x26_3, rfl, rfl, HA, HK3, HO_6, BK460, HB⟩ := hrel
        cases gk with
        | zero => exact absurd HA.out (by simp [impl_CertifiedIn.l1])
        | succ k3 =>
         have H := HA.out; clear HA
         simp only [impl_CertifiedIn.l1] at H
         by_cases c17 : x26_3 < (l0_2.length : Int)
         ·rw [if_pos c17] at H
          have c17b0 : decide (x26_3 < (l0_2.length : Int)) = true := decide_eq_true c17
          clear c17; replace H := ifS H; obtain ⟨c18, H⟩ := H; have c18b0 := decide_eq_true c18; clear c18; replace H := ifS H; obtain ⟨c19, H⟩ := H; have c19b0 := decide_eq_true c19; clear c19; replace H := ifS H; obtain ⟨c20, H⟩ := H; have c20b0 := decide_eq_true c20
          have c20b1 : decide (0 < (rd_L3 l0_2 x26_3).length) = true := decide_eq_true (by omega)
          clear c20
          by_cases c21 : (rd (rd_L3 l0_2 x26_3) 0) = a1
          ·rw [if_pos c21] at H
           have c21b0 : ((rd (rd_L3 l0_2 x26_3) 0) == a1) = true := beq_iff_eq.mpr c21
           have c21b1 : ((rd (rd_L3 l0_2 x26_3) 0) != a1) = false := bne_eq_false_iff_eq.mpr c21
           clear c21; replace H := ifS H; obtain ⟨c22, H⟩ := H; have c22b0 := decide_eq_true c22
           have c22b1 : decide (2 < (rd_L3 l0_2 x26_3).length) = true := decide_eq_true (by omega)
           clear c22
           by_cases c23 : (rd (rd_L3 l0_2 x26_3) 2) = x20_2
           ·rw [if_pos c23] at H
            have c23b0 : ((rd (rd_L3 l0_2 x26_3) 2) == x20_2) = true := beq_iff_eq.mpr c23
            have c23b1 : ((rd (rd_L3 l0_2 x26_3) 2) != x20_2) = false := bne_eq_false_iff_eq.mpr c23
            clear c23
            have H' := Aside0.mk H
            clear H
            have p466 : 0 ≤ (x26_3 : Int) := da
            have q466 : x26_3 < (l0_2.length : Int) := da
            obtain ⟨ad466, A466_0, c466_0, e466, hx466_0, hl466_0, hi466_0⟩ := at_L3 HR0_2.out x26_3 p466 q466
            cases e466
            replace hx466_0 := (HB.out.cell (World.block_lt_of_cell? w _ hx466_0)).trans hx466_0
            have HR466_0 := Aside0.mk hi466_0; have HC466_0 := Aside0.mk hl466_0; clear hi466_0 hl466_0; replace p466 := eq_true p466; replace q466 := eq_true q466
            have p467 : 0 ≤ (0 : Int) := (by omega)
            have q467 : 0 < ((rd_L3 l0_2 x26_3).length : Int) := da
            obtain ⟨ad467, e467, hx467_0⟩ := Kd.at_int HR466_0.out 0 p467 q467
            cases e467
            have qi467 : (0 < (rd_L3 l0_2 x26_3).length) = True := eq_true (by omega)
            (try rw [show ((0 : Int)).toNat = 0 from rfl] at hx467_0)
            (try rw [Addr.add_zero'] at hx467_0)
            replace hx467_0 := (HB.out.cell (World.block_lt_of_cell? w _ hx467_0)).trans hx467_0
            replace p467 := eq_true p467; replace q467 := eq_true q467
            have p468 : 0 ≤ (2 : Int) := (by omega)
            have q468 : 2 < ((rd_L3 l0_2 x26_3).length : Int) := da
            obtain ⟨ad468, e468, hx468_0⟩ := Kd.at_int HR466_0.out 2 p468 q468
            obtain rfl : ad467 = ad468 := (by injection e468)
            (try simp only [show (2 : Int).toNat = 2 from rfl, Nat.reduceMul, Nat.reduceEqDiff, Go.Addr.add, ↓reduceIte] at hx468_0)
            have qi468 : (2 < (rd_L3 l0_2 x26_3).length) = True := eq_true (by omega)
            (try rw [show ((2 : Int)).toNat = 2 from rfl] at hx468_0)
            replace hx468_0 := (HB.out.cell (World.block_lt_of_cell? w _ hx468_0)).trans hx468_0
            replace p468 := eq_true p468; replace q468 := eq_true q468; go_wp2
            go_roundg k3
            case measure => have := HJ2.out; have := HK2.out; have := HK3.out; omega
            case rel => exact ⟨(wrap64 (x8_3 + 1)), (wrap64 (x26_3 + 1)), er, er, H', ⟨by have := HJ2.out; have := HK2.out; have := HK3.out; omega⟩, ⟨rdl HO_6⟩, ⟨blkd BK460⟩, ⟨belowg1 HB GE460⟩⟩
           ·rw [if_neg c23] at H
            have c23b0 : ((rd (rd_L3 l0_2 x26_3) 2) == x20_2) = false := beq_eq_false_iff_ne.mpr c23
            have c23b1 : ((rd (rd_L3 l0_2 x26_3) 2) != x20_2) = true := bne_iff_ne.mpr c23
            have H' := Aside0.mk H
            clear H
            have p466 : 0 ≤ (x26_3 : Int) := da
            have q466 : x26_3 < (l0_2.length : Int) := da
            obtain ⟨ad466, A466_0, c466_0, e466, hx466_0, hl466_0, hi466_0⟩ := at_L3 HR0_2.out x26_3 p466 q466
            cases e466
            replace hx466_0 := (HB.out.cell (World.block_lt_of_cell? w _ hx466_0)).trans hx466_0
            have HR466_0 := Aside0.mk hi466_0; have HC466_0 := Aside0.mk hl466_0; clear hi466_0 hl466_0; replace p466 := eq_true p466; replace q466 := eq_true q466
            have p467 : 0 ≤ (0 : Int) := (by omega)
            have q467 : 0 < ((rd_L3 l0_2 x26_3).length : Int) := da
            obtain ⟨ad467, e467, hx467_0⟩ := Kd.at_int HR466_0.out 0 p467 q467
            cases e467
            have qi467 : (0 < (rd_L3 l0_2 x26_3).length) = True := eq_true (by omega)
            (try rw [show ((0 : Int)).toNat = 0 from rfl] at hx467_0)
            (try rw [Addr.add_zero'] at hx467_0)
            replace hx467_0 := (HB.out.cell (World.block_lt_of_cell? w _ hx467_0)).trans hx467_0
            replace p467 := eq_true p467; replace q467 := eq_true q467
            have p468 : 0 ≤ (2 : Int) := (by omega)
            have q468 : 2 < ((rd_L3 l0_2 x26_3).length : Int) := da
            obtain ⟨ad468, e468, hx468_0⟩ := Kd.at_int HR466_0.out 2 p468 q468
            obtain rfl : ad467 = ad468 := (by injection e468)
            (try simp only [show (2 : Int).toNat = 2 from rfl, Nat.reduceMul, Nat.reduceEqDiff, Go.Addr.add, ↓reduceIte] at hx468_0)
            have qi468 : (2 < (rd_L3 l0_2 x26_3).length) = True := eq_true (by omega)
            (try rw [show ((2 : Int)).toNat = 2 from rfl] at hx468_0)
            replace hx468_0 := (HB.out.cell (World.block_lt_of_cell? w _ hx468_0)).trans hx468_0
            replace p468 := eq_true p468; replace q468 := eq_true q468; go_wp2
            go_roundg k3
            case measure => have := HJ2.out; have := HK2.out; have := HK3.out; omega
            case rel => exact ⟨(x8_3), (wrap64 (x26_3 + 1)), er, er, H', ⟨by have := HJ2.out; have := HK2.out; have := HK3.out; omega⟩, ⟨rdl HO_6⟩, ⟨blkd BK460⟩, ⟨belowg1 HB GE460⟩⟩
          ·rw [if_neg c21] at H
           have c21b0 : ((rd (rd_L3 l0_2 x26_3) 0) == a1) = false := beq_eq_false_iff_ne.mpr c21
           have c21b1 : ((rd (rd_L3 l0_2 x26_3) 0) != a1) = true := bne_iff_ne.mpr c21
           have H' := Aside0.mk H
           clear H
           have p466 : 0 ≤ (x26_3 : Int) := da
           have q466 : x26_3 < (l0_2.length : Int) := da
           obtain ⟨ad466, A466_0, c466_0, e466, hx466_0, hl466_0, hi466_0⟩ := at_L3 HR0_2.out x26_3 p466 q466
           cases e466
           replace hx466_0 := (HB.out.cell (World.block_lt_of_cell? w _ hx466_0)).trans hx466_0
           have HR466_0 := Aside0.mk hi466_0; have HC466_0 := Aside0.mk hl466_0; clear hi466_0 hl466_0; replace p466 := eq_true p466; replace q466 := eq_true q466
           have p467 : 0 ≤ (0 : Int) := (by omega)
           have q467 : 0 < ((rd_L3 l0_2 x26_3).length : Int) := da
           obtain ⟨ad467, e467, hx467_0⟩ := Kd.at_int HR466_0.out 0 p467 q467
           cases e467
           have qi467 : (0 < (rd_L3 l0_2 x26_3).length) = True := eq_true (by omega)
           (try rw [show ((0 : Int)).toNat = 0 from rfl] at hx467_0)
           (try rw [Addr.add_zero'] at hx467_0)
           replace hx467_0 := (HB.out.cell (World.block_lt_of_cell? w _ hx467_0)).trans hx467_0
           replace p467 := eq_true p467; replace q467 := eq_true q467; go_wp2
           go_roundg k3
           case measure => have := HJ2.out; have := HK2.out; have := HK3.out; omega
           case rel => exact ⟨(x8_3), (wrap64 (x26_3 + 1)), er, er, H', ⟨by have := HJ2.out; have := HK2.out; have := HK3.out; omega⟩, ⟨rdl HO_6⟩, ⟨blkd BK460⟩, ⟨belowg1 HB GE460⟩⟩
         ·rw [if_neg c17] at H
          have c17b0 : decide (x26_3 < (l0_2.length : Int)) = false := decide_eq_false c17
          clear c17
          by_cases c24 : x8_3 > (wrap64 (2 * a0_0))
          ·rw [if_pos c24] at H
           have c24b0 : decide ((wrap64 (2 * a0_0)) < x8_3) = true := decide_eq_true c24
           clear c24; replace H := ifS H; obtain ⟨c25, H⟩ := H; have LMc25 := Aside0.mk c25; clear c25
           obtain ⟨y469, hy_⟩ : ∃ y_ : List Int, y_ = (x6_2 ++ [x20_2]) := ⟨_, rfl⟩
           replace H : (impl_CertifiedIn.l0 k3 a1 y469 (wrap64 (x20_2 + 1)) a0_0 a0_1 l0_2 l0_3 l0_4) = some (r1, r2) := yH
           have Ny469 := ak hy_; clear hy_
           have H' := Aside0.mk H
           clear H; obtain ⟨hcz26_0, hcz26_1, hcz26_2, hcz26_3, hcz26_4, hfz26_0, hfz26_1, hfz26_2, hfz26_3, hfz26_4⟩ := box5 BK460
           go_wp2_with (first | ((with_reducible refine gate_builtin (b := .append) (xs := #[.tmp 50, .tmp 52]) rfl ?_); at_builtin; refine Kd.R_append (Kd.int .i64) (w0 := w) w.heap.size rfl (.tmp 50) (.tmp 52) 23 3 (.int .i64 0) 8 rfl Try.underlying23 info3 rfl (by decide) (by omega) u6 x6_2 x20_2 [.int .i64 x20_2] (fun _ => True) (fun _ => False) rfl rfl ?aP (fun _ hk => hk.elim) ?aF ?aO ?aB ?aS ?aL ?_; (case aP => exact rfl); (case aB => exact (belowg1 HB GE460)); (case aF => exact (fun _ _ => trivial)); (case aO => exact (rdl HO_6)); (case aS => exact (below_size (belowg1 HB GE460))); (case aL => have := LMc25.out; omega); intro v470 w27 ho hb hg hat; rw [← Ny469.out] at ho; replace BK460 := ak (blk_grown (blkd BK460) hg (Kd.R_ne HO_6.out BK460.out (by decide))); replace HB := ak (hb); have HO471 := ak (ho); clear HO_6; clear ho hb hg hat))
           go_roundg k3
           case measure => have := HJ2.out; have := HK2.out; have := HK3.out; omega
           case rel => exact ⟨(y469), (wrap64 (x20_2 + 1)), er, H', ⟨by have := HJ2.out; have := HK2.out; have := HK3.out; omega⟩, ⟨rdl HO471⟩, ⟨blkd BK460⟩, ⟨belowg1 HB GE460⟩⟩
          ·rw [if_neg c24] at H
           have c24b0 : decide ((wrap64 (2 * a0_0)) < x8_3) = false := decide_eq_false c24
           clear c24
           have H' := Aside0.mk H
           clear H; obtain ⟨hcz28_0, hcz28_1, hcz28_2, hcz28_3, hcz28_4, hfz28_0, hfz28_1, hfz28_2, hfz28_3, hfz28_4⟩ := box5 BK460; go_wp2
           go_roundg k3
           case measure => have := HJ2.out; have := HK2.out; have := HK3.out; omega
           case rel => exact ⟨(x6_2), (wrap64 (x20_2 + 1)), er, H', ⟨by have := HJ2.out; have := HK2.out; have := HK3.out; omega⟩, ⟨rdl HO_6⟩, ⟨blkd BK460⟩, ⟨belowg1 HB GE460⟩⟩
      ·rw [if_neg c15] at H
       have c15b0 : decide (x20_2 < 10) = false := decide_eq_false c15
       clear c15
       simp only [Option.some.injEq, Prod.mk.injEq] at H
       obtain ⟨rfl, rfl⟩ := H; go_wp2
       go_ret2
       exact ⟨_, er2, by (with_reducible repeat (first | apply Kd.R_alloc | apply Kd.R_drewN | apply Kd.R_drew)); exact HO_6.out, belowg1 HB GE460⟩

/-! ### laws_FnBoard: function 5 -/
mutual
def laws_FnBoard.j0 : Nat → Bool → Bool → Int → Int → List (List Int) → List Int → List Int → Option (Bool)
  | 0, _, _, _, _, _, _, _ => none
  | k + 1, x8, x54, x495000, x495001, x495002, x495003, x495004 => if x54 = true then (some false) else (if x8 = true then ((impl_GoodBoard.f k x495000 x495001 x495002 x495003 x495004).bind fun t513 => (if t513 = true then (laws_FnBoard.l0 k 0 x495000 x495001 x495002 x495003 x495004) else (some false))) else (some true))
def laws_FnBoard.l0 : Nat → Int → Int → Int → List (List Int) → List Int → List Int → Option (Bool)
  | 0, _, _, _, _, _, _ => none
  | k + 1, x12, x495000, x495001, x495002, x495003, x495004 => if x12 ≤ x495001 then ((impl_CertifiedIn.f k x495000 x495001 x495002 x495003 x495004 x12).bind fun bt514 => (if bt514.2 = true then (if (bt514.1.length : Int) > 1 then (some false) else (laws_FnBoard.l0 k (wrap64 (x12 + 1)) x495000 x495001 x495002 x495003 x495004)) else (some false))) else (some true)
end
def laws_FnBoard.f (k : Nat) (l0 : List Int) : Option (Bool) := if (l0.length : Int) > 1048576 then (some true) else ((spec_DrawPlayBoard.f k l0).bind fun bt472 => ((impl_PlayBoard.f k bt472.1 bt472.2.1 bt472.2.2).bind fun bt479 => ((spec_PlayBoard.f k bt472.1 bt472.2.1 bt472.2.2).bind fun bt495 => (if (bt479.2.2.2.2.2.2 != bt495.2.2.2.2.2.2) = true then (laws_FnBoard.j0 k bt479.2.2.2.2.2.2 true bt479.1 bt479.2.1 bt479.2.2.1 bt479.2.2.2.1 bt479.2.2.2.2.1) else ((laws_sameBools.f k bt479.2.2.2.2.2.1 bt495.2.2.2.2.2.1).bind fun t511 => (if t511 = true then ((laws_sameBoard.f k bt479.1 bt479.2.1 bt479.2.2.1 bt479.2.2.2.1 bt479.2.2.2.2.1 bt495.1 bt495.2.1 bt495.2.2.1 bt495.2.2.2.1 bt495.2.2.2.2.1).bind fun t512 => (laws_FnBoard.j0 k bt479.2.2.2.2.2.2 (!t512) bt479.1 bt479.2.1 bt479.2.2.1 bt479.2.2.2.1 bt479.2.2.2.2.1)) else (laws_FnBoard.j0 k bt479.2.2.2.2.2.2 true bt479.1 bt479.2.1 bt479.2.2.1 bt479.2.2.2.1 bt479.2.2.2.2.1)))))))
theorem laws_FnBoard.mono_l : ∀ k, (∀ y0 y1 y2 y3 y4 y5 y6, LeO (laws_FnBoard.j0 k y0 y1 y2 y3 y4 y5 y6) (laws_FnBoard.j0 (k + 1) y0 y1 y2 y3 y4 y5 y6)) ∧ (∀ y0 y1 y2 y3 y4 y5, LeO (laws_FnBoard.l0 k y0 y1 y2 y3 y4 y5) (laws_FnBoard.l0 (k + 1) y0 y1 y2 y3 y4 y5))
 | 0 => ⟨fun _ _ _ _ _ _ _ r h => by simp [laws_FnBoard.j0] at h, fun _ _ _ _ _ _ r h => by simp [laws_FnBoard.l0] at h⟩
 | k + 1 => by
  obtain ⟨ih0, ih1⟩ := laws_FnBoard.mono_l k
  refine ⟨?_, ?_⟩
  ·intro y0 y1 y2 y3 y4 y5 y6
   unfold laws_FnBoard.j0
   repeat' (first | (with_reducible first | exact ih0 _ _ _ _ _ _ _ | exact ih1 _ _ _ _ _ _ | exact impl_CertifiedIn.mono _ _ _ _ _ _ _ | exact impl_GoodBoard.mono _ _ _ _ _ _ | exact impl_PlayBoard.mono _ _ _ _ | exact laws_sameBoard.mono _ _ _ _ _ _ _ _ _ _ _ | exact laws_sameBools.mono _ _ _ | exact spec_DrawPlayBoard.mono _ _ | exact spec_PlayBoard.mono _ _ _ _ | exact LeO.refl _ | exact LeO.none _ | refine LeO.ite ?_ ?_ | refine LeO.bind ?_ (fun _ => ?_)) | exact ih0 _ _ _ _ _ _ _ | exact ih1 _ _ _ _ _ _ | exact impl_CertifiedIn.mono _ _ _ _ _ _ _ | exact impl_GoodBoard.mono _ _ _ _ _ _ | exact impl_PlayBoard.mono _ _ _ _ | exact laws_sameBoard.mono _ _ _ _ _ _ _ _ _ _ _ | exact laws_sameBools.mono _ _ _ | exact spec_DrawPlayBoard.mono _ _ | exact spec_PlayBoard.mono _ _ _ _ | exact LeO.none _ | refine LeO.ite ?_ ?_ | refine LeO.bind ?_ (fun _ => ?_))
  ·intro y0 y1 y2 y3 y4 y5
   unfold laws_FnBoard.l0
   repeat' (first | (with_reducible first | exact ih0 _ _ _ _ _ _ _ | exact ih1 _ _ _ _ _ _ | exact impl_CertifiedIn.mono _ _ _ _ _ _ _ | exact impl_GoodBoard.mono _ _ _ _ _ _ | exact impl_PlayBoard.mono _ _ _ _ | exact laws_sameBoard.mono _ _ _ _ _ _ _ _ _ _ _ | exact laws_sameBools.mono _ _ _ | exact spec_DrawPlayBoard.mono _ _ | exact spec_PlayBoard.mono _ _ _ _ | exact LeO.refl _ | exact LeO.none _ | refine LeO.ite ?_ ?_ | refine LeO.bind ?_ (fun _ => ?_)) | exact ih0 _ _ _ _ _ _ _ | exact ih1 _ _ _ _ _ _ | exact impl_CertifiedIn.mono _ _ _ _ _ _ _ | exact impl_GoodBoard.mono _ _ _ _ _ _ | exact impl_PlayBoard.mono _ _ _ _ | exact laws_sameBoard.mono _ _ _ _ _ _ _ _ _ _ _ | exact laws_sameBools.mono _ _ _ | exact spec_DrawPlayBoard.mono _ _ | exact spec_PlayBoard.mono _ _ _ _ | exact LeO.none _ | refine LeO.ite ?_ ?_ | refine LeO.bind ?_ (fun _ => ?_))
theorem laws_FnBoard.mono : ∀ a0 k, LeO (laws_FnBoard.f k a0) (laws_FnBoard.f (k + 1) a0) := by
 intro a0 k
 obtain ⟨ih0, ih1⟩ := laws_FnBoard.mono_l k
 unfold laws_FnBoard.f
 repeat' (first | (with_reducible first | exact ih0 _ _ _ _ _ _ _ | exact ih1 _ _ _ _ _ _ | exact impl_CertifiedIn.mono _ _ _ _ _ _ _ | exact impl_GoodBoard.mono _ _ _ _ _ _ | exact impl_PlayBoard.mono _ _ _ _ | exact laws_sameBoard.mono _ _ _ _ _ _ _ _ _ _ _ | exact laws_sameBools.mono _ _ _ | exact spec_DrawPlayBoard.mono _ _ | exact spec_PlayBoard.mono _ _ _ _ | exact LeO.refl _ | exact LeO.none _ | refine LeO.ite ?_ ?_ | refine LeO.bind ?_ (fun _ => ?_)) | exact ih0 _ _ _ _ _ _ _ | exact ih1 _ _ _ _ _ _ | exact impl_CertifiedIn.mono _ _ _ _ _ _ _ | exact impl_GoodBoard.mono _ _ _ _ _ _ | exact impl_PlayBoard.mono _ _ _ _ | exact laws_sameBoard.mono _ _ _ _ _ _ _ _ _ _ _ | exact laws_sameBools.mono _ _ _ | exact spec_DrawPlayBoard.mono _ _ | exact spec_PlayBoard.mono _ _ _ _ | exact LeO.none _ | refine LeO.ite ?_ ?_ | refine LeO.bind ?_ (fun _ => ?_))
set_option maxHeartbeats 8000000 in
set_option maxRecDepth 100000 in
theorem laws_FnBoard.calls (k : Nat) (A0 : Option Addr) (c0 : Nat) (l0 : List Int) (r : Bool) (w : World) (hr0 : Kd.C (Kd.int .u8) w A0 l0.length l0) (hc0 : l0.length ≤ c0) (h : laws_FnBoard.f k l0 = some r) (hr_ : r = true) :
  Calls Try.prog 5 #[.slice A0 l0.length c0] w fun e w' => e = .returned (.bool r) ∧ Below w.heap.size w w' := by
 have hu47 := Try.underlying47
 have HR0 := Aside0.mk hr0; have HC0 := Aside0.mk hc0; clear hr0 hc0
 have HB := Aside0.mk (Below.refl w.heap.size w)
 have H : (if (l0.length : Int) > 1048576 then (some true) else ((spec_DrawPlayBoard.f k l0).bind fun bt472 => ((impl_PlayBoard.f k bt472.1 bt472.2.1 bt472.2.2).bind fun bt479 => ((spec_PlayBoard.f k bt472.1 bt472.2.1 bt472.2.2).bind fun bt495 => (if (bt479.2.2.2.2.2.2 != bt495.2.2.2.2.2.2) = true then (laws_FnBoard.j0 k bt479.2.2.2.2.2.2 true bt479.1 bt479.2.1 bt479.2.2.1 bt479.2.2.2.1 bt479.2.2.2.2.1) else ((laws_sameBools.f k bt479.2.2.2.2.2.1 bt495.2.2.2.2.2.1).bind fun t511 => (if t511 = true then ((laws_sameBoard.f k bt479.1 bt479.2.1 bt479.2.2.1 bt479.2.2.2.1 bt479.2.2.2.2.1 bt495.1 bt495.2.1 bt495.2.2.1 bt495.2.2.2.1 bt495.2.2.2.2.1).bind fun t512 => (laws_FnBoard.j0 k bt479.2.2.2.2.2.2 (!t512) bt479.1 bt479.2.1 bt479.2.2.1 bt479.2.2.2.1 bt479.2.2.2.2.1)) else (laws_FnBoard.j0 k bt479.2.2.2.2.2.2 true bt479.1 bt479.2.1 bt479.2.2.1 bt479.2.2.2.1 bt479.2.2.2.2.1)))))))) = some r := h
 clear h
 by_cases c2 : (l0.length : Int) > 1048576
 ·rw [if_pos c2] at H
  have c2b0 : decide (1048576 < (l0.length : Int)) = true := decide_eq_true c2
  have c2b1 : decide (1048576 < l0.length) = true := decide_eq_true (by omega)
  clear c2
  obtain rfl := Option.some.inj H
  go_enter Try.func5, Try.ntmps5
  go_wp2
  go_ret
  exact ⟨er2, belowd HB⟩
 ·rw [if_neg c2] at H
  have c2b0 : decide (1048576 < (l0.length : Int)) = false := decide_eq_false c2
  have c2b1 : decide (1048576 < l0.length) = false := decide_eq_false (by omega)
  clear c2; replace H := bS H; obtain ⟨⟨t472, t473, t474⟩, A3, H⟩ := H
  replace H : ((impl_PlayBoard.f k t472 t473 t474).bind fun bt479 => ((spec_PlayBoard.f k t472 t473 t474).bind fun bt495 => (if (bt479.2.2.2.2.2.2 != bt495.2.2.2.2.2.2) = true then (laws_FnBoard.j0 k bt479.2.2.2.2.2.2 true bt479.1 bt479.2.1 bt479.2.2.1 bt479.2.2.2.1 bt479.2.2.2.2.1) else ((laws_sameBools.f k bt479.2.2.2.2.2.1 bt495.2.2.2.2.2.1).bind fun t511 => (if t511 = true then ((laws_sameBoard.f k bt479.1 bt479.2.1 bt479.2.2.1 bt479.2.2.2.1 bt479.2.2.2.2.1 bt495.1 bt495.2.1 bt495.2.2.1 bt495.2.2.2.1 bt495.2.2.2.2.1).bind fun t512 => (laws_FnBoard.j0 k bt479.2.2.2.2.2.2 (!t512) bt479.1 bt479.2.1 bt479.2.2.1 bt479.2.2.2.1 bt479.2.2.2.2.1)) else (laws_FnBoard.j0 k bt479.2.2.2.2.2.2 true bt479.1 bt479.2.1 bt479.2.2.1 bt479.2.2.2.1 bt479.2.2.2.2.1)))))) = some r := H
  replace H := bS H; obtain ⟨⟨t479, t480, t481, t484, t487, t490, t493⟩, A4, H⟩ := H
  replace H : ((spec_PlayBoard.f k t472 t473 t474).bind fun bt495 => (if (t493 != bt495.2.2.2.2.2.2) = true then (laws_FnBoard.j0 k t493 true t479 t480 t481 t484 t487) else ((laws_sameBools.f k t490 bt495.2.2.2.2.2.1).bind fun t511 => (if t511 = true then ((laws_sameBoard.f k t479 t480 t481 t484 t487 bt495.1 bt495.2.1 bt495.2.2.1 bt495.2.2.2.1 bt495.2.2.2.2.1).bind fun t512 => (laws_FnBoard.j0 k t493 (!t512) t479 t480 t481 t484 t487)) else (laws_FnBoard.j0 k t493 true t479 t480 t481 t484 t487))))) = some r := H
  replace H := bS H; obtain ⟨⟨t495, t496, t497, t500, t503, t506, t509⟩, A5, H⟩ := H
  replace H : (if (t493 != t509) = true then (laws_FnBoard.j0 k t493 true t479 t480 t481 t484 t487) else ((laws_sameBools.f k t490 t506).bind fun t511 => (if t511 = true then ((laws_sameBoard.f k t479 t480 t481 t484 t487 t495 t496 t497 t500 t503).bind fun t512 => (laws_FnBoard.j0 k t493 (!t512) t479 t480 t481 t484 t487)) else (laws_FnBoard.j0 k t493 true t479 t480 t481 t484 t487)))) = some r := H
  have HC6 := Aside0.mk H; clear H
  go_enter Try.func5, Try.ntmps5
  go_upto_region 6 with (first | ((with_reducible refine gate_callee (f := 27) rfl ?_); refine goesLa (some 20) rfl Try.func27 #[.slice A0 l0.length c0] rfl ?_; (with_reducible refine (spec_DrawPlayBoard.calls k _ _ l0 t472 t473 t474 _ ?side1 ?side2 A3.out).mono ?_); (case side1 => exact cd HR0.out); (case side2 => exact HC0.out); rintro e w7 ⟨v475, v477, rfl, ho0, ho1, hb⟩; refine ⟨_, rfl, ?_⟩; have HO476 := ak (Kd.R_lower ho0 (below_size (belowd HB))); have HO478 := ak (Kd.R_lower ho1 (below_size (belowd HB))); replace HB := ak (below_step (belowd HB) hb); (try clear hb); (try clear ho0); (try clear ho1); obtain ⟨Ao8, co8, eo8⟩ := Kd.R_slice HO476.out; subst eo8; obtain ⟨Ao9, co9, eo9⟩ := Kd.R_slice HO478.out; subst eo9) | ((with_reducible refine gate_callee (f := 28) rfl ?_); refine goesLa (some 28) rfl Try.func28 #[.int .i64 t472, .slice Ao8 t473.length co8, .slice Ao9 t474.length co9] rfl ?_; (with_reducible refine (impl_PlayBoard.calls k t472 _ _ t473 _ _ t474 t479 t480 t481 t484 t487 t490 t493 _ ?side1 ?side2 ?side3 ?side4 A4.out).mono ?_); (case side1 => exact cd (Kd.R_reads' HO476.out).2.2); (case side2 => exact (Kd.R_reads' HO476.out).2.1); (case side3 => exact cd (Kd.R_reads' HO478.out).2.2); (case side4 => exact (Kd.R_reads' HO478.out).2.1); rintro e w10 ⟨v482, v485, v488, v491, rfl, ho0, ho1, ho2, ho3, hb⟩; refine ⟨_, rfl, ?_⟩; replace HO478 := ak (Kd.R_below (rdl HO478) hb); have HO483 := ak (Kd.S_lower (Kd.S_new' ho0 (Kd.R_lt (rdl HO476))) (below_size (belowd HB))); have HO486 := ak (Kd.R_lower (Kd.R_new' ho1 (Kd.R_lt (rdl HO476))) (below_size (belowd HB))); have HO489 := ak (Kd.R_lower (Kd.R_new' ho2 (Kd.R_lt (rdl HO476))) (below_size (belowd HB))); replace HO476 := ak (Kd.R_mono (Kd.R_told (Kd.R_told (Kd.R_old (rdl HO476) hb) (Kd.R_base ho1)) (Kd.R_base ho2)) (fun _ h_ => h_.1)); have HO492 := ak (Kd.R_lower ho3 (below_size (belowd HB))); replace HB := ak (below_step (belowd HB) hb); (try clear hb); (try clear ho0); (try clear ho1); (try clear ho2); (try clear ho3)) | ((with_reducible refine gate_dst (N := 6) rfl ?_); (try (refine gate_guard (by rfl) ?_; dsimp only)); refine boxev 6 #[.int .i64 0, .int .i64 0, .slice none 0 0, .slice none 0 0, .slice none 0 0] 47 ?_; intro gb494 hg w11 hbox hb; replace HO476 := ak (Kd.R_below (rdl HO476) hb); replace HO478 := ak (Kd.R_below (rdl HO478) hb); replace HO483 := ak (Kd.S_below (sd HO483) hb); replace HO486 := ak (Kd.R_below (rdl HO486) hb); replace HO489 := ak (Kd.R_below (rdl HO489) hb); replace HO492 := ak (Kd.R_below (rdl HO492) hb); have BK494 := ak (hbox); have GW494 := ak (hgl hg (belowd HB)); have GE494 := ak (hgl hg (belowd HB)); replace HB := ak (below_step (belowd HB) hb); clear hb hbox hg; obtain ⟨hcz12_0, hcz12_1, hcz12_2, hcz12_3, hcz12_4, hfz12_0, hfz12_1, hfz12_2, hfz12_3, hfz12_4⟩ := box5 BK494; obtain ⟨Ao13, co13, eo13⟩ := Kd.S_slice HO483.out; subst eo13; obtain ⟨Ao14, co14, eo14⟩ := Kd.R_slice HO486.out; subst eo14; obtain ⟨Ao15, co15, eo15⟩ := Kd.R_slice HO489.out; subst eo15) | ((with_reducible refine gate_callee (f := 29) rfl ?_); refine goesLa (some 36) rfl Try.func29 #[.int .i64 t472, .slice Ao8 t473.length co8, .slice Ao9 t474.length co9] rfl ?_; (with_reducible refine (spec_PlayBoard.calls k t472 _ _ t473 _ _ t474 t495 t496 t497 t500 t503 t506 t509 _ ?side1 ?side2 ?side3 ?side4 A5.out).mono ?_); (case side1 => exact rdR HO476 BK494); (case side2 => exact (Kd.R_reads' HO476.out).2.1); (case side3 => exact rdR HO478 BK494); (case side4 => exact (Kd.R_reads' HO478.out).2.1); rintro e w16 ⟨v498, v501, v504, v507, rfl, ho0, ho1, ho2, ho3, hb⟩; refine ⟨_, rfl, ?_⟩; obtain ⟨N17, eN17⟩ := below_num hb; replace HO478 := ak (Kd.R_below (by (with_reducible repeat (first | apply Kd.R_alloc | apply Kd.R_drewN | apply Kd.R_drew)); exact (Kd.R_mono (farsR (Kd.R_types HO478.out BK494.out (by decide))) (fun _ h_ => h_.1))) hb); have HO499 := ak (Kd.S_lower (Kd.S_new' (Kd.S_new' (Kd.S_new' (Kd.S_new' (S_geN eN17 ho0) (Kd.R_lt (by (with_reducible repeat (first | apply Kd.R_alloc | apply Kd.R_drewN | apply Kd.R_drew)); exact (Kd.R_mono (farsR (Kd.R_types HO476.out BK494.out (by decide))) (fun _ h_ => h_.1))))) (Kd.S_lt (by (with_reducible repeat (first | apply Kd.S_alloc | apply Kd.S_drewN | apply Kd.S_drew)); exact (Kd.S_mono (farsS (Kd.S_types HO483.out BK494.out (by decide))) (fun _ h_ => h_.1))))) (Kd.R_lt (by (with_reducible repeat (first | apply Kd.R_alloc | apply Kd.R_drewN | apply Kd.R_drew)); exact (Kd.R_mono (farsR (Kd.R_types HO486.out BK494.out (by decide))) (fun _ h_ => h_.1))))) (Kd.R_lt (by (with_reducible repeat (first | apply Kd.R_alloc | apply Kd.R_drewN | apply Kd.R_drew)); exact (Kd.R_mono (farsR (Kd.R_types HO489.out BK494.out (by decide))) (fun _ h_ => h_.1))))) (below_size (belowg1 HB GE494))); replace HO483 := ak (Kd.S_mono (Kd.S_told (Kd.S_told (Kd.S_told (Kd.S_old (S_ltN eN17 (by (with_reducible repeat (first | apply Kd.S_alloc | apply Kd.S_drewN | apply Kd.S_drew)); exact (Kd.S_mono (farsS (Kd.S_types HO483.out BK494.out (by decide))) (fun _ h_ => h_.1)))) hb) (Kd.S_base ho0)) (Kd.R_base ho1)) (Kd.R_base ho2)) (fun _ h_ => h_.1)); have HO502 := ak (Kd.R_lower (Kd.R_new' (Kd.R_new' (Kd.R_new' ho1 (Kd.R_lt (by (with_reducible repeat (first | apply Kd.R_alloc | apply Kd.R_drewN | apply Kd.R_drew)); exact (Kd.R_mono (farsR (Kd.R_types HO476.out BK494.out (by decide))) (fun _ h_ => h_.1))))) (Kd.R_lt (by (with_reducible repeat (first | apply Kd.R_alloc | apply Kd.R_drewN | apply Kd.R_drew)); exact (Kd.R_mono (farsR (Kd.R_types HO486.out BK494.out (by decide))) (fun _ h_ => h_.1))))) (Kd.R_lt (by (with_reducible repeat (first | apply Kd.R_alloc | apply Kd.R_drewN | apply Kd.R_drew)); exact (Kd.R_mono (farsR (Kd.R_types HO489.out BK494.out (by decide))) (fun _ h_ => h_.1))))) (below_size (belowg1 HB GE494))); have HO505 := ak (Kd.R_lower (Kd.R_new' (Kd.R_new' (Kd.R_new' ho2 (Kd.R_lt (by (with_reducible repeat (first | apply Kd.R_alloc | apply Kd.R_drewN | apply Kd.R_drew)); exact (Kd.R_mono (farsR (Kd.R_types HO476.out BK494.out (by decide))) (fun _ h_ => h_.1))))) (Kd.R_lt (by (with_reducible repeat (first | apply Kd.R_alloc | apply Kd.R_drewN | apply Kd.R_drew)); exact (Kd.R_mono (farsR (Kd.R_types HO486.out BK494.out (by decide))) (fun _ h_ => h_.1))))) (Kd.R_lt (by (with_reducible repeat (first | apply Kd.R_alloc | apply Kd.R_drewN | apply Kd.R_drew)); exact (Kd.R_mono (farsR (Kd.R_types HO489.out BK494.out (by decide))) (fun _ h_ => h_.1))))) (below_size (belowg1 HB GE494))); replace HO476 := ak (Kd.R_mono (Kd.R_told (Kd.R_told (Kd.R_old (by (with_reducible repeat (first | apply Kd.R_alloc | apply Kd.R_drewN | apply Kd.R_drew)); exact (Kd.R_mono (farsR (Kd.R_types HO476.out BK494.out (by decide))) (fun _ h_ => h_.1))) hb) (Kd.R_base ho1)) (Kd.R_base ho2)) (fun _ h_ => h_.1)); replace HO486 := ak (Kd.R_mono (Kd.R_told (Kd.R_told (Kd.R_old (by (with_reducible repeat (first | apply Kd.R_alloc | apply Kd.R_drewN | apply Kd.R_drew)); exact (Kd.R_mono (farsR (Kd.R_types HO486.out BK494.out (by decide))) (fun _ h_ => h_.1))) hb) (Kd.R_base ho1)) (Kd.R_base ho2)) (fun _ h_ => h_.1)); replace HO489 := ak (Kd.R_mono (Kd.R_told (Kd.R_told (Kd.R_old (by (with_reducible repeat (first | apply Kd.R_alloc | apply Kd.R_drewN | apply Kd.R_drew)); exact (Kd.R_mono (farsR (Kd.R_types HO489.out BK494.out (by decide))) (fun _ h_ => h_.1))) hb) (Kd.R_base ho1)) (Kd.R_base ho2)) (fun _ h_ => h_.1)); have HO508 := ak (Kd.R_lower (Kd.R_new' ho3 (Kd.R_lt (by (with_reducible repeat (first | apply Kd.R_alloc | apply Kd.R_drewN | apply Kd.R_drew)); exact (Kd.R_mono (farsR (Kd.R_types HO492.out BK494.out (by decide))) (fun _ h_ => h_.1))))) (below_size (belowg1 HB GE494))); replace HO492 := ak (Kd.R_elder' (by (with_reducible repeat (first | apply Kd.R_alloc | apply Kd.R_drewN | apply Kd.R_drew)); exact (Kd.R_mono (farsR (Kd.R_types HO492.out BK494.out (by decide))) (fun _ h_ => h_.1))) (Kd.R_base ho3) hb); replace BK494 := ak (blk_below (g := gb494) (o := .cells #[.int .i64 t479, .int .i64 t480, .slice Ao13 t481.length co13, .slice Ao14 t484.length co14, .slice Ao15 t487.length co15] 47 (0, 0)) (by (with_reducible repeat (first | refine blk_drewN ?_ _ | refine blk_drew ?_ | refine blk_alloc ?_ _)); refine blk_put (cs := #[.int .i64 t479, .int .i64 t480, .slice Ao13 t481.length co13, .slice Ao14 t484.length co14, .slice none 0 0]) ?_ 4 _ rfl; (with_reducible repeat (first | refine blk_drewN ?_ _ | refine blk_drew ?_ | refine blk_alloc ?_ _)); refine blk_put (cs := #[.int .i64 t479, .int .i64 t480, .slice Ao13 t481.length co13, .slice none 0 0, .slice none 0 0]) ?_ 3 _ rfl; (with_reducible repeat (first | refine blk_drewN ?_ _ | refine blk_drew ?_ | refine blk_alloc ?_ _)); refine blk_put (cs := #[.int .i64 t479, .int .i64 t480, .slice none 0 0, .slice none 0 0, .slice none 0 0]) ?_ 2 _ rfl; (with_reducible repeat (first | refine blk_drewN ?_ _ | refine blk_drew ?_ | refine blk_alloc ?_ _)); refine blk_put (cs := #[.int .i64 t479, .int .i64 0, .slice none 0 0, .slice none 0 0, .slice none 0 0]) ?_ 1 _ rfl; (with_reducible repeat (first | refine blk_drewN ?_ _ | refine blk_drew ?_ | refine blk_alloc ?_ _)); refine blk_put (cs := #[.int .i64 0, .int .i64 0, .slice none 0 0, .slice none 0 0, .slice none 0 0]) ?_ 0 _ rfl; (with_reducible repeat (first | refine blk_drewN ?_ _ | refine blk_drew ?_ | refine blk_alloc ?_ _)); exact BK494.out) hb); replace HB := ak (below_step (belowg1 HB GE494) hb); (try clear hb); (try clear ho0); (try clear ho1); (try clear ho2); (try clear ho3)) | ((with_reducible refine gate_dst (N := 9) rfl ?_); (try (refine gate_guard (by rfl) ?_; dsimp only)); refine boxev 9 #[.int .i64 0, .int .i64 0, .slice none 0 0, .slice none 0 0, .slice none 0 0] 47 ?_; intro gb510 hg w18 hbox hb; replace HO476 := ak (Kd.R_below (rdl HO476) hb); replace HO478 := ak (Kd.R_below (rdl HO478) hb); replace HO483 := ak (Kd.S_below (sd HO483) hb); replace HO486 := ak (Kd.R_below (rdl HO486) hb); replace HO489 := ak (Kd.R_below (rdl HO489) hb); replace HO492 := ak (Kd.R_below (rdl HO492) hb); replace HO499 := ak (Kd.S_below (sd HO499) hb); replace HO502 := ak (Kd.R_below (rdl HO502) hb); replace HO505 := ak (Kd.R_below (rdl HO505) hb); replace HO508 := ak (Kd.R_below (rdl HO508) hb); have BK510 := ak (hbox); have GW510 := ak (hgl hg (belowg1 HB GE494)); have GE510 := ak (hgl hg (belowg1 HB GE494)); replace HB := ak (below_step (belowg1 HB GE494) hb); have NB494_510 := ak ((by rw [hg]; exact Nat.ne_of_lt (blk_lt (blkd BK494)) : gb494 ≠ gb510)); have NB510_494 := ak ((by rw [hg]; exact Nat.ne_of_gt (blk_lt (blkd BK494)) : gb510 ≠ gb494)); replace BK494 := ak (blk_below (blkd BK494) hb); clear hb hbox hg; have hnb19 := NB510_494.out; have hnc19 := NB494_510.out; obtain ⟨hcz20_0, hcz20_1, hcz20_2, hcz20_3, hcz20_4, hfz20_0, hfz20_1, hfz20_2, hfz20_3, hfz20_4⟩ := box5 BK510; obtain ⟨Ao21, co21, eo21⟩ := Kd.S_slice HO499.out; subst eo21; obtain ⟨Ao22, co22, eo22⟩ := Kd.R_slice HO502.out; subst eo22; obtain ⟨Ao23, co23, eo23⟩ := Kd.R_slice HO505.out; subst eo23))
  (try simp only [Act.put, List.setIfInBounds_toArray, List.set_cons_zero, List.set_cons_succ])
  go_cut [54] (fun v54 wc => ∃ (kq : Nat) (x54_5 : Bool), v54 = .bool x54_5 ∧ Aside0 (laws_FnBoard.j0 kq t493 x54_5 t479 t480 t481 t484 t487 = some r) ∧ Aside0 (kq ≤ k) ∧ Aside0 (Kd.S (Kd.slice 3 (Kd.int .i64)) 23 wc w.heap.size (fun k_ => some k_ ≠ ((.slice Ao14 t484.length co14) : Value).ownBlock ∧ some k_ ≠ ((.slice Ao15 t487.length co15) : Value).ownBlock ∧ some k_ ≠ ((.slice Ao21 t497.length co21) : Value).ownBlock ∧ some k_ ≠ ((.slice Ao22 t500.length co22) : Value).ownBlock ∧ some k_ ≠ ((.slice Ao23 t503.length co23) : Value).ownBlock ∧ k_ < N17) (.slice Ao13 t481.length co13) t481) ∧ Aside0 (Kd.R (Kd.int .i64) 3 wc w.heap.size (fun k_ => some k_ ≠ ((.slice Ao15 t487.length co15) : Value).ownBlock ∧ some k_ ≠ ((.slice Ao22 t500.length co22) : Value).ownBlock ∧ some k_ ≠ ((.slice Ao23 t503.length co23) : Value).ownBlock) (.slice Ao14 t484.length co14) t484) ∧ Aside0 (Kd.R (Kd.int .i64) 3 wc w.heap.size (fun k_ => some k_ ≠ ((.slice Ao14 t484.length co14) : Value).ownBlock ∧ some k_ ≠ ((.slice Ao22 t500.length co22) : Value).ownBlock ∧ some k_ ≠ ((.slice Ao23 t503.length co23) : Value).ownBlock) (.slice Ao15 t487.length co15) t487) ∧ Aside0 (Kd.S (Kd.slice 3 (Kd.int .i64)) 23 wc w.heap.size (fun k_ => some k_ ≠ ((.slice Ao13 t481.length co13) : Value).ownBlock ∧ some k_ ≠ ((.slice Ao14 t484.length co14) : Value).ownBlock ∧ some k_ ≠ ((.slice Ao15 t487.length co15) : Value).ownBlock ∧ some k_ ≠ ((.slice Ao22 t500.length co22) : Value).ownBlock ∧ some k_ ≠ ((.slice Ao23 t503.length co23) : Value).ownBlock ∧ N17 ≤ k_) (.slice Ao21 t497.length co21) t497) ∧ Aside0 (Kd.R (Kd.int .i64) 3 wc w.heap.size (fun k_ => some k_ ≠ ((.slice Ao14 t484.length co14) : Value).ownBlock ∧ some k_ ≠ ((.slice Ao15 t487.length co15) : Value).ownBlock ∧ some k_ ≠ ((.slice Ao23 t503.length co23) : Value).ownBlock) (.slice Ao22 t500.length co22) t500) ∧ Aside0 (Kd.R (Kd.int .i64) 3 wc w.heap.size (fun k_ => some k_ ≠ ((.slice Ao14 t484.length co14) : Value).ownBlock ∧ some k_ ≠ ((.slice Ao15 t487.length co15) : Value).ownBlock ∧ some k_ ≠ ((.slice Ao22 t500.length co22) : Value).ownBlock) (.slice Ao23 t503.length co23) t503) ∧ Aside0 (wc.heap[gb494]? = some (.cells #[.int .i64 t479, .int .i64 t480, (.slice Ao13 t481.length co13), (.slice Ao14 t484.length co14), (.slice Ao15 t487.length co15)] 47 (0, 0))) ∧ Aside0 (wc.heap[gb510]? = some (.cells #[.int .i64 t495, .int .i64 t496, (.slice Ao21 t497.length co21), (.slice Ao22 t500.length co22), (.slice Ao23 t503.length co23)] 47 (0, 0))) ∧ Aside0 (Below w.heap.size w wc))
  case first =>
   have H := HC6.out; clear HC6
   by_cases c24 : (t493 != t509) = true
   ·rw [if_pos c24] at H
    have c24b0 : (t493 != t509) = true := c24
    (try (have c24b1 : decide (t493 = t509) = false := by simpa using c24))
    (try (have c24b2 : (t493 == t509) = false := by simpa using c24))
    (try (have c24b3 : ¬ (t493 = t509) := by simpa using c24))
    clear c24
    (first | rw [c24b0] | (simp only [i64_w, i32_w]; rw [c24b0]) | skip)
    have H' := Aside0.mk H
    clear H; go_wp2
    go_meet
    case rel => exact ⟨_, (true), er, H', ⟨by first | omega | exact Nat.le_refl _⟩, ⟨by (with_reducible repeat (first | apply Kd.S_alloc | apply Kd.S_drewN | apply Kd.S_drew)); exact Kd.S_mono (farsS (Kd.S_types HO483.out BK510.out (by decide))) (fun _ hk => ⟨hk.1.1.1.1.1.1.1, ⟨hk.1.1.1.1.1.1.2, ⟨hk.1.1.1.2, ⟨hk.1.1.2, ⟨hk.1.2, hk.1.1.1.1.2⟩⟩⟩⟩⟩)⟩, ⟨by (with_reducible repeat (first | apply Kd.R_alloc | apply Kd.R_drewN | apply Kd.R_drew)); exact Kd.R_mono (farsR (Kd.R_types HO486.out BK510.out (by decide))) (fun _ hk => ⟨hk.1.1.1.1, ⟨hk.1.1.2, hk.1.2⟩⟩)⟩, ⟨by (with_reducible repeat (first | apply Kd.R_alloc | apply Kd.R_drewN | apply Kd.R_drew)); exact Kd.R_mono (farsR (Kd.R_types HO489.out BK510.out (by decide))) (fun _ hk => ⟨hk.1.1.1.1, ⟨hk.1.1.2, hk.1.2⟩⟩)⟩, ⟨by (with_reducible repeat (first | apply Kd.S_alloc | apply Kd.S_drewN | apply Kd.S_drew)); exact Kd.S_mono (farsS (Kd.S_types HO499.out BK510.out (by decide))) (fun _ hk => ⟨hk.1.1.1.2, ⟨hk.1.1.2, ⟨hk.1.2, ⟨hk.1.1.1.1.1.1.1, ⟨hk.1.1.1.1.1.1.2, hk.1.1.1.1.1.2⟩⟩⟩⟩⟩)⟩, ⟨by (with_reducible repeat (first | apply Kd.R_alloc | apply Kd.R_drewN | apply Kd.R_drew)); exact Kd.R_mono (farsR (Kd.R_types HO502.out BK510.out (by decide))) (fun _ hk => ⟨hk.1.1.2, ⟨hk.1.2, hk.1.1.1.1⟩⟩)⟩, ⟨by (with_reducible repeat (first | apply Kd.R_alloc | apply Kd.R_drewN | apply Kd.R_drew)); exact Kd.R_mono (farsR (Kd.R_types HO505.out BK510.out (by decide))) (fun _ hk => ⟨hk.1.1.2, ⟨hk.1.2, hk.1.1.1.1⟩⟩)⟩, ⟨by (with_reducible repeat (first | refine blk_drewN ?_ _ | refine blk_drew ?_ | refine blk_alloc ?_ _)); refine blk_far ?_ NB494_510.out _; (with_reducible repeat (first | refine blk_drewN ?_ _ | refine blk_drew ?_ | refine blk_alloc ?_ _)); refine blk_far ?_ NB494_510.out _; (with_reducible repeat (first | refine blk_drewN ?_ _ | refine blk_drew ?_ | refine blk_alloc ?_ _)); refine blk_far ?_ NB494_510.out _; (with_reducible repeat (first | refine blk_drewN ?_ _ | refine blk_drew ?_ | refine blk_alloc ?_ _)); refine blk_far ?_ NB494_510.out _; (with_reducible repeat (first | refine blk_drewN ?_ _ | refine blk_drew ?_ | refine blk_alloc ?_ _)); refine blk_far ?_ NB494_510.out _; (with_reducible repeat (first | refine blk_drewN ?_ _ | refine blk_drew ?_ | refine blk_alloc ?_ _)); exact BK494.out⟩, ⟨by (with_reducible repeat (first | refine blk_drewN ?_ _ | refine blk_drew ?_ | refine blk_alloc ?_ _)); refine blk_put (cs := #[.int .i64 t495, .int .i64 t496, .slice Ao21 t497.length co21, .slice Ao22 t500.length co22, .slice none 0 0]) ?_ 4 _ rfl; (with_reducible repeat (first | refine blk_drewN ?_ _ | refine blk_drew ?_ | refine blk_alloc ?_ _)); refine blk_put (cs := #[.int .i64 t495, .int .i64 t496, .slice Ao21 t497.length co21, .slice none 0 0, .slice none 0 0]) ?_ 3 _ rfl; (with_reducible repeat (first | refine blk_drewN ?_ _ | refine blk_drew ?_ | refine blk_alloc ?_ _)); refine blk_put (cs := #[.int .i64 t495, .int .i64 t496, .slice none 0 0, .slice none 0 0, .slice none 0 0]) ?_ 2 _ rfl; (with_reducible repeat (first | refine blk_drewN ?_ _ | refine blk_drew ?_ | refine blk_alloc ?_ _)); refine blk_put (cs := #[.int .i64 t495, .int .i64 0, .slice none 0 0, .slice none 0 0, .slice none 0 0]) ?_ 1 _ rfl; (with_reducible repeat (first | refine blk_drewN ?_ _ | refine blk_drew ?_ | refine blk_alloc ?_ _)); refine blk_put (cs := #[.int .i64 0, .int .i64 0, .slice none 0 0, .slice none 0 0, .slice none 0 0]) ?_ 0 _ rfl; (with_reducible repeat (first | refine blk_drewN ?_ _ | refine blk_drew ?_ | refine blk_alloc ?_ _)); exact BK510.out⟩, ⟨belowg2 HB GE494 GE510⟩⟩
   ·rw [if_neg c24] at H
    have c24b0 : (t493 != t509) = false := by simpa using c24
    (try (have c24b1 : decide (t493 = t509) = true := by simpa using c24))
    (try (have c24b2 : (t493 == t509) = true := by simpa using c24))
    clear c24
    (first | rw [c24b0] | (simp only [i64_w, i32_w]; rw [c24b0]) | skip)
    replace H := bS H; obtain ⟨t511, A25, H⟩ := H
    replace H : (if t511 = true then ((laws_sameBoard.f k t479 t480 t481 t484 t487 t495 t496 t497 t500 t503).bind fun t512 => (laws_FnBoard.j0 k t493 (!t512) t479 t480 t481 t484 t487)) else (laws_FnBoard.j0 k t493 true t479 t480 t481 t484 t487)) = some r := H
    by_cases c26 : t511 = true
    ·subst c26
     have H1 : ((laws_sameBoard.f k t479 t480 t481 t484 t487 t495 t496 t497 t500 t503).bind fun t512 => (laws_FnBoard.j0 k t493 (!t512) t479 t480 t481 t484 t487)) = some r := by rw [if_pos rfl] at H; exact H
     clear H
     have H := H1
     clear H1; replace H := bS H; obtain ⟨t512, A27, H⟩ := H
     replace H : (laws_FnBoard.j0 k t493 (!t512) t479 t480 t481 t484 t487) = some r := H
     have H' := Aside0.mk H
     clear H
     obtain ⟨Ao28, co28, eo28⟩ := Kd.R_slice HO492.out
     subst eo28
     obtain ⟨Ao29, co29, eo29⟩ := Kd.R_slice HO508.out
     subst eo29
     go_wp2_with (first | (go_at_call 30; (with_reducible refine (laws_sameBools.calls k _ _ t490 _ _ t506 true _ ?side1 ?side2 ?side3 ?side4 A25.out).mono ?_); (case side1 => exact rdR HO492 BK510); (case side2 => exact (Kd.R_reads' HO492.out).2.1); (case side3 => exact rdR HO508 BK510); (case side4 => exact (Kd.R_reads' HO508.out).2.1); rintro e w' ⟨rfl, ⟨nd, rfl⟩⟩; have hnb30 := NB494_510.out; have hnc30 := NB510_494.out; obtain ⟨hcz31_0, hcz31_1, hcz31_2, hcz31_3, hcz31_4, hfz31_0, hfz31_1, hfz31_2, hfz31_3, hfz31_4⟩ := box5 BK494; obtain ⟨hcz32_0, hcz32_1, hcz32_2, hcz32_3, hcz32_4, hfz32_0, hfz32_1, hfz32_2, hfz32_3, hfz32_4⟩ := box5 BK510) | (go_at_call 31; (with_reducible refine (laws_sameBoard.calls k t479 t480 _ _ t481 _ _ t484 _ _ t487 t495 t496 _ _ t497 _ _ t500 _ _ t503 t512 _ ?side1 ?side2 ?side3 ?side4 ?side5 ?side6 ?side7 ?side8 ?side9 ?side10 ?side11 ?side12 A27.out).mono ?_); (case side1 => exact rdS HO483 BK510); (case side2 => exact (Kd.S_reads' HO483.out).2.1); (case side3 => exact rdR HO486 BK510); (case side4 => exact (Kd.R_reads' HO486.out).2.1); (case side5 => exact rdR HO489 BK510); (case side6 => exact (Kd.R_reads' HO489.out).2.1); (case side7 => exact rdS HO499 BK510); (case side8 => exact (Kd.S_reads' HO499.out).2.1); (case side9 => exact rdR HO502 BK510); (case side10 => exact (Kd.R_reads' HO502.out).2.1); (case side11 => exact rdR HO505 BK510); (case side12 => exact (Kd.R_reads' HO505.out).2.1); rintro e w33 ⟨rfl, hb⟩; replace HO476 := ak (Kd.R_below (by (with_reducible repeat (first | apply Kd.R_alloc | apply Kd.R_drewN | apply Kd.R_drew)); exact (Kd.R_mono (farsR (Kd.R_types HO476.out BK510.out (by decide))) (fun _ h_ => h_.1))) hb); replace HO478 := ak (Kd.R_below (by (with_reducible repeat (first | apply Kd.R_alloc | apply Kd.R_drewN | apply Kd.R_drew)); exact (Kd.R_mono (farsR (Kd.R_types HO478.out BK510.out (by decide))) (fun _ h_ => h_.1))) hb); replace HO483 := ak (Kd.S_below (by (with_reducible repeat (first | apply Kd.S_alloc | apply Kd.S_drewN | apply Kd.S_drew)); exact (Kd.S_mono (farsS (Kd.S_types HO483.out BK510.out (by decide))) (fun _ h_ => h_.1))) hb); replace HO486 := ak (Kd.R_below (by (with_reducible repeat (first | apply Kd.R_alloc | apply Kd.R_drewN | apply Kd.R_drew)); exact (Kd.R_mono (farsR (Kd.R_types HO486.out BK510.out (by decide))) (fun _ h_ => h_.1))) hb); replace HO489 := ak (Kd.R_below (by (with_reducible repeat (first | apply Kd.R_alloc | apply Kd.R_drewN | apply Kd.R_drew)); exact (Kd.R_mono (farsR (Kd.R_types HO489.out BK510.out (by decide))) (fun _ h_ => h_.1))) hb); replace HO492 := ak (Kd.R_below (by (with_reducible repeat (first | apply Kd.R_alloc | apply Kd.R_drewN | apply Kd.R_drew)); exact (Kd.R_mono (farsR (Kd.R_types HO492.out BK510.out (by decide))) (fun _ h_ => h_.1))) hb); replace HO499 := ak (Kd.S_below (by (with_reducible repeat (first | apply Kd.S_alloc | apply Kd.S_drewN | apply Kd.S_drew)); exact (Kd.S_mono (farsS (Kd.S_types HO499.out BK510.out (by decide))) (fun _ h_ => h_.1))) hb); replace HO502 := ak (Kd.R_below (by (with_reducible repeat (first | apply Kd.R_alloc | apply Kd.R_drewN | apply Kd.R_drew)); exact (Kd.R_mono (farsR (Kd.R_types HO502.out BK510.out (by decide))) (fun _ h_ => h_.1))) hb); replace HO505 := ak (Kd.R_below (by (with_reducible repeat (first | apply Kd.R_alloc | apply Kd.R_drewN | apply Kd.R_drew)); exact (Kd.R_mono (farsR (Kd.R_types HO505.out BK510.out (by decide))) (fun _ h_ => h_.1))) hb); replace HO508 := ak (Kd.R_below (by (with_reducible repeat (first | apply Kd.R_alloc | apply Kd.R_drewN | apply Kd.R_drew)); exact (Kd.R_mono (farsR (Kd.R_types HO508.out BK510.out (by decide))) (fun _ h_ => h_.1))) hb); replace BK494 := ak (blk_below (g := gb494) (o := .cells #[.int .i64 t479, .int .i64 t480, .slice Ao13 t481.length co13, .slice Ao14 t484.length co14, .slice Ao15 t487.length co15] 47 (0, 0)) (by (with_reducible repeat (first | refine blk_drewN ?_ _ | refine blk_drew ?_ | refine blk_alloc ?_ _)); refine blk_far ?_ NB494_510.out _; (with_reducible repeat (first | refine blk_drewN ?_ _ | refine blk_drew ?_ | refine blk_alloc ?_ _)); refine blk_far ?_ NB494_510.out _; (with_reducible repeat (first | refine blk_drewN ?_ _ | refine blk_drew ?_ | refine blk_alloc ?_ _)); refine blk_far ?_ NB494_510.out _; (with_reducible repeat (first | refine blk_drewN ?_ _ | refine blk_drew ?_ | refine blk_alloc ?_ _)); refine blk_far ?_ NB494_510.out _; (with_reducible repeat (first | refine blk_drewN ?_ _ | refine blk_drew ?_ | refine blk_alloc ?_ _)); refine blk_far ?_ NB494_510.out _; (with_reducible repeat (first | refine blk_drewN ?_ _ | refine blk_drew ?_ | refine blk_alloc ?_ _)); exact BK494.out) hb); replace BK510 := ak (blk_below (g := gb510) (o := .cells #[.int .i64 t495, .int .i64 t496, .slice Ao21 t497.length co21, .slice Ao22 t500.length co22, .slice Ao23 t503.length co23] 47 (0, 0)) (by (with_reducible repeat (first | refine blk_drewN ?_ _ | refine blk_drew ?_ | refine blk_alloc ?_ _)); refine blk_put (cs := #[.int .i64 t495, .int .i64 t496, .slice Ao21 t497.length co21, .slice Ao22 t500.length co22, .slice none 0 0]) ?_ 4 _ rfl; (with_reducible repeat (first | refine blk_drewN ?_ _ | refine blk_drew ?_ | refine blk_alloc ?_ _)); refine blk_put (cs := #[.int .i64 t495, .int .i64 t496, .slice Ao21 t497.length co21, .slice none 0 0, .slice none 0 0]) ?_ 3 _ rfl; (with_reducible repeat (first | refine blk_drewN ?_ _ | refine blk_drew ?_ | refine blk_alloc ?_ _)); refine blk_put (cs := #[.int .i64 t495, .int .i64 t496, .slice none 0 0, .slice none 0 0, .slice none 0 0]) ?_ 2 _ rfl; (with_reducible repeat (first | refine blk_drewN ?_ _ | refine blk_drew ?_ | refine blk_alloc ?_ _)); refine blk_put (cs := #[.int .i64 t495, .int .i64 0, .slice none 0 0, .slice none 0 0, .slice none 0 0]) ?_ 1 _ rfl; (with_reducible repeat (first | refine blk_drewN ?_ _ | refine blk_drew ?_ | refine blk_alloc ?_ _)); refine blk_put (cs := #[.int .i64 0, .int .i64 0, .slice none 0 0, .slice none 0 0, .slice none 0 0]) ?_ 0 _ rfl; (with_reducible repeat (first | refine blk_drewN ?_ _ | refine blk_drew ?_ | refine blk_alloc ?_ _)); exact BK510.out) hb); replace HB := ak (below_step (belowg2 HB GE494 GE510) hb); (try clear hb)))
     go_meet
     case rel => exact ⟨_, (!t512), er, H', ⟨by first | omega | exact Nat.le_refl _⟩, ⟨by (with_reducible repeat (first | apply Kd.S_alloc | apply Kd.S_drewN | apply Kd.S_drew)); exact Kd.S_mono HO483.out (fun _ hk => ⟨hk.1.1.1.1.1.1, ⟨hk.1.1.1.1.1.2, ⟨hk.1.1.2, ⟨hk.1.2, ⟨hk.2, hk.1.1.1.2⟩⟩⟩⟩⟩)⟩, ⟨by (with_reducible repeat (first | apply Kd.R_alloc | apply Kd.R_drewN | apply Kd.R_drew)); exact Kd.R_mono HO486.out (fun _ hk => ⟨hk.1.1.1, ⟨hk.1.2, hk.2⟩⟩)⟩, ⟨by (with_reducible repeat (first | apply Kd.R_alloc | apply Kd.R_drewN | apply Kd.R_drew)); exact Kd.R_mono HO489.out (fun _ hk => ⟨hk.1.1.1, ⟨hk.1.2, hk.2⟩⟩)⟩, ⟨by (with_reducible repeat (first | apply Kd.S_alloc | apply Kd.S_drewN | apply Kd.S_drew)); exact Kd.S_mono HO499.out (fun _ hk => ⟨hk.1.1.2, ⟨hk.1.2, ⟨hk.2, ⟨hk.1.1.1.1.1.1, ⟨hk.1.1.1.1.1.2, hk.1.1.1.1.2⟩⟩⟩⟩⟩)⟩, ⟨by (with_reducible repeat (first | apply Kd.R_alloc | apply Kd.R_drewN | apply Kd.R_drew)); exact Kd.R_mono HO502.out (fun _ hk => ⟨hk.1.2, ⟨hk.2, hk.1.1.1⟩⟩)⟩, ⟨by (with_reducible repeat (first | apply Kd.R_alloc | apply Kd.R_drewN | apply Kd.R_drew)); exact Kd.R_mono HO505.out (fun _ hk => ⟨hk.1.2, ⟨hk.2, hk.1.1.1⟩⟩)⟩, ⟨blkd BK494⟩, ⟨blkd BK510⟩, ⟨belowg2 HB GE494 GE510⟩⟩
    ·replace c26 := Bool.eq_false_iff.mpr c26
     subst c26
     have H1 : (laws_FnBoard.j0 k t493 true t479 t480 t481 t484 t487) = some r := by rw [if_neg (show ¬ (false = true) by decide)] at H; exact H
     clear H
     have H := H1
     clear H1
     have H' := Aside0.mk H
     clear H
     obtain ⟨Ao34, co34, eo34⟩ := Kd.R_slice HO492.out
     subst eo34
     obtain ⟨Ao35, co35, eo35⟩ := Kd.R_slice HO508.out
     subst eo35
     go_wp2_with (first | (go_at_call 30; (with_reducible refine (laws_sameBools.calls k _ _ t490 _ _ t506 false _ ?side1 ?side2 ?side3 ?side4 A25.out).mono ?_); (case side1 => exact rdR HO492 BK510); (case side2 => exact (Kd.R_reads' HO492.out).2.1); (case side3 => exact rdR HO508 BK510); (case side4 => exact (Kd.R_reads' HO508.out).2.1); rintro e w' ⟨rfl, ⟨nd, rfl⟩⟩))
     go_meet
     case rel => exact ⟨_, (true), er, H', ⟨by first | omega | exact Nat.le_refl _⟩, ⟨by (with_reducible repeat (first | apply Kd.S_alloc | apply Kd.S_drewN | apply Kd.S_drew)); exact Kd.S_mono (farsS (Kd.S_types HO483.out BK510.out (by decide))) (fun _ hk => ⟨hk.1.1.1.1.1.1.1, ⟨hk.1.1.1.1.1.1.2, ⟨hk.1.1.1.2, ⟨hk.1.1.2, ⟨hk.1.2, hk.1.1.1.1.2⟩⟩⟩⟩⟩)⟩, ⟨by (with_reducible repeat (first | apply Kd.R_alloc | apply Kd.R_drewN | apply Kd.R_drew)); exact Kd.R_mono (farsR (Kd.R_types HO486.out BK510.out (by decide))) (fun _ hk => ⟨hk.1.1.1.1, ⟨hk.1.1.2, hk.1.2⟩⟩)⟩, ⟨by (with_reducible repeat (first | apply Kd.R_alloc | apply Kd.R_drewN | apply Kd.R_drew)); exact Kd.R_mono (farsR (Kd.R_types HO489.out BK510.out (by decide))) (fun _ hk => ⟨hk.1.1.1.1, ⟨hk.1.1.2, hk.1.2⟩⟩)⟩, ⟨by (with_reducible repeat (first | apply Kd.S_alloc | apply Kd.S_drewN | apply Kd.S_drew)); exact Kd.S_mono (farsS (Kd.S_types HO499.out BK510.out (by decide))) (fun _ hk => ⟨hk.1.1.1.2, ⟨hk.1.1.2, ⟨hk.1.2, ⟨hk.1.1.1.1.1.1.1, ⟨hk.1.1.1.1.1.1.2, hk.1.1.1.1.1.2⟩⟩⟩⟩⟩)⟩, ⟨by (with_reducible repeat (first | apply Kd.R_alloc | apply Kd.R_drewN | apply Kd.R_drew)); exact Kd.R_mono (farsR (Kd.R_types HO502.out BK510.out (by decide))) (fun _ hk => ⟨hk.1.1.2, ⟨hk.1.2, hk.1.1.1.1⟩⟩)⟩, ⟨by (with_reducible repeat (first | apply Kd.R_alloc | apply Kd.R_drewN | apply Kd.R_drew)); exact Kd.R_mono (farsR (Kd.R_types HO505.out BK510.out (by decide))) (fun _ hk => ⟨hk.1.1.2, ⟨hk.1.2, hk.1.1.1.1⟩⟩)⟩, ⟨by (with_reducible repeat (first | refine blk_drewN ?_ _ | refine blk_drew ?_ | refine blk_alloc ?_ _)); refine blk_far ?_ NB494_510.out _; (with_reducible repeat (first | refine blk_drewN ?_ _ | refine blk_drew ?_ | refine blk_alloc ?_ _)); refine blk_far ?_ NB494_510.out _; (with_reducible repeat (first | refine blk_drewN ?_ _ | refine blk_drew ?_ | refine blk_alloc ?_ _)); refine blk_far ?_ NB494_510.out _; (with_reducible repeat (first | refine blk_drewN ?_ _ | refine blk_drew ?_ | refine blk_alloc ?_ _)); refine blk_far ?_ NB494_510.out _; (with_reducible repeat (first | refine blk_drewN ?_ _ | refine blk_drew ?_ | refine blk_alloc ?_ _)); refine blk_far ?_ NB494_510.out _; (with_reducible repeat (first | refine blk_drewN ?_ _ | refine blk_drew ?_ | refine blk_alloc ?_ _)); exact BK494.out⟩, ⟨by (with_reducible repeat (first | refine blk_drewN ?_ _ | refine blk_drew ?_ | refine blk_alloc ?_ _)); refine blk_put (cs := #[.int .i64 t495, .int .i64 t496, .slice Ao21 t497.length co21, .slice Ao22 t500.length co22, .slice none 0 0]) ?_ 4 _ rfl; (with_reducible repeat (first | refine blk_drewN ?_ _ | refine blk_drew ?_ | refine blk_alloc ?_ _)); refine blk_put (cs := #[.int .i64 t495, .int .i64 t496, .slice Ao21 t497.length co21, .slice none 0 0, .slice none 0 0]) ?_ 3 _ rfl; (with_reducible repeat (first | refine blk_drewN ?_ _ | refine blk_drew ?_ | refine blk_alloc ?_ _)); refine blk_put (cs := #[.int .i64 t495, .int .i64 t496, .slice none 0 0, .slice none 0 0, .slice none 0 0]) ?_ 2 _ rfl; (with_reducible repeat (first | refine blk_drewN ?_ _ | refine blk_drew ?_ | refine blk_alloc ?_ _)); refine blk_put (cs := #[.int .i64 t495, .int .i64 0, .slice none 0 0, .slice none 0 0, .slice none 0 0]) ?_ 1 _ rfl; (with_reducible repeat (first | refine blk_drewN ?_ _ | refine blk_drew ?_ | refine blk_alloc ?_ _)); refine blk_put (cs := #[.int .i64 0, .int .i64 0, .slice none 0 0, .slice none 0 0, .slice none 0 0]) ?_ 0 _ rfl; (with_reducible repeat (first | refine blk_drewN ?_ _ | refine blk_drew ?_ | refine blk_alloc ?_ _)); exact BK510.out⟩, ⟨belowg2 HB GE494 GE510⟩⟩
  case rest =>
   clear HC6; (try clear c2b0); (try clear c2b1); (try clear hcz12_0); (try clear hcz12_1); (try clear hcz12_2); (try clear hcz12_3); (try clear hcz12_4); (try clear hcz20_0); (try clear hcz20_1); (try clear hcz20_2); (try clear hcz20_3); (try clear hcz20_4); (try clear hfz12_0); (try clear hfz12_1); (try clear hfz12_2); (try clear hfz12_3); (try clear hfz12_4); (try clear hfz20_0); (try clear hfz20_1); (try clear hfz20_2); (try clear hfz20_3); (try clear hfz20_4)
   obtain ⟨kq, x54_5, rfl, HA, HJ5, HO_495002, HO_495003, HO_495004, HO_511002, HO_511003, HO_511004, BK494, BK510, HB⟩ := hcut
   cases kq with
   | zero => exact absurd HA.out (by simp [laws_FnBoard.j0])
   | succ kj5 =>
    have H := HA.out; clear HA
    simp only [laws_FnBoard.j0] at H
    by_cases c36 : x54_5 = true
    ·subst c36
     have H1 : (some false) = some r := by rw [if_pos rfl] at H; exact H
     clear H
     have H := H1
     clear H1
     exact absurd (H.trans (congrArg some hr_)) (by simp)
    ·replace c36 := Bool.eq_false_iff.mpr c36
     subst c36
     have H1 : (if t493 = true then ((impl_GoodBoard.f kj5 t479 t480 t481 t484 t487).bind fun t513 => (if t513 = true then (laws_FnBoard.l0 kj5 0 t479 t480 t481 t484 t487) else (some false))) else (some true)) = some r := by rw [if_neg (show ¬ (false = true) by decide)] at H; exact H
     clear H
     have H := H1
     clear H1
     by_cases c37 : t493 = true
     ·subst c37
      have H1 : ((impl_GoodBoard.f kj5 t479 t480 t481 t484 t487).bind fun t513 => (if t513 = true then (laws_FnBoard.l0 kj5 0 t479 t480 t481 t484 t487) else (some false))) = some r := by rw [if_pos rfl] at H; exact H
      clear H
      have H := H1
      clear H1; replace H := bS H; obtain ⟨t513, A38, H⟩ := H
      replace H : (if t513 = true then (laws_FnBoard.l0 kj5 0 t479 t480 t481 t484 t487) else (some false)) = some r := H
      by_cases c39 : t513 = true
      ·subst c39
       have H1 : (laws_FnBoard.l0 kj5 0 t479 t480 t481 t484 t487) = some r := by rw [if_pos rfl] at H; exact H
       clear H
       have H := H1
       clear H1
       have H' := Aside0.mk H
       clear H; have hnb40 := NB494_510.out; have hnc40 := NB510_494.out; obtain ⟨hcz41_0, hcz41_1, hcz41_2, hcz41_3, hcz41_4, hfz41_0, hfz41_1, hfz41_2, hfz41_3, hfz41_4⟩ := box5 BK494
       go_wp2_with (first | ((with_reducible refine gate_callee (f := 32) rfl ?_); refine goesLa (some 57) rfl Try.func32 #[.agg #[.int .i64 t479, .int .i64 t480, .slice Ao13 t481.length co13, .slice Ao14 t484.length co14, .slice Ao15 t487.length co15]] rfl ?_; (with_reducible refine (impl_GoodBoard.calls kj5 t479 t480 _ _ t481 _ _ t484 _ _ t487 true _ ?side1 ?side2 ?side3 ?side4 ?side5 ?side6 A38.out).mono ?_); (case side1 => exact cd (Kd.S_reads' HO_495002.out).2.2); (case side2 => exact (Kd.S_reads' HO_495002.out).2.1); (case side3 => exact cd (Kd.R_reads' HO_495003.out).2.2); (case side4 => exact (Kd.R_reads' HO_495003.out).2.1); (case side5 => exact cd (Kd.R_reads' HO_495004.out).2.2); (case side6 => exact (Kd.R_reads' HO_495004.out).2.1); rintro e w42 ⟨rfl, hb⟩; refine ⟨_, rfl, ?_⟩; replace HO_495002 := ak (Kd.S_below (sd HO_495002) hb); replace HO_495003 := ak (Kd.R_below (rdl HO_495003) hb); replace HO_495004 := ak (Kd.R_below (rdl HO_495004) hb); replace HO_511002 := ak (Kd.S_below (sd HO_511002) hb); replace HO_511003 := ak (Kd.R_below (rdl HO_511003) hb); replace HO_511004 := ak (Kd.R_below (rdl HO_511004) hb); replace BK494 := ak (blk_below (blkd BK494) hb); replace BK510 := ak (blk_below (blkd BK510) hb); replace HB := ak (below_step (belowg2 HB GE494 GE510) hb); (try clear hb)))
       go_loopg [12] kj5 (fun kq v12 w' => ∃ (x12_2 : Int), v12 = .int .i64 x12_2 ∧ Aside0 (laws_FnBoard.l0 kq x12_2 t479 t480 t481 t484 t487 = some r) ∧ Aside0 (kq ≤ kj5) ∧ Aside0 (Kd.S (Kd.slice 3 (Kd.int .i64)) 23 w' w.heap.size (fun k_ => some k_ ≠ ((.slice Ao14 t484.length co14) : Value).ownBlock ∧ some k_ ≠ ((.slice Ao15 t487.length co15) : Value).ownBlock ∧ some k_ ≠ ((.slice Ao21 t497.length co21) : Value).ownBlock ∧ some k_ ≠ ((.slice Ao22 t500.length co22) : Value).ownBlock ∧ some k_ ≠ ((.slice Ao23 t503.length co23) : Value).ownBlock ∧ k_ < N17) (.slice Ao13 t481.length co13) t481) ∧ Aside0 (Kd.R (Kd.int .i64) 3 w' w.heap.size (fun k_ => some k_ ≠ ((.slice Ao15 t487.length co15) : Value).ownBlock ∧ some k_ ≠ ((.slice Ao22 t500.length co22) : Value).ownBlock ∧ some k_ ≠ ((.slice Ao23 t503.length co23) : Value).ownBlock) (.slice Ao14 t484.length co14) t484) ∧ Aside0 (Kd.R (Kd.int .i64) 3 w' w.heap.size (fun k_ => some k_ ≠ ((.slice Ao14 t484.length co14) : Value).ownBlock ∧ some k_ ≠ ((.slice Ao22 t500.length co22) : Value).ownBlock ∧ some k_ ≠ ((.slice Ao23 t503.length co23) : Value).ownBlock) (.slice Ao15 t487.length co15) t487) ∧ Aside0 (Kd.S (Kd.slice 3 (Kd.int .i64)) 23 w' w.heap.size (fun k_ => some k_ ≠ ((.slice Ao13 t481.length co13) : Value).ownBlock ∧ some k_ ≠ ((.slice Ao14 t484.length co14) : Value).ownBlock ∧ some k_ ≠ ((.slice Ao15 t487.length co15) : Value).ownBlock ∧ some k_ ≠ ((.slice Ao22 t500.length co22) : Value).ownBlock ∧ some k_ ≠ ((.slice Ao23 t503.length co23) : Value).ownBlock ∧ N17 ≤ k_) (.slice Ao21 t497.length co21) t497) ∧ Aside0 (Kd.R (Kd.int .i64) 3 w' w.heap.size (fun k_ => some k_ ≠ ((.slice Ao14 t484.length co14) : Value).ownBlock ∧ some k_ ≠ ((.slice Ao15 t487.length co15) : Value).ownBlock ∧ some k_ ≠ ((.slice Ao23 t503.length co23) : Value).ownBlock) (.slice Ao22 t500.length co22) t500) ∧ Aside0 (Kd.R (Kd.int .i64) 3 w' w.heap.size (fun k_ => some k_ ≠ ((.slice Ao14 t484.length co14) : Value).ownBlock ∧ some k_ ≠ ((.slice Ao15 t487.length co15) : Value).ownBlock ∧ some k_ ≠ ((.slice Ao22 t500.length co22) : Value).ownBlock) (.slice Ao23 t503.length co23) t503) ∧ Aside0 (w'.heap[gb494]? = some (.cells #[.int .i64 t479, .int .i64 t480, (.slice Ao13 t481.length co13), (.slice Ao14 t484.length co14), (.slice Ao15 t487.length co15)] 47 (0, 0))) ∧ Aside0 (w'.heap[gb510]? = some (.cells #[.int .i64 t495, .int .i64 t496, (.slice Ao21 t497.length co21), (.slice Ao22 t500.length co22), (.slice Ao23 t503.length co23)] 47 (0, 0))) ∧ Aside0 (Below w.heap.size w w'))
       case atStart => exact ⟨(0), er, H', ⟨Nat.le_refl _⟩, ⟨sd HO_495002⟩, ⟨rdl HO_495003⟩, ⟨rdl HO_495004⟩, ⟨sd HO_511002⟩, ⟨rdl HO_511003⟩, ⟨rdl HO_511004⟩, ⟨blkd BK494⟩, ⟨blkd BK510⟩, ⟨belowg2 HB GE494 GE510⟩⟩
       case round =>
        clear H'
        (try clear c36); (try clear c37); (try clear c39); (try clear hcz41_0); (try clear hcz41_1); (try clear hcz41_2); (try clear hcz41_3); (try clear hcz41_4); (try clear hfz41_0); (try clear hfz41_1); (try clear hfz41_2); (try clear hfz41_3); (try clear hfz41_4)
        obtain ⟨x12_2, rfl, HA, HK2, HO_495002, HO_495003, HO_495004, HO_511002, HO_511003, HO_511004, BK494, BK510, HB⟩ := hrel
        cases gk with
        | zero => exact absurd HA.out (by simp [laws_FnBoard.l0])
        | succ k2 =>
         have H := HA.out; clear HA
         simp only [laws_FnBoard.l0] at H
         by_cases c43 : x12_2 ≤ t480
         ·rw [if_pos c43] at H
          have c43b0 : decide (x12_2 ≤ t480) = true := decide_eq_true c43
          clear c43; replace H := bS H; obtain ⟨⟨t514, t517⟩, A44, H⟩ := H
          replace H : (if t517 = true then (if (t514.length : Int) > 1 then (some false) else (laws_FnBoard.l0 k2 (wrap64 (x12_2 + 1)) t479 t480 t481 t484 t487)) else (some false)) = some r := H
          by_cases c45 : t517 = true
          ·subst c45
           have H1 : (if (t514.length : Int) > 1 then (some false) else (laws_FnBoard.l0 k2 (wrap64 (x12_2 + 1)) t479 t480 t481 t484 t487)) = some r := by rw [if_pos rfl] at H; exact H
           clear H
           have H := H1
           clear H1
           by_cases c46 : (t514.length : Int) > 1
           ·rw [if_pos c46] at H
            have c46b0 : decide (1 < (t514.length : Int)) = true := decide_eq_true c46
            have c46b1 : decide (1 < t514.length) = true := decide_eq_true (by omega)
            clear c46
            exact absurd (H.trans (congrArg some hr_)) (by simp)
           ·rw [if_neg c46] at H
            have c46b0 : decide (1 < (t514.length : Int)) = false := decide_eq_false c46
            have c46b1 : decide (1 < t514.length) = false := decide_eq_false (by omega)
            clear c46
            have H' := Aside0.mk H
            clear H; have hnb47 := NB494_510.out; have hnc47 := NB510_494.out; obtain ⟨hcz48_0, hcz48_1, hcz48_2, hcz48_3, hcz48_4, hfz48_0, hfz48_1, hfz48_2, hfz48_3, hfz48_4⟩ := box5 BK494
            go_wp2_with (first | ((with_reducible refine gate_callee (f := 33) rfl ?_); refine goesLa (some 68) rfl Try.func33 #[.agg #[.int .i64 t479, .int .i64 t480, .slice Ao13 t481.length co13, .slice Ao14 t484.length co14, .slice Ao15 t487.length co15], .int .i64 x12_2] rfl ?_; (with_reducible refine (impl_CertifiedIn.calls k2 t479 t480 _ _ t481 _ _ t484 _ _ t487 x12_2 t514 true _ ?side1 ?side2 ?side3 ?side4 ?side5 ?side6 A44.out).mono ?_); (case side1 => exact cd (Kd.S_reads' HO_495002.out).2.2); (case side2 => exact (Kd.S_reads' HO_495002.out).2.1); (case side3 => exact cd (Kd.R_reads' HO_495003.out).2.2); (case side4 => exact (Kd.R_reads' HO_495003.out).2.1); (case side5 => exact cd (Kd.R_reads' HO_495004.out).2.2); (case side6 => exact (Kd.R_reads' HO_495004.out).2.1); rintro e w49 ⟨v515, rfl, ho0, hb⟩; refine ⟨_, rfl, ?_⟩; replace HO_495002 := ak (Kd.S_elder' (sd HO_495002) (Kd.R_base ho0) hb); replace HO_511002 := ak (Kd.S_elder' (sd HO_511002) (Kd.R_base ho0) hb); have HO516 := ak (Kd.R_lower (Kd.R_new' (Kd.R_new' (Kd.R_new' (Kd.R_new' ho0 (Kd.R_lt (rdl HO_495003))) (Kd.R_lt (rdl HO_495004))) (Kd.R_lt (rdl HO_511003))) (Kd.R_lt (rdl HO_511004))) (below_size (belowg2 HB GE494 GE510))); replace HO_495003 := ak (Kd.R_elder' (rdl HO_495003) (Kd.R_base ho0) hb); replace HO_495004 := ak (Kd.R_elder' (rdl HO_495004) (Kd.R_base ho0) hb); replace HO_511003 := ak (Kd.R_elder' (rdl HO_511003) (Kd.R_base ho0) hb); replace HO_511004 := ak (Kd.R_elder' (rdl HO_511004) (Kd.R_base ho0) hb); replace BK494 := ak (blk_below (blkd BK494) hb); replace BK510 := ak (blk_below (blkd BK510) hb); replace HB := ak (below_step (belowg2 HB GE494 GE510) hb); (try clear hb); (try clear ho0); obtain ⟨Ao50, co50, eo50⟩ := Kd.R_slice HO516.out; subst eo50))
            go_roundg k2
            case measure => have := HJ5.out; have := HK2.out; omega
            case rel => exact ⟨(wrap64 (x12_2 + 1)), er, H', ⟨by have := HJ5.out; have := HK2.out; omega⟩, ⟨by (with_reducible repeat (first | apply Kd.S_alloc | apply Kd.S_drewN | apply Kd.S_drew)); exact Kd.S_mono HO_495002.out (fun _ hk => ⟨hk.1.1, ⟨hk.1.2.1, ⟨hk.1.2.2.1, ⟨hk.1.2.2.2.1, ⟨hk.1.2.2.2.2.1, hk.1.2.2.2.2.2⟩⟩⟩⟩⟩)⟩, ⟨by (with_reducible repeat (first | apply Kd.R_alloc | apply Kd.R_drewN | apply Kd.R_drew)); exact Kd.R_mono HO_495003.out (fun _ hk => ⟨hk.1.1, ⟨hk.1.2.1, hk.1.2.2⟩⟩)⟩, ⟨by (with_reducible repeat (first | apply Kd.R_alloc | apply Kd.R_drewN | apply Kd.R_drew)); exact Kd.R_mono HO_495004.out (fun _ hk => ⟨hk.1.1, ⟨hk.1.2.1, hk.1.2.2⟩⟩)⟩, ⟨by (with_reducible repeat (first | apply Kd.S_alloc | apply Kd.S_drewN | apply Kd.S_drew)); exact Kd.S_mono HO_511002.out (fun _ hk => ⟨hk.1.1, ⟨hk.1.2.1, ⟨hk.1.2.2.1, ⟨hk.1.2.2.2.1, ⟨hk.1.2.2.2.2.1, hk.1.2.2.2.2.2⟩⟩⟩⟩⟩)⟩, ⟨by (with_reducible repeat (first | apply Kd.R_alloc | apply Kd.R_drewN | apply Kd.R_drew)); exact Kd.R_mono HO_511003.out (fun _ hk => ⟨hk.1.1, ⟨hk.1.2.1, hk.1.2.2⟩⟩)⟩, ⟨by (with_reducible repeat (first | apply Kd.R_alloc | apply Kd.R_drewN | apply Kd.R_drew)); exact Kd.R_mono HO_511004.out (fun _ hk => ⟨hk.1.1, ⟨hk.1.2.1, hk.1.2.2⟩⟩)⟩, ⟨blkd BK494⟩, ⟨blkd BK510⟩, ⟨belowg2 HB GE494 GE510⟩⟩
          ·replace c45 := Bool.eq_false_iff.mpr c45
           subst c45
           have H1 : (some false) = some r := by rw [if_neg (show ¬ (false = true) by decide)] at H; exact H
           clear H
           have H := H1
           clear H1
           exact absurd (H.trans (congrArg some hr_)) (by simp)
         ·rw [if_neg c43] at H
          have c43b0 : decide (x12_2 ≤ t480) = false := decide_eq_false c43
          clear c43
          obtain rfl := Option.some.inj H
          have hnb51 := NB494_510.out; have hnc51 := NB510_494.out; obtain ⟨hcz52_0, hcz52_1, hcz52_2, hcz52_3, hcz52_4, hfz52_0, hfz52_1, hfz52_2, hfz52_3, hfz52_4⟩ := box5 BK494; go_wp2
          go_ret
          exact ⟨er2, belowg2 HB GE494 GE510⟩
      ·replace c39 := Bool.eq_false_iff.mpr c39
       subst c39
       have H1 : (some false) = some r := by rw [if_neg (show ¬ (false = true) by decide)] at H; exact H
       clear H
       have H := H1
       clear H1
       exact absurd (H.trans (congrArg some hr_)) (by simp)
     ·replace c37 := Bool.eq_false_iff.mpr c37
      subst c37
      have H1 : (some true) = some r := by rw [if_neg (show ¬ (false = true) by decide)] at H; exact H
      clear H
      have H := H1
      clear H1
      obtain rfl := Option.some.inj H
      go_wp2
      go_ret
      exact ⟨er2, belowg2 HB GE494 GE510⟩

/-- THE ONE PURE STATEMENT of laws_FnBoard: yours. -/
def laws_FnBoard.Pure : Prop := ∀ (l0 : List Int), l0.length ≤ maxLen → l0.length * 1 ≤ 140737488351232 → (∀ x ∈ l0, (Lit.int .u8 x).wf = true) → ∃ k, laws_FnBoard.f k l0 = some true
theorem laws_FnBoard.walk (P : laws_FnBoard.Pure) (a0 : Option Addr) (len0 cap0 : Nat) (z0 : List Int) (w : World) (w0 : (a0 = none ∧ len0 = 0 ∧ cap0 = 0 ∧ z0 = []) ∨ ∃ x, a0 = some x ∧ len0 ≤ cap0 ∧ cap0 ≤ maxLen ∧ z0.length = cap0 ∧ (∀ i, i < z0.length → w.cell? (x.add i) = some (.int .u8 (z0.getD i 0))) ∧ ∀ n ∈ z0, (Lit.int .u8 n).wf = true) (y0 : len0 * 1 ≤ 140737488351232) :
  Calls Try.prog 5 #[.slice a0 len0 cap0] w fun e w' => e = .returned (.bool true) ∧ Below w.heap.size w w' := by
 obtain ⟨l0, rfl, hr0, hm0, hw0, hc0⟩ := ReadsInt.ofRowC w0
 obtain ⟨k, h⟩ := P l0 hm0 y0 hw0
 refine (laws_FnBoard.calls k _ _ l0 true w (Kd.C_of_reads (d := (0 : Int)) (h1 := fun _ => rfl) hr0) hc0 h rfl).mono ?_
 rintro e w' ⟨rfl, hd⟩
 exact ⟨rfl, hd⟩

end Go.Proofs.Ytkgogglnipdcfaa.QFnBoard
