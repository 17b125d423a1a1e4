-- printed by this session's own program (wip/tools/pp.py: the kit's print.py with changes); Lean checks it
import Derived.Test.YtkgogglnipdcfaaQFnExactPlayMixx0
import Derived.Test.YtkgogglnipdcfaaQFnExactPlayMixx3
import Derived.Test.YtkgogglnipdcfaaQFnExactPlayMixx4
namespace Go.Proofs.Ytkgogglnipdcfaa.QFnExactPlayMix
open Go.RowKit Go.Proofs.YtkgogglnipdcfaaW.PrintWords Go.Proofs.YtkgogglnipdcfaaW.PrintLast Go.Proofs.YtkgogglnipdcfaaW.PrintMore
attribute [local go_sem] max2_int min2_int max_two min_two max_three min_three max_four min_four strLss strGtr strLeq strGeq   -- for this text's walks alone
set_option linter.unusedVariables false
set_option linter.unusedSimpArgs false

/-! ### cmp_Less_int: function 220 -/
def cmp_Less_int.f (a0 : Int) (a1 : Int) : Option (Bool) := (cmp_isNaN_int.f a0).bind fun t330 => (if t330 = true then ((cmp_isNaN_int.f a1).bind fun t331 => (if t331 = true then (some (decide (a0 < a1))) else (some true))) else (some (decide (a0 < a1))))
set_option maxHeartbeats 8000000 in
set_option maxRecDepth 100000 in
theorem cmp_Less_int.calls (a0 : Int) (a1 : Int) (r : Bool) (w : World) (h : cmp_Less_int.f a0 a1 = some r) :
  Calls Try.prog 220 #[.int .i64 a0, .int .i64 a1] w fun e w' => e = .returned (.bool r) ∧ Drawn0 w w' := by
 have H : ((cmp_isNaN_int.f a0).bind fun t330 => (if t330 = true then ((cmp_isNaN_int.f a1).bind fun t331 => (if t331 = true then (some (decide (a0 < a1))) else (some true))) else (some (decide (a0 < a1))))) = some r := h
 clear h; replace H := bS H; obtain ⟨t330, A3, H⟩ := H
 replace H : (if t330 = true then ((cmp_isNaN_int.f a1).bind fun t331 => (if t331 = true then (some (decide (a0 < a1))) else (some true))) else (some (decide (a0 < a1)))) = some r := H
 by_cases c4 : t330 = true
 ·subst c4
  have H1 : ((cmp_isNaN_int.f a1).bind fun t331 => (if t331 = true then (some (decide (a0 < a1))) else (some true))) = some r := by rw [if_pos rfl] at H; exact H
  clear H
  have H := H1
  clear H1; replace H := bS H; obtain ⟨t331, A5, H⟩ := H
  replace H : (if t331 = true then (some (decide (a0 < a1))) else (some true)) = some r := H
  by_cases c6 : t331 = true
  ·subst c6
   have H1 : (some (decide (a0 < a1))) = some r := by rw [if_pos rfl] at H; exact H
   clear H
   have H := H1
   clear H1
   obtain rfl := Option.some.inj H
   go_enter Try.func220, Try.ntmps220
   go_wp2_with (first | ((with_reducible refine gate_callee (f := 237) rfl ?_); refine goesLa (some 6) rfl Try.func237 #[.int .i64 a0] rfl ?_; (with_reducible refine (cmp_isNaN_int.calls a0 true _ A3.out).mono ?_); rintro e w' ⟨rfl, ⟨nd, rfl⟩⟩; refine ⟨_, rfl, ?_⟩) | (go_at_call 237; (with_reducible refine (cmp_isNaN_int.calls a1 true _ A5.out).mono ?_); rintro e w' ⟨rfl, ⟨nd, rfl⟩⟩))
   go_ret
   exact ⟨er, drw⟩
  ·replace c6 := Bool.eq_false_iff.mpr c6
   subst c6
   have H1 : (some true) = some r := by rw [if_neg (show ¬ (false = true) by decide)] at H; exact H
   clear H
   have H := H1
   clear H1
   obtain rfl := Option.some.inj H
   go_enter Try.func220, Try.ntmps220
   go_wp2_with (first | ((with_reducible refine gate_callee (f := 237) rfl ?_); refine goesLa (some 6) rfl Try.func237 #[.int .i64 a0] rfl ?_; (with_reducible refine (cmp_isNaN_int.calls a0 true _ A3.out).mono ?_); rintro e w' ⟨rfl, ⟨nd, rfl⟩⟩; refine ⟨_, rfl, ?_⟩) | (go_at_call 237; (with_reducible refine (cmp_isNaN_int.calls a1 false _ A5.out).mono ?_); rintro e w' ⟨rfl, ⟨nd, rfl⟩⟩))
   go_ret
   exact ⟨er, drw⟩
 ·replace c4 := Bool.eq_false_iff.mpr c4
  subst c4
  have H1 : (some (decide (a0 < a1))) = some r := by rw [if_neg (show ¬ (false = true) by decide)] at H; exact H
  clear H
  have H := H1
  clear H1
  obtain rfl := Option.some.inj H
  go_enter Try.func220, Try.ntmps220
  go_wp2_with (first | ((with_reducible refine gate_callee (f := 237) rfl ?_); refine goesLa (some 6) rfl Try.func237 #[.int .i64 a0] rfl ?_; (with_reducible refine (cmp_isNaN_int.calls a0 false _ A3.out).mono ?_); rintro e w' ⟨rfl, ⟨nd, rfl⟩⟩; refine ⟨_, rfl, ?_⟩))
  go_ret
  exact ⟨er, drw⟩

/-! ### slices_isNaN_int: function 221 -/
def slices_isNaN_int.f (a0 : Int) : Option (Bool) := some (a0 != a0)
set_option maxHeartbeats 8000000 in
set_option maxRecDepth 100000 in
theorem slices_isNaN_int.calls (a0 : Int) (r : Bool) (w : World) (h : slices_isNaN_int.f a0 = some r) :
  Calls Try.prog 221 #[.int .i64 a0] w fun e w' => e = .returned (.bool r) ∧ Drawn0 w w' := by
 have H : (some (a0 != a0)) = some r := h
 clear h
 obtain rfl := Option.some.inj H
 go_enter Try.func221, Try.ntmps221
 go_wp2
 go_ret
 exact ⟨er, drw⟩

/-! ### slices_BinarySearch_int_int: function 183 -/
def slices_BinarySearch_int_int.l0 : Nat → List Int → Int → Int → Int → Int → Option (Int × Bool)
  | 0, _, _, _, _, _ => none
  | k + 1, x0, x1, x6, x7, x8 => if x7 < x8 then (if 0 ≤ (wrap64 ((IntKind.u64.wrap (wrap64 (x7 + x8))) / 2)) then (if (wrap64 ((IntKind.u64.wrap (wrap64 (x7 + x8))) / 2)) < (x0.length : Int) then ((cmp_Less_int.f (rd x0 (wrap64 ((IntKind.u64.wrap (wrap64 (x7 + x8))) / 2))) x1).bind fun t333 => (if t333 = true then (slices_BinarySearch_int_int.l0 k x0 x1 x6 (wrap64 ((wrap64 ((IntKind.u64.wrap (wrap64 (x7 + x8))) / 2)) + 1)) x8) else (slices_BinarySearch_int_int.l0 k x0 x1 x6 x7 (wrap64 ((IntKind.u64.wrap (wrap64 (x7 + x8))) / 2))))) else (none)) else (none)) else (if x7 < x6 then (if 0 ≤ x7 then (if x7 < (x0.length : Int) then (if (rd x0 x7) = x1 then (some (x7, true)) else ((slices_isNaN_int.f (rd x0 x7)).bind fun t336 => (if t336 = true then ((slices_isNaN_int.f x1).bind fun t337 => (some (x7, t337))) else (some (x7, false))))) else (none)) else (none)) else (some (x7, false)))
def slices_BinarySearch_int_int.f (k : Nat) (l0 : List Int) (a1 : Int) : Option (Int × Bool) := slices_BinarySearch_int_int.l0 k l0 a1 (l0.length : Int) 0 (l0.length : Int)
theorem slices_BinarySearch_int_int.mono_l : ∀ k, (∀ y0 y1 y2 y3 y4, LeO (slices_BinarySearch_int_int.l0 k y0 y1 y2 y3 y4) (slices_BinarySearch_int_int.l0 (k + 1) y0 y1 y2 y3 y4))
 | 0 => fun _ _ _ _ _ r h => by simp [slices_BinarySearch_int_int.l0] at h
 | k + 1 => by
  have ih0 := slices_BinarySearch_int_int.mono_l k
  ·intro y0 y1 y2 y3 y4
   unfold slices_BinarySearch_int_int.l0
   repeat' (first | (with_reducible first | exact ih0 _ _ _ _ _ | exact LeO.refl _ | exact LeO.none _ | refine LeO.ite ?_ ?_ | refine LeO.bind ?_ (fun _ => ?_)) | exact ih0 _ _ _ _ _ | exact LeO.none _ | refine LeO.ite ?_ ?_ | refine LeO.bind ?_ (fun _ => ?_))
theorem slices_BinarySearch_int_int.mono : ∀ a0 a1 k, LeO (slices_BinarySearch_int_int.f k a0 a1) (slices_BinarySearch_int_int.f (k + 1) a0 a1) := by
 intro a0 a1 k
 have ih0 := slices_BinarySearch_int_int.mono_l k
 unfold slices_BinarySearch_int_int.f
 repeat' (first | (with_reducible first | exact ih0 _ _ _ _ _ | exact LeO.refl _ | exact LeO.none _ | refine LeO.ite ?_ ?_ | refine LeO.bind ?_ (fun _ => ?_)) | exact ih0 _ _ _ _ _ | exact LeO.none _ | refine LeO.ite ?_ ?_ | refine LeO.bind ?_ (fun _ => ?_))
set_option maxHeartbeats 8000000 in
set_option maxRecDepth 100000 in
theorem slices_BinarySearch_int_int.calls (k : Nat) (A0 : Option Addr) (c0 : Nat) (l0 : List Int) (a1 : Int) (r1 : Int) (r2 : Bool) (w : World) (hr0 : Kd.C (Kd.int .i64) w A0 l0.length l0) (hc0 : l0.length ≤ c0) (h : slices_BinarySearch_int_int.f k l0 a1 = some (r1, r2)) :
  Calls Try.prog 183 #[.slice A0 l0.length c0, .int .i64 a1] w fun e w' => e = .returned (.tuple #[.int .i64 r1, .bool r2]) ∧ Drawn0 w w' := by
 have HR0 := Aside0.mk hr0; have HC0 := Aside0.mk hc0; clear hr0 hc0
 have H : (slices_BinarySearch_int_int.l0 k l0 a1 (l0.length : Int) 0 (l0.length : Int)) = some (r1, r2) := h
 clear h
 have H' := Aside0.mk H
 clear H
 go_enter Try.func183, Try.ntmps183
 go_wp2
 go_loopg [7, 8] k (fun kq v7 v8 w' => ∃ (x7_1 : Int) (x8_1 : Int), v7 = .int .i64 x7_1 ∧ v8 = .int .i64 x8_1 ∧ Aside0 (slices_BinarySearch_int_int.l0 kq l0 a1 (l0.length : Int) x7_1 x8_1 = some (r1, r2)) ∧ Aside0 (kq ≤ k) ∧ Drawn0 w w')
 case atStart => exact ⟨(0), ((l0.length : Int)), er, er, H', ⟨Nat.le_refl _⟩, drw⟩
 case round =>
  clear H'
  obtain ⟨x7_1, x8_1, rfl, rfl, HA, HK1, ⟨m1, rfl⟩⟩ := hrel
  cases gk with
  | zero => exact absurd HA.out (by simp [slices_BinarySearch_int_int.l0])
  | succ k1 =>
   have H := HA.out; clear HA
   simp only [slices_BinarySearch_int_int.l0] at H
   by_cases c3 : x7_1 < x8_1
   ·rw [if_pos c3] at H
    have c3b0 : decide (x7_1 < x8_1) = true := decide_eq_true c3
    clear c3
    obtain ⟨ji4, hji4⟩ : ∃ j_ : Int, (wrap64 ((IntKind.u64.wrap (wrap64 (x7_1 + x8_1))) / 2)) = j_ := ⟨_, rfl⟩
    replace H : (if 0 ≤ (ji4) then (if (ji4) < (l0.length : Int) then ((cmp_Less_int.f (rd l0 (ji4)) a1).bind fun t333 => (if t333 = true then (slices_BinarySearch_int_int.l0 k1 l0 a1 (l0.length : Int) (wrap64 ((ji4) + 1)) x8_1) else (slices_BinarySearch_int_int.l0 k1 l0 a1 (l0.length : Int) x7_1 ji4))) else (none)) else (none)) = some (r1, r2) := by first | (rw [hji4] at H; exact H) | (simp only [hji4] at H ⊢; exact H)
    have hji4w : (IntKind.i64.wrap ((IntKind.u64.wrap (wrap64 (x7_1 + x8_1))) / 2)) = ji4 := (i64_w _).trans hji4
    replace H := ifS H; obtain ⟨c5, H⟩ := H; have c5b0 := decide_eq_true c5; clear c5; replace H := ifS H; obtain ⟨c6, H⟩ := H; have c6b0 := decide_eq_true c6; clear c6; replace H := bS H; obtain ⟨t333, A7, H⟩ := H
    replace H : (if t333 = true then (slices_BinarySearch_int_int.l0 k1 l0 a1 (l0.length : Int) (wrap64 ((ji4) + 1)) x8_1) else (slices_BinarySearch_int_int.l0 k1 l0 a1 (l0.length : Int) x7_1 ji4)) = some (r1, r2) := H
    by_cases c8 : t333 = true
    ·subst c8
     have H1 : (slices_BinarySearch_int_int.l0 k1 l0 a1 (l0.length : Int) (wrap64 ((ji4) + 1)) x8_1) = some (r1, r2) := by rw [if_pos rfl] at H; exact H
     clear H
     have H := H1
     clear H1
     have H' := Aside0.mk H
     clear H
     have p332 : 0 ≤ ((ji4) : Int) := da
     have q332 : (ji4) < (l0.length : Int) := da
     obtain ⟨ad332, e332, hx332_0⟩ := Kd.at_int HR0.out (ji4) p332 q332
     cases e332
     replace p332 := eq_true p332; replace q332 := eq_true q332
     go_wp2_with (first | ((with_reducible refine gate_callee (f := 220) rfl ?_); refine goesL_ (some 27) rfl rfl Try.func220 (by kernel_rfl) rfl #[.int .i64 (rd l0 (ji4)), .int .i64 a1] rfl (by (try simp only [List.map_toArray, List.map_cons, List.map_nil]); first | done | (simp only [hji4]; rfl) | rfl | (simp only [List.length_drop, List.length_take]; rfl)) ?_; (with_reducible refine (cmp_Less_int.calls (rd l0 (ji4)) a1 true _ A7.out).mono ?_); rintro e w' ⟨rfl, ⟨nd, rfl⟩⟩; refine ⟨_, rfl, ?_⟩))
     go_roundg k1
     case measure => have := HK1.out; omega
     case rel => exact ⟨(wrap64 ((ji4) + 1)), (x8_1), (by first | rfl | (simp; done) | (simp only [← hji4] <;> (first | rfl | simp)) | (simp [*]; done)), er, H', ⟨by have := HK1.out; omega⟩, drw⟩
    ·replace c8 := Bool.eq_false_iff.mpr c8
     subst c8
     have H1 : (slices_BinarySearch_int_int.l0 k1 l0 a1 (l0.length : Int) x7_1 ji4) = some (r1, r2) := by rw [if_neg (show ¬ (false = true) by decide)] at H; exact H
     clear H
     have H := H1
     clear H1
     have H' := Aside0.mk H
     clear H
     have p332 : 0 ≤ ((ji4) : Int) := da
     have q332 : (ji4) < (l0.length : Int) := da
     obtain ⟨ad332, e332, hx332_0⟩ := Kd.at_int HR0.out (ji4) p332 q332
     cases e332
     replace p332 := eq_true p332; replace q332 := eq_true q332
     go_wp2_with (first | ((with_reducible refine gate_callee (f := 220) rfl ?_); refine goesL_ (some 27) rfl rfl Try.func220 (by kernel_rfl) rfl #[.int .i64 (rd l0 (ji4)), .int .i64 a1] rfl (by (try simp only [List.map_toArray, List.map_cons, List.map_nil]); first | done | (simp only [hji4]; rfl) | rfl | (simp only [List.length_drop, List.length_take]; rfl)) ?_; (with_reducible refine (cmp_Less_int.calls (rd l0 (ji4)) a1 false _ A7.out).mono ?_); rintro e w' ⟨rfl, ⟨nd, rfl⟩⟩; refine ⟨_, rfl, ?_⟩))
     go_roundg k1
     case measure => have := HK1.out; omega
     case rel => exact ⟨(x7_1), (ji4), er, (by first | rfl | (simp; done) | (simp only [← hji4] <;> (first | rfl | simp)) | (simp [*]; done)), H', ⟨by have := HK1.out; omega⟩, drw⟩
   ·rw [if_neg c3] at H
    have c3b0 : decide (x7_1 < x8_1) = false := decide_eq_false c3
    clear c3
    by_cases c9 : x7_1 < (l0.length : Int)
    ·rw [if_pos c9] at H
     have c9b0 : decide (x7_1 < (l0.length : Int)) = true := decide_eq_true c9
     clear c9; replace H := ifS H; obtain ⟨c10, H⟩ := H; have c10b0 := decide_eq_true c10; clear c10; replace H := ifS H; obtain ⟨c11, H⟩ := H; have c11b0 := decide_eq_true c11; clear c11
     by_cases c12 : (rd l0 x7_1) = a1
     ·rw [if_pos c12] at H
      have c12b0 : ((rd l0 x7_1) == a1) = true := beq_iff_eq.mpr c12
      have c12b1 : ((rd l0 x7_1) != a1) = false := bne_eq_false_iff_eq.mpr c12
      clear c12
      simp only [Option.some.injEq, Prod.mk.injEq] at H
      obtain ⟨rfl, rfl⟩ := H
      have p334 : 0 ≤ (x7_1 : Int) := da
      have q334 : x7_1 < (l0.length : Int) := da
      obtain ⟨ad334, e334, hx334_0⟩ := Kd.at_int HR0.out x7_1 p334 q334
      cases e334
      replace p334 := eq_true p334; replace q334 := eq_true q334; go_wp2
      go_ret2
      exact ⟨er, drw⟩
     ·rw [if_neg c12] at H
      have c12b0 : ((rd l0 x7_1) == a1) = false := beq_eq_false_iff_ne.mpr c12
      have c12b1 : ((rd l0 x7_1) != a1) = true := bne_iff_ne.mpr c12
      replace H := bS H; obtain ⟨t336, A13, H⟩ := H
      replace H : (if t336 = true then ((slices_isNaN_int.f a1).bind fun t337 => (some (x7_1, t337))) else (some (x7_1, false))) = some (r1, r2) := H
      by_cases c14 : t336 = true
      ·subst c14
       have H1 : ((slices_isNaN_int.f a1).bind fun t337 => (some (x7_1, t337))) = some (r1, r2) := by rw [if_pos rfl] at H; exact H
       clear H
       have H := H1
       clear H1; replace H := bS H; obtain ⟨t337, A15, H⟩ := H
       replace H : (some (x7_1, t337)) = some (r1, r2) := H
       simp only [Option.some.injEq, Prod.mk.injEq] at H
       obtain ⟨rfl, rfl⟩ := H
       have p334 : 0 ≤ (x7_1 : Int) := da
       have q334 : x7_1 < (l0.length : Int) := da
       obtain ⟨ad334, e334, hx334_0⟩ := Kd.at_int HR0.out x7_1 p334 q334
       cases e334
       replace p334 := eq_true p334; replace q334 := eq_true q334
       have p335 : 0 ≤ (x7_1 : Int) := da
       have q335 : x7_1 < (l0.length : Int) := da
       obtain ⟨ad335, e335, hx335_0⟩ := Kd.at_int HR0.out x7_1 p335 q335
       obtain rfl : ad334 = ad335 := (by injection e335)
       replace p335 := eq_true p335; replace q335 := eq_true q335
       go_wp2_with (first | (go_at_call 221; (with_reducible refine (slices_isNaN_int.calls (rd l0 x7_1) true _ A13.out).mono ?_); rintro e w' ⟨rfl, ⟨nd, rfl⟩⟩) | (go_at_call 221; (with_reducible refine (slices_isNaN_int.calls a1 t337 _ A15.out).mono ?_); rintro e w' ⟨rfl, ⟨nd, rfl⟩⟩))
       go_ret2
       exact ⟨er, drw⟩
      ·replace c14 := Bool.eq_false_iff.mpr c14
       subst c14
       have H1 : (some (x7_1, false)) = some (r1, r2) := by rw [if_neg (show ¬ (false = true) by decide)] at H; exact H
       clear H
       have H := H1
       clear H1
       simp only [Option.some.injEq, Prod.mk.injEq] at H
       obtain ⟨rfl, rfl⟩ := H
       have p334 : 0 ≤ (x7_1 : Int) := da
       have q334 : x7_1 < (l0.length : Int) := da
       obtain ⟨ad334, e334, hx334_0⟩ := Kd.at_int HR0.out x7_1 p334 q334
       cases e334
       replace p334 := eq_true p334; replace q334 := eq_true q334
       have p335 : 0 ≤ (x7_1 : Int) := da
       have q335 : x7_1 < (l0.length : Int) := da
       obtain ⟨ad335, e335, hx335_0⟩ := Kd.at_int HR0.out x7_1 p335 q335
       obtain rfl : ad334 = ad335 := (by injection e335)
       replace p335 := eq_true p335; replace q335 := eq_true q335
       go_wp2_with (first | (go_at_call 221; (with_reducible refine (slices_isNaN_int.calls (rd l0 x7_1) false _ A13.out).mono ?_); rintro e w' ⟨rfl, ⟨nd, rfl⟩⟩))
       go_ret2
       exact ⟨er, drw⟩
    ·rw [if_neg c9] at H
     have c9b0 : decide (x7_1 < (l0.length : Int)) = false := decide_eq_false c9
     clear c9
     simp only [Option.some.injEq, Prod.mk.injEq] at H
     obtain ⟨rfl, rfl⟩ := H; go_wp2
     go_ret2
     exact ⟨er, drw⟩

-- NOT PRINTED: function 222 (slices_overlaps_int)

/-! ### slices_Reverse_int_int: function 260 -/
def slices_Reverse_int_int.l0 : Nat → List Int → Int → Int → Option (List Int)
  | 0, _, _, _ => none
  | k + 1, x0, x2, x3 => if x2 < x3 then (if 0 ≤ x3 then (if x3 < (x0.length : Int) then (if 0 ≤ x2 then (if x2 < (x0.length : Int) then (slices_Reverse_int_int.l0 k ((x0.set (x2 : Int).toNat (rd x0 x3)).set (x3 : Int).toNat (rd x0 x2)) (wrap64 (x2 + 1)) (wrap64 (x3 - 1))) else (none)) else (none)) else (none)) else (none)) else (some x0)
def slices_Reverse_int_int.f (k : Nat) (l0 : List Int) : Option (List Int) := slices_Reverse_int_int.l0 k l0 0 (wrap64 ((l0.length : Int) - 1))
theorem slices_Reverse_int_int.mono_l : ∀ k, (∀ y0 y1 y2, LeO (slices_Reverse_int_int.l0 k y0 y1 y2) (slices_Reverse_int_int.l0 (k + 1) y0 y1 y2))
 | 0 => fun _ _ _ r h => by simp [slices_Reverse_int_int.l0] at h
 | k + 1 => by
  have ih0 := slices_Reverse_int_int.mono_l k
  ·intro y0 y1 y2
   unfold slices_Reverse_int_int.l0
   repeat' (first | (with_reducible first | exact ih0 _ _ _ | exact LeO.refl _ | exact LeO.none _ | refine LeO.ite ?_ ?_ | refine LeO.bind ?_ (fun _ => ?_)) | exact ih0 _ _ _ | exact LeO.none _ | refine LeO.ite ?_ ?_ | refine LeO.bind ?_ (fun _ => ?_))
theorem slices_Reverse_int_int.mono : ∀ a0 k, LeO (slices_Reverse_int_int.f k a0) (slices_Reverse_int_int.f (k + 1) a0) := by
 intro a0 k
 have ih0 := slices_Reverse_int_int.mono_l k
 unfold slices_Reverse_int_int.f
 repeat' (first | (with_reducible first | exact ih0 _ _ _ | exact LeO.refl _ | exact LeO.none _ | refine LeO.ite ?_ ?_ | refine LeO.bind ?_ (fun _ => ?_)) | exact ih0 _ _ _ | exact LeO.none _ | refine LeO.ite ?_ ?_ | refine LeO.bind ?_ (fun _ => ?_))
def slices_Reverse_int_int.T3 : Bool × List (List Nat × List Nat) := (true, [([], []), ([], []), ([], []), ([], []), ([], []), ([], []), ([4, 5], [4, 5]), ([6], [6]), ([], []), ([], []), ([8, 9], [8, 9]), ([10], [10]), ([0, 1, 0, 1, 4, 5, 6, 7, 11], [0, 1]), ([12, 7, 0, 1, 4, 5, 6, 7, 11], [7, 12]), ([2, 3, 0, 1, 2, 3, 4, 5, 6, 7, 8, 9, 10, 11, 12, 13], [2, 3]), ([14, 11, 13, 0, 1, 2, 3, 4, 5, 6, 7, 8, 9, 10, 11, 12, 13], [11, 14])])
def slices_Reverse_int_int.B3 : List Nat := [0, 0, 0, 0, 0, 0, 48, 112, 0, 0, 768, 1792, 4083, 8179, 16383, 32767]
theorem slices_Reverse_int_int.tab3 : rtab .any (opsOf Try.f260 3) = slices_Reverse_int_int.T3 := by kernel_rfl
theorem slices_Reverse_int_int.bits3 : waitsOk slices_Reverse_int_int.T3.2 slices_Reverse_int_int.B3 = true := by kernel_rfl
set_option maxHeartbeats 8000000 in
set_option maxRecDepth 100000 in
theorem slices_Reverse_int_int.calls (k : Nat) (P0_ : Nat → Prop) (u9000_ : Value) (l0 : List Int) (r : List Int) (w0 w : World) (hB : Below w0.heap.size w0 w) (ho0 : Kd.R (Kd.int .i64) 3 w w0.heap.size P0_ u9000_ l0) (h : slices_Reverse_int_int.f k l0 = some r) :
  Calls Try.prog 260 #[u9000_] w fun e w' => e = .returned (.tuple #[]) ∧ Kd.R (Kd.int .i64) 3 w' w0.heap.size (fun k_ => (P0_ k_ ∨ w.heap.size ≤ k_)) u9000_ r ∧ Below w0.heap.size w0 w' ∧ Kept w w' (fun k_ => P0_ k_) := by
 have HO0 := Aside0.mk (show Kd.R (Kd.int .i64) 3 w w0.heap.size (fun k_ => (P0_ k_ ∨ w.heap.size ≤ k_)) u9000_ l0 from Kd.R_mono ho0 (fun k_ hk => (.inl hk)))
 have HK := Aside0.mk (Kept.refl w (fun k_ => P0_ k_))
 have HW0 := Aside0.mk hB.size
 have HB := Aside0.mk hB; clear hB
 have H : (slices_Reverse_int_int.l0 k l0 0 (wrap64 ((l0.length : Int) - 1))) = some r := h
 clear h
 have H' := Aside0.mk H
 clear H
 obtain ⟨Ao2, co2, eo2⟩ := Kd.R_slice HO0.out
 subst eo2
 go_enter Try.func260, Try.ntmps260
 go_wp2
 go_loopg [2, 3] k (fun kq v2 v3 w' => ∃ (x0_1 : List Int) (x2_1 : Int) (x3_1 : Int), v2 = .int .i64 x2_1 ∧ v3 = .int .i64 x3_1 ∧ Aside0 (slices_Reverse_int_int.l0 kq x0_1 x2_1 x3_1 = some r) ∧ Aside0 (kq ≤ k) ∧ Aside0 (Kd.R (Kd.int .i64) 3 w' w0.heap.size (fun k_ => (P0_ k_ ∨ w.heap.size ≤ k_)) (.slice Ao2 l0.length co2) x0_1) ∧ Aside0 (Kept w w' (fun k_ => P0_ k_)) ∧ Aside0 (Below w0.heap.size w0 w'))
 case atStart => exact ⟨(l0), (0), (wrap64 ((l0.length : Int) - 1)), er, er, H', ⟨Nat.le_refl _⟩, ⟨rdl HO0⟩, ⟨by repeat (first | (with_reducible first | exact HK.out | apply Kept.alloc | apply Kept.drewN | apply Kept.drew) | exact HK.out)⟩, ⟨belowd HB⟩⟩
 case round =>
  clear H'
  obtain ⟨x0_1, x2_1, x3_1, rfl, rfl, HA, HK1, HO_0, HK, HB⟩ := hrel
  have hl0_1 := (Kd.R_reads' HO_0.out).1
  rw [hl0_1] at HO_0
  (try simp only [hl0_1])
  cases gk with
  | zero => exact absurd HA.out (by simp [slices_Reverse_int_int.l0])
  | succ k1 =>
   have H := HA.out; clear HA
   simp only [slices_Reverse_int_int.l0] at H
   by_cases c3 : x2_1 < x3_1
   ·rw [if_pos c3] at H
    have c3b0 : decide (x2_1 < x3_1) = true := decide_eq_true c3
    clear c3; replace H := ifS H; obtain ⟨c4, H⟩ := H; have c4b0 := decide_eq_true c4; clear c4; replace H := ifS H; obtain ⟨c5, H⟩ := H; have c5b0 := decide_eq_true c5; clear c5; replace H := ifS H; obtain ⟨c6, H⟩ := H; have c6b0 := decide_eq_true c6; clear c6; replace H := ifS H; obtain ⟨c7, H⟩ := H; have c7b0 := decide_eq_true c7; clear c7
    obtain ⟨y340, hy_⟩ : ∃ y_ : List Int, y_ = (x0_1.set (x2_1 : Int).toNat (rd x0_1 x3_1)) := ⟨_, rfl⟩
    replace H : (slices_Reverse_int_int.l0 k1 (y340.set (x3_1 : Int).toNat (rd x0_1 x2_1)) (wrap64 (x2_1 + 1)) (wrap64 (x3_1 - 1))) = some r := yH
    have Ny340 := ak hy_; clear hy_
    obtain ⟨y341, hy_⟩ : ∃ y_ : List Int, y_ = (y340.set (x3_1 : Int).toNat (rd x0_1 x2_1)) := ⟨_, rfl⟩
    replace H : (slices_Reverse_int_int.l0 k1 y341 (wrap64 (x2_1 + 1)) (wrap64 (x3_1 - 1))) = some r := yH
    have Ny341 := ak hy_; clear hy_
    have H' := Aside0.mk H
    clear H
    try go_wp2
    replace HO_0 := ak (Kd.R_drew HO_0.out)
    replace HK := ak (Kept.drew HK.out)
    replace HB := ak (below_drew1 HB.out)
    have p338 : 0 ≤ (x3_1 : Int) := da
    have q338 : x3_1 < (x0_1.length : Int) := da
    obtain ⟨ad338, e338, hx338_0⟩ := Kd.at_int (Kd.R_reads' HO_0.out).2.2 x3_1 p338 q338
    cases e338
    replace p338 := eq_true p338; replace q338 := eq_true q338
    have p339 : 0 ≤ (x2_1 : Int) := da
    have q339 : x2_1 < (x0_1.length : Int) := da
    obtain ⟨ad339, e339, hx339_0⟩ := Kd.at_int (Kd.R_reads' HO_0.out).2.2 x2_1 p339 q339
    obtain rfl : ad338 = ad339 := (by injection e339)
    replace p339 := eq_true p339; replace q339 := eq_true q339
    have p8 : 0 ≤ (x2_1 : Int) := da
    have q8 : (x2_1 : Int) < ((x0_1.length : Int) : Int) := da
    obtain ⟨go8, co8, eo8, gb8, gl8, cl8, HG8⟩ := Kd.R_form HO_0.out (by omega)
    (first | cases eo8 | (injection eo8 with ea_ en_ ec_; (first | subst ea_ | (injection ea_ with ea_; subst ea_)); subst ec_; clear en_))
    have GB8 := Aside0.mk gb8; have GG8 := Aside0.mk HG8; clear gb8 gl8 HG8
    have HMgo8 := Aside0.mk (show (P0_ go8 ∨ w.heap.size ≤ go8) from (HO_0.out.1 _ rfl))
    (first | simp only [add_plain] at hx338_0 | skip)
    (first | simp only [add_plain] at hx339_0 | skip)
    obtain ⟨hx8_0, hf8_0⟩ := Kd.R_celln 0 HO_0.out (x2_1 : Int) p8 q8
    replace p8 := eq_true p8; replace q8 := eq_true q8
    have HP11 := Kd.R_putn HO_0.out (x2_1 : Int) (rd x0_1 x3_1)
    rw [← Ny340.out] at HP11
    have HQ11 := Aside0.mk HP11; clear HP11
    have p9 : 0 ≤ (x3_1 : Int) := da
    have q9 : (x3_1 : Int) < ((x0_1.length : Int) : Int) := da
    obtain ⟨hx9_0, hf9_0⟩ := Kd.R_celln 0 HQ11.out (x3_1 : Int) p9 q9
    replace p9 := eq_true p9; replace q9 := eq_true q9
    have HP12 := Kd.R_putn HQ11.out (x3_1 : Int) (rd x0_1 x2_1)
    rw [← Ny341.out] at HP12
    have HQ12 := Aside0.mk HP12; clear HP12
    refine start_ (n := 16) (S := fun w' => w'.cell? ⟨go8, (x3_1).toNat, none⟩ = some (.int .i64 (rd x0_1 x3_1)) ∧ w'.cell? ⟨go8, (x2_1).toNat, none⟩ = some (.int .i64 (rd x0_1 x2_1))) (ds := [13, 15]) (bl 16 0) (by kernel_rfl) rfl rfl ⟨hx338_0, hx339_0⟩ (fun hHeld => ?_); refine with_tabW slices_Reverse_int_int.tab3 slices_Reverse_int_int.bits3 (fun HT_ HW_ => ?_)
    generalize wr.drew = w10 at HO_0 HK HB GG8 HQ11 HQ12 hf8_0 hf9_0 hx338_0 hx339_0 hx8_0 hx9_0 hHeld ⊢
    refine pureA 0 (some 14) 16 1 HT_ ?_
    refine pureA 1 (some 15) 16 3 HT_ ?_
    refine pureA 2 (some 16) 16 7 HT_ ?_
    refine pureA 3 (some 17) 16 15 HT_ ?_
    refine pureA 4 (some 18) 16 31 HT_ ?_
    refine pureA 5 (some 19) 16 63 HT_ ?_
    refine pureA 6 (some 20) 16 127 HT_ ?_
    refine pureA 8 (some 22) 16 383 HT_ ?_
    refine pureA 9 (some 23) 16 895 HT_ ?_
    refine pureA 10 (some 24) 16 1919 HT_ ?_
    refine takeA 7 (some 21) 16 2047 HT_ HW_ hHeld ?_ (hy := by rintro w' ⟨s0, s1⟩; go_simp; with_reducible rfl)
    refine takeA 11 (some 25) 16 4095 HT_ HW_ hHeld ?_ (hy := by rintro w' ⟨s0, s1⟩; go_simp; with_reducible rfl)
    refine pureA 12 (some 26) 16 8191 HT_ ?_
    refine last_ (i := 13) (N := none) (bl 16 16383) rfl rfl (one_of HT_.out (by kernel_rfl)) (by decide) (fun K hK => ?_)
    refine skip_ (w1 := ?_) (by rfl) rfl ?_ ?_
    rotate_left
    ·go_simp
     rfl
    refine hK.out _ _ ?_
    clear hK K
    refine pureA 14 (some 27) 16 32767 HT_ ?_
    refine last_ (i := 15) (N := none) (bl 16 65535) rfl rfl (one_of HT_.out (by kernel_rfl)) (by decide) (fun K hK => ?_)
    refine skip_ (w1 := ?_) (by rfl) rfl ?_ ?_
    rotate_left
    ·go_simp
     rfl
    refine hK.out _ _ ?_
    clear hK K
    refine done_ (done_of HT_.out (by kernel_rfl)) ?_
    try go_wp2
    (try simp only [← hl0_1])
    (first | go_roundg k1 | ((try rw [← add_plain go8 (x3_1 : Int).toNat]); (try rw [← add_plain go8 (x2_1 : Int).toNat]); go_roundg k1))
    case measure => have := HK1.out; omega
    case rel => exact ⟨(y341), (wrap64 (x2_1 + 1)), (wrap64 (x3_1 - 1)), er, er, H', ⟨by have := HK1.out; omega⟩, ⟨by (try simp only [hl0_1]); (with_reducible repeat (first | apply Kd.R_alloc | apply Kd.R_drewN | apply Kd.R_drew)); exact HQ12.out⟩, ⟨by repeat (first | (with_reducible first | exact HK.out | apply Kept.alloc | apply Kept.drewN | apply Kept.drew | refine Kept.setCell ?_ HMgo8.out _ | refine Kept.setCell ?_ HMgo8.out _) | exact HK.out)⟩, ⟨by repeat (first | (with_reducible first | exact HB.out | apply below_alloc | apply pw_below_drewN | apply below_drew1 | refine below_set ?_ GB8.out | refine below_set ?_ GB8.out) | exact HB.out)⟩⟩
   ·rw [if_neg c3] at H
    have c3b0 : decide (x2_1 < x3_1) = false := decide_eq_false c3
    clear c3
    obtain rfl := Option.some.inj H
    go_wp2
    first | go_end0 | ((try simp only [Exit.inBlock, Exit.then]); refine bodyPost_ret (results_none rfl _ _ _) rfl ?_)
    exact ⟨er2, (by first | exact (rdl HO_0) | (simp only [hl0_1]; exact (rdl HO_0))), belowd HB, by repeat (first | (with_reducible first | exact HK.out | apply Kept.alloc | apply Kept.drewN | apply Kept.drew) | exact HK.out)⟩

-- NOT PRINTED: function 238 (slices_rotateLeft_int)

-- NOT PRINTED: function 223 (slices_rotateRight_int)

-- NOT PRINTED: function 184 (slices_Insert_int_int)

/-! ### impl_placed_int: function 105 -/
def impl_placed_int.f (k : Nat) (l0 : List Int) (a1 : Int) : Option (List Int) := (slices_BinarySearch_int_int.f k l0 a1).bind fun t => ((slices_Clone_int_int.f l0).bind fun c => (if c.length ≤ 4194304 then (if 0 ≤ t.1 then (if t.1 ≤ (c.length : Int) then (some (c.take t.1.toNat ++ a1 :: c.drop t.1.toNat)) else (none)) else (none)) else (none)))
theorem impl_placed_int.mono : ∀ a0 a1 k, LeO (impl_placed_int.f k a0 a1) (impl_placed_int.f (k + 1) a0 a1) := by
 intro a0 a1 k
 unfold impl_placed_int.f
 exact LeO.bind (slices_BinarySearch_int_int.mono _ _ _) (fun _ => LeO.refl _)
set_option maxHeartbeats 8000000 in
set_option maxRecDepth 100000 in
theorem impl_placed_int.calls (k : Nat) (A0 : Option Addr) (c0 : Nat) (l0 : List Int) (a1 : Int) (r : List Int) (w : World) (hr0 : Kd.C (Kd.int .i64) w A0 l0.length l0) (hc0 : l0.length ≤ c0) (h : impl_placed_int.f k l0 a1 = some r) :
  Calls Try.prog 105 #[.slice A0 l0.length c0, .int .i64 a1] w fun e w' => ∃ v0_ : Value, e = .returned (v0_) ∧ Kd.R (Kd.int .i64) 3 w' w.heap.size (fun _ => True) v0_ r ∧ Below w.heap.size w w' := by
 have HR0 := Aside0.mk hr0; have HC0 := Aside0.mk hc0; clear hr0 hc0
 have HB := Aside0.mk (Below.refl w.heap.size w)
 unfold impl_placed_int.f at h
 replace h := bS h
 obtain ⟨⟨t1, t2⟩, A1, h⟩ := h
 replace h := bS h
 obtain ⟨c, A2, h⟩ := h
 replace h := ifS h
 obtain ⟨c1, h⟩ := h
 replace h := ifS h
 obtain ⟨c2, h⟩ := h
 replace h := ifS h
 obtain ⟨c3, h⟩ := h
 dsimp only at c2 c3 h
 obtain ⟨i, rfl⟩ := Int.eq_ofNat_of_zero_le c2
 obtain rfl := Option.some.inj h
 rw [Int.toNat_natCast]
 clear h
 have LI := Aside0.mk (show i ≤ c.length by omega)
 have LC := Aside0.mk c1; clear c1 c2 c3
 go_enter Try.func105, Try.ntmps105
 go_wp2_with (first | ((with_reducible refine gate_callee (f := 183) rfl ?_); refine goesLa (some 10) rfl Try.func183 #[.slice A0 l0.length c0, .int .i64 a1] rfl ?_; (with_reducible refine (slices_BinarySearch_int_int.calls k _ _ l0 a1 (i : Int) t2 _ HR0.out HC0.out A1.out).mono ?_); rintro e w1 ⟨rfl, ⟨nd, rfl⟩⟩; refine ⟨_, rfl, ?_⟩) | ((with_reducible refine gate_callee (f := 179) rfl ?_); refine goesLa (some 14) rfl Try.func179 #[.slice A0 l0.length c0] rfl ?_; (with_reducible refine (slices_Clone_int_int.calls _ _ l0 c _ ?side1 ?side2 A2.out).mono ?_); (case side1 => exact cd HR0.out); (case side2 => exact HC0.out); rintro e w2 ⟨v14, rfl, ho, hb⟩; refine ⟨_, rfl, ?_⟩; have HO := ak (Kd.R_lower ho (below_size (belowd HB))); replace HB := ak (below_step (belowd HB) hb); clear ho hb) | ((with_reducible refine gate_dst (N := 17) rfl ?_); refine Kd.R_lit (Kd.int .i64) _ 3 ?hg (N := 17) ?hd (xs := ([a1] : List Int)) (inner := [.int .i64 a1]) (ok := fun _ => True) (okp := fun _ => True) ?hr ?hp (fun _ hk => hk) trivial (Below.refl _ _) (Nat.le_refl _) (by simp) ?_; (case hd => rfl); (case hg => rfl); (case hr => first | (go_simp; done) | (go_simp; rfl)); (case hp => exact (Reps.one (show Kd.M (Kd.int .i64) _ _ _ (a1) [.int .i64 a1] from rfl) (Reps.none _ _))); intro v17 w3 ho3 hb3 hg_ hnew_; clear hg_ hnew_; have HU := ak (Kd.R_lower (Kd.R_mono (Kd.R_new' ho3 (Kd.R_lt (rdl HO))) (fun _ h_ => h_.2)) (below_size (belowd HB))); replace HO := ak (Kd.R_below (rdl HO) hb3); replace HB := ak (below_step (belowd HB) hb3); clear ho3 hb3) | ((with_reducible refine gate_callee (f := 184) rfl ?_); refine goesLa (some 18) rfl Try.func184 #[v14, .int .i64 (i : Int), v17] rfl ?_; (with_reducible refine (insI.calls (belowd HB) (rdl HO) (rdl HU) LI.out LC.out).mono ?_); rintro e w4 ⟨v18, rfl, ho, hb⟩; refine ⟨_, rfl, ?_⟩; clear HO HU; have HO := ak ho; replace HB := ak hb; clear ho hb))
 go_ret
 exact ⟨_, rfl, HO.out, HB.out⟩

/-! ### impl_PutMix: function 16 -/
mutual
def impl_PutMix.j0 : Nat → ByteArray → Bool → List ByteArray → Int → Int → Int → List Int → Option (List ByteArray × Int × Int × Int × List Int × Int × Bool)
  | 0, _, _, _, _, _, _, _ => none
  | k + 1, x1, x16, x354000, x354001, x354002, x354003, x354004 => if x16 = true then (some (([] : List ByteArray), 0, 0, 0, ([] : List Int), 0, false)) else ((impl_Mix_own.f x354000 x354001 x354002 x354003 x354004).bind fun bt357 => ((impl_tag.f k x1).bind fun t366 => ((slices_Contains_int_int.f k x354004 t366).bind fun t368 => (if t368 = true then (some (bt357.1, bt357.2.1, bt357.2.2.1, bt357.2.2.2.1, bt357.2.2.2.2, 1, true)) else (if (x354000.length : Int) = 12 then (impl_PutMix.j1 k x1 t366 true x354000 x354001 x354002 x354003 x354004 bt357.1 bt357.2.1 bt357.2.2.1 bt357.2.2.2.1 bt357.2.2.2.2) else (impl_PutMix.j1 k x1 t366 ((x354004.length : Int) == 100) x354000 x354001 x354002 x354003 x354004 bt357.1 bt357.2.1 bt357.2.2.1 bt357.2.2.2.1 bt357.2.2.2.2))))))
def impl_PutMix.j1 : Nat → ByteArray → Int → Bool → List ByteArray → Int → Int → Int → List Int → List ByteArray → Int → Int → Int → List Int → Option (List ByteArray × Int × Int × Int × List Int × Int × Bool)
  | 0, _, _, _, _, _, _, _, _, _, _, _, _, _ => none
  | k + 1, x1, x8, x28, x354000, x354001, x354002, x354003, x354004, x368000, x368001, x368002, x368003, x368004 => if x28 = true then (some (x368000, x368001, x368002, x368003, x368004, 2, true)) else ((impl_placed_string.f k x354000 x1).bind fun t369 => ((impl_placed_int.f k x354004 x8).bind fun t372 => (some (t369, x368001, x368002, x368003, t372, 0, true))))
end
def impl_PutMix.f (k : Nat) (l0_0 : List ByteArray) (a0_1 : Int) (a0_2 : Int) (a0_3 : Int) (l0_4 : List Int) (a1 : ByteArray) : Option (List ByteArray × Int × Int × Int × List Int × Int × Bool) := (impl_GoodMix.f k l0_0 a0_1 a0_2 a0_3 l0_4).bind fun t355 => (if t355 = true then ((impl_isLetter.f a1).bind fun t356 => (impl_PutMix.j0 k a1 (!t356) l0_0 a0_1 a0_2 a0_3 l0_4)) else (impl_PutMix.j0 k a1 true l0_0 a0_1 a0_2 a0_3 l0_4))
theorem impl_PutMix.mono_l : ∀ k, (∀ y0 y1 y2 y3 y4 y5 y6, LeO (impl_PutMix.j0 k y0 y1 y2 y3 y4 y5 y6) (impl_PutMix.j0 (k + 1) y0 y1 y2 y3 y4 y5 y6)) ∧ (∀ y0 y1 y2 y3 y4 y5 y6 y7 y8 y9 y10 y11 y12, LeO (impl_PutMix.j1 k y0 y1 y2 y3 y4 y5 y6 y7 y8 y9 y10 y11 y12) (impl_PutMix.j1 (k + 1) y0 y1 y2 y3 y4 y5 y6 y7 y8 y9 y10 y11 y12))
 | 0 => ⟨fun _ _ _ _ _ _ _ r h => by simp [impl_PutMix.j0] at h, fun _ _ _ _ _ _ _ _ _ _ _ _ _ r h => by simp [impl_PutMix.j1] at h⟩
 | k + 1 => by
  obtain ⟨ih0, ih1⟩ := impl_PutMix.mono_l k
  refine ⟨?_, ?_⟩
  ·intro y0 y1 y2 y3 y4 y5 y6
   unfold impl_PutMix.j0
   repeat' (first | (with_reducible first | exact ih0 _ _ _ _ _ _ _ | exact ih1 _ _ _ _ _ _ _ _ _ _ _ _ _ | exact impl_GoodMix.mono _ _ _ _ _ _ | exact impl_placed_int.mono _ _ _ | exact impl_placed_string.mono _ _ _ | exact impl_tag.mono _ _ | exact slices_Contains_int_int.mono _ _ _ | exact LeO.refl _ | exact LeO.none _ | refine LeO.ite ?_ ?_ | refine LeO.bind ?_ (fun _ => ?_)) | exact ih0 _ _ _ _ _ _ _ | exact ih1 _ _ _ _ _ _ _ _ _ _ _ _ _ | exact impl_GoodMix.mono _ _ _ _ _ _ | exact impl_placed_int.mono _ _ _ | exact impl_placed_string.mono _ _ _ | exact impl_tag.mono _ _ | exact slices_Contains_int_int.mono _ _ _ | exact LeO.none _ | refine LeO.ite ?_ ?_ | refine LeO.bind ?_ (fun _ => ?_))
  ·intro y0 y1 y2 y3 y4 y5 y6 y7 y8 y9 y10 y11 y12
   unfold impl_PutMix.j1
   repeat' (first | (with_reducible first | exact ih0 _ _ _ _ _ _ _ | exact ih1 _ _ _ _ _ _ _ _ _ _ _ _ _ | exact impl_GoodMix.mono _ _ _ _ _ _ | exact impl_placed_int.mono _ _ _ | exact impl_placed_string.mono _ _ _ | exact impl_tag.mono _ _ | exact slices_Contains_int_int.mono _ _ _ | exact LeO.refl _ | exact LeO.none _ | refine LeO.ite ?_ ?_ | refine LeO.bind ?_ (fun _ => ?_)) | exact ih0 _ _ _ _ _ _ _ | exact ih1 _ _ _ _ _ _ _ _ _ _ _ _ _ | exact impl_GoodMix.mono _ _ _ _ _ _ | exact impl_placed_int.mono _ _ _ | exact impl_placed_string.mono _ _ _ | exact impl_tag.mono _ _ | exact slices_Contains_int_int.mono _ _ _ | exact LeO.none _ | refine LeO.ite ?_ ?_ | refine LeO.bind ?_ (fun _ => ?_))
theorem impl_PutMix.mono : ∀ a0 a1 a2 a3 a4 a5 k, LeO (impl_PutMix.f k a0 a1 a2 a3 a4 a5) (impl_PutMix.f (k + 1) a0 a1 a2 a3 a4 a5) := by
 intro a0 a1 a2 a3 a4 a5 k
 obtain ⟨ih0, ih1⟩ := impl_PutMix.mono_l k
 unfold impl_PutMix.f
 repeat' (first | (with_reducible first | exact ih0 _ _ _ _ _ _ _ | exact ih1 _ _ _ _ _ _ _ _ _ _ _ _ _ | exact impl_GoodMix.mono _ _ _ _ _ _ | exact impl_placed_int.mono _ _ _ | exact impl_placed_string.mono _ _ _ | exact impl_tag.mono _ _ | exact slices_Contains_int_int.mono _ _ _ | exact LeO.refl _ | exact LeO.none _ | refine LeO.ite ?_ ?_ | refine LeO.bind ?_ (fun _ => ?_)) | exact ih0 _ _ _ _ _ _ _ | exact ih1 _ _ _ _ _ _ _ _ _ _ _ _ _ | exact impl_GoodMix.mono _ _ _ _ _ _ | exact impl_placed_int.mono _ _ _ | exact impl_placed_string.mono _ _ _ | exact impl_tag.mono _ _ | exact slices_Contains_int_int.mono _ _ _ | exact LeO.none _ | refine LeO.ite ?_ ?_ | refine LeO.bind ?_ (fun _ => ?_))
def impl_PutMix.T8 : Bool × List (List Nat × List Nat) := (true, [([], []), ([0], [0]), ([], []), ([1, 2], [1, 2]), ([], []), ([4], [4]), ([], []), ([5, 6, 3], [5, 6]), ([0, 1, 2, 3], []), ([8, 3, 7, 0, 1, 2, 3], [3, 8]), ([0, 1, 2, 3, 4, 5, 6, 7, 8, 9], []), ([10, 7, 9, 0, 1, 2, 3, 4, 5, 6, 7, 8, 9], [7, 10])])
def impl_PutMix.B8 : List Nat := [0, 1, 0, 7, 0, 16, 0, 127, 15, 511, 1023, 2047]
theorem impl_PutMix.tab8 : rtab .any (opsOf Try.f16 8) = impl_PutMix.T8 := by kernel_rfl
theorem impl_PutMix.bits8 : waitsOk impl_PutMix.T8.2 impl_PutMix.B8 = true := by kernel_rfl
set_option maxHeartbeats 8000000 in
set_option maxRecDepth 100000 in
theorem impl_PutMix.calls (k : Nat) (A0_0 : Option Addr) (c0_0 : Nat) (l0_0 : List ByteArray) (a0_1 : Int) (a0_2 : Int) (a0_3 : Int) (A0_4 : Option Addr) (c0_4 : Nat) (l0_4 : List Int) (a1 : ByteArray) (r1 : List ByteArray) (r2 : Int) (r3 : Int) (r4 : Int) (r5 : List Int) (r6 : Int) (r7 : Bool) (w : World) (hr0_0 : Kd.C Kd.string w A0_0 l0_0.length l0_0) (hc0_0 : l0_0.length ≤ c0_0) (hr0_4 : Kd.C (Kd.int .i64) w A0_4 l0_4.length l0_4) (hc0_4 : l0_4.length ≤ c0_4) (h : impl_PutMix.f k l0_0 a0_1 a0_2 a0_3 l0_4 a1 = some (r1, r2, r3, r4, r5, r6, r7)) :
  Calls Try.prog 16 #[.agg #[.slice A0_0 l0_0.length c0_0, .int .i64 a0_1, .int .i64 a0_2, .int .i64 a0_3, .slice A0_4 l0_4.length c0_4], .string a1] w fun e w' => ∃ v0_ v4_ : Value, e = .returned (.tuple #[.agg #[v0_, .int .i64 r2, .int .i64 r3, .int .i64 r4, v4_], .int .i64 r6, .bool r7]) ∧ Kd.R Kd.string 9 w' w.heap.size (fun _ => True) v0_ r1 ∧ Kd.R (Kd.int .i64) 3 w' w.heap.size (fun _ => True) v4_ r5 ∧ Below w.heap.size w w' := by
 have hu27 := Try.underlying27
 have HR0_0 := Aside0.mk hr0_0; have HC0_0 := Aside0.mk hc0_0; clear hr0_0 hc0_0; have HR0_4 := Aside0.mk hr0_4; have HC0_4 := Aside0.mk hc0_4; clear hr0_4 hc0_4
 have HB := Aside0.mk (Below.refl w.heap.size w)
 have H : ((impl_GoodMix.f k l0_0 a0_1 a0_2 a0_3 l0_4).bind fun t355 => (if t355 = true then ((impl_isLetter.f a1).bind fun t356 => (impl_PutMix.j0 k a1 (!t356) l0_0 a0_1 a0_2 a0_3 l0_4)) else (impl_PutMix.j0 k a1 true l0_0 a0_1 a0_2 a0_3 l0_4))) = some (r1, r2, r3, r4, r5, r6, r7) := h
 clear h; have HC3 := Aside0.mk H; clear H
 go_enter Try.func16, Try.ntmps16
 go_upto_region 1 with (first | ((with_reducible refine gate_dst (N := 2) rfl ?_); (try (refine gate_guard (by rfl) ?_; dsimp only)); refine boxev 2 #[.slice A0_0 l0_0.length c0_0, .int .i64 a0_1, .int .i64 a0_2, .int .i64 a0_3, .slice A0_4 l0_4.length c0_4] 27 ?_; intro gb353 hg w4 hbox hb; have BK353 := ak (hbox); have GW353 := ak (hgl hg (belowd HB)); have GE353 := ak (hgl hg (belowd HB)); replace HB := ak (below_step (belowd HB) hb); clear hb hbox hg) | ((with_reducible refine gate_dst (N := 4) rfl ?_); (try (refine gate_guard (by rfl) ?_; dsimp only)); refine boxev 4 #[.slice none 0 0, .int .i64 0, .int .i64 0, .int .i64 0, .slice none 0 0] 27 ?_; intro gb354 hg w5 hbox hb; have BK354 := ak (hbox); have GW354 := ak (hgl hg (belowg1 HB GE353)); have GE354 := ak (hgl hg (belowg1 HB GE353)); replace HB := ak (below_step (belowg1 HB GE353) hb); have NB353_354 := ak ((by rw [hg]; exact Nat.ne_of_lt (blk_lt (blkd BK353)) : gb353 ≠ gb354)); have NB354_353 := ak ((by rw [hg]; exact Nat.ne_of_gt (blk_lt (blkd BK353)) : gb354 ≠ gb353)); replace BK353 := ak (blk_below (blkd BK353) hb); clear hb hbox hg))
 (try simp only [Act.put, List.setIfInBounds_toArray, List.set_cons_zero, List.set_cons_succ])
 go_cut [16] (fun v16 wc => ∃ (kq : Nat) (x16_2 : Bool), v16 = .bool x16_2 ∧ Aside0 (impl_PutMix.j0 kq a1 x16_2 l0_0 a0_1 a0_2 a0_3 l0_4 = some (r1, r2, r3, r4, r5, r6, r7)) ∧ Aside0 (kq ≤ k) ∧ Aside0 (wc.heap[gb353]? = some (.cells #[(.slice A0_0 l0_0.length c0_0), .int .i64 a0_1, .int .i64 a0_2, .int .i64 a0_3, (.slice A0_4 l0_4.length c0_4)] 27 (0, 0))) ∧ Aside0 (wc.heap[gb354]? = some (.cells #[(.slice none 0 0), .int .i64 0, .int .i64 0, .int .i64 0, (.slice none 0 0)] 27 (0, 0))) ∧ Aside0 (Below w.heap.size w wc))
 case first =>
  have H := HC3.out; clear HC3; replace H := bS H; obtain ⟨t355, A6, H⟩ := H
  replace H : (if t355 = true then ((impl_isLetter.f a1).bind fun t356 => (impl_PutMix.j0 k a1 (!t356) l0_0 a0_1 a0_2 a0_3 l0_4)) else (impl_PutMix.j0 k a1 true l0_0 a0_1 a0_2 a0_3 l0_4)) = some (r1, r2, r3, r4, r5, r6, r7) := H
  by_cases c7 : t355 = true
  ·subst c7
   have H1 : ((impl_isLetter.f a1).bind fun t356 => (impl_PutMix.j0 k a1 (!t356) l0_0 a0_1 a0_2 a0_3 l0_4)) = some (r1, r2, r3, r4, r5, r6, r7) := by rw [if_pos rfl] at H; exact H
   clear H
   have H := H1
   clear H1; replace H := bS H; obtain ⟨t356, A8, H⟩ := H
   replace H : (impl_PutMix.j0 k a1 (!t356) l0_0 a0_1 a0_2 a0_3 l0_4) = some (r1, r2, r3, r4, r5, r6, r7) := H
   have H' := Aside0.mk H
   clear H; have hnb9 := NB353_354.out; have hnc9 := NB354_353.out; obtain ⟨hcz10_0, hcz10_1, hcz10_2, hcz10_3, hcz10_4, hfz10_0, hfz10_1, hfz10_2, hfz10_3, hfz10_4⟩ := box5 BK353
   go_wp2_with (first | ((with_reducible refine gate_callee (f := 99) rfl ?_); refine goesLa (some 10) rfl Try.func99 #[.agg #[.slice A0_0 l0_0.length c0_0, .int .i64 a0_1, .int .i64 a0_2, .int .i64 a0_3, .slice A0_4 l0_4.length c0_4]] rfl ?_; (with_reducible refine (impl_GoodMix.calls k _ _ l0_0 a0_1 a0_2 a0_3 _ _ l0_4 true _ ?side1 ?side2 ?side3 ?side4 A6.out).mono ?_); (case side1 => exact cd (Kd.C_below HR0_0.out HB.out)); (case side2 => exact HC0_0.out); (case side3 => exact cd (Kd.C_below HR0_4.out HB.out)); (case side4 => exact HC0_4.out); rintro e w11 ⟨rfl, hb⟩; refine ⟨_, rfl, ?_⟩; replace BK353 := ak (blk_below (blkd BK353) hb); replace BK354 := ak (blk_below (blkd BK354) hb); replace HB := ak (below_step (belowg2 HB GE353 GE354) hb); (try clear hb)) | (go_at_call 100; (with_reducible refine (impl_isLetter.calls a1 t356 _ A8.out).mono ?_); rintro e w' ⟨rfl, ⟨nd, rfl⟩⟩))
   go_meet
   case rel => exact ⟨_, (!t356), er, H', ⟨by first | omega | exact Nat.le_refl _⟩, ⟨blkd BK353⟩, ⟨blkd BK354⟩, ⟨belowg2 HB GE353 GE354⟩⟩
  ·replace c7 := Bool.eq_false_iff.mpr c7
   subst c7
   have H1 : (impl_PutMix.j0 k a1 true l0_0 a0_1 a0_2 a0_3 l0_4) = some (r1, r2, r3, r4, r5, r6, r7) := by rw [if_neg (show ¬ (false = true) by decide)] at H; exact H
   clear H
   have H := H1
   clear H1
   have H' := Aside0.mk H
   clear H; have hnb12 := NB353_354.out; have hnc12 := NB354_353.out; obtain ⟨hcz13_0, hcz13_1, hcz13_2, hcz13_3, hcz13_4, hfz13_0, hfz13_1, hfz13_2, hfz13_3, hfz13_4⟩ := box5 BK353
   go_wp2_with (first | ((with_reducible refine gate_callee (f := 99) rfl ?_); refine goesLa (some 10) rfl Try.func99 #[.agg #[.slice A0_0 l0_0.length c0_0, .int .i64 a0_1, .int .i64 a0_2, .int .i64 a0_3, .slice A0_4 l0_4.length c0_4]] rfl ?_; (with_reducible refine (impl_GoodMix.calls k _ _ l0_0 a0_1 a0_2 a0_3 _ _ l0_4 false _ ?side1 ?side2 ?side3 ?side4 A6.out).mono ?_); (case side1 => exact cd (Kd.C_below HR0_0.out HB.out)); (case side2 => exact HC0_0.out); (case side3 => exact cd (Kd.C_below HR0_4.out HB.out)); (case side4 => exact HC0_4.out); rintro e w14 ⟨rfl, hb⟩; refine ⟨_, rfl, ?_⟩; replace BK353 := ak (blk_below (blkd BK353) hb); replace BK354 := ak (blk_below (blkd BK354) hb); replace HB := ak (below_step (belowg2 HB GE353 GE354) hb); (try clear hb)))
   go_meet
   case rel => exact ⟨_, (true), er, H', ⟨by first | omega | exact Nat.le_refl _⟩, ⟨blkd BK353⟩, ⟨blkd BK354⟩, ⟨belowg2 HB GE353 GE354⟩⟩
 case rest =>
  clear HC3
  obtain ⟨kq, x16_2, rfl, HA, HJ2, BK353, BK354, HB⟩ := hcut
  cases kq with
  | zero => exact absurd HA.out (by simp [impl_PutMix.j0])
  | succ kj2 =>
   have H := HA.out; clear HA
   simp only [impl_PutMix.j0] at H
   by_cases c15 : x16_2 = true
   ·subst c15
    have H1 : (some (([] : List ByteArray), 0, 0, 0, ([] : List Int), 0, false)) = some (r1, r2, r3, r4, r5, r6, r7) := by rw [if_pos rfl] at H; exact H
    clear H
    have H := H1
    clear H1
    simp only [Option.some.injEq, Prod.mk.injEq] at H
    obtain ⟨rfl, rfl, rfl, rfl, rfl, rfl, rfl⟩ := H; have hnb16 := NB354_353.out; have hnc16 := NB353_354.out; obtain ⟨hcz17_0, hcz17_1, hcz17_2, hcz17_3, hcz17_4, hfz17_0, hfz17_1, hfz17_2, hfz17_3, hfz17_4⟩ := box5 BK354; go_wp2
    refine bodyPost_ret (results_ctt rfl _ _ gb354 27 #[.slice none 0 0, .int .i64 0, .int .i64 0, .int .i64 0, .slice none 0 0] (0, 0) _ rfl (by (with_reducible repeat (first | refine blk_drewN ?_ _ | refine blk_drew ?_ | refine blk_alloc ?_ _)); refine blk_put (cs := #[.slice none 0 0, .int .i64 0, .int .i64 0, .int .i64 0, .slice none 0 0]) ?_ 4 _ rfl; (with_reducible repeat (first | refine blk_drewN ?_ _ | refine blk_drew ?_ | refine blk_alloc ?_ _)); refine blk_put (cs := #[.slice none 0 0, .int .i64 0, .int .i64 0, .int .i64 0, .slice none 0 0]) ?_ 3 _ rfl; (with_reducible repeat (first | refine blk_drewN ?_ _ | refine blk_drew ?_ | refine blk_alloc ?_ _)); refine blk_put (cs := #[.slice none 0 0, .int .i64 0, .int .i64 0, .int .i64 0, .slice none 0 0]) ?_ 2 _ rfl; (with_reducible repeat (first | refine blk_drewN ?_ _ | refine blk_drew ?_ | refine blk_alloc ?_ _)); refine blk_put (cs := #[.slice none 0 0, .int .i64 0, .int .i64 0, .int .i64 0, .slice none 0 0]) ?_ 1 _ rfl; (with_reducible repeat (first | refine blk_drewN ?_ _ | refine blk_drew ?_ | refine blk_alloc ?_ _)); refine blk_put (cs := #[.slice none 0 0, .int .i64 0, .int .i64 0, .int .i64 0, .slice none 0 0]) ?_ 0 _ rfl; (with_reducible repeat (first | refine blk_drewN ?_ _ | refine blk_drew ?_ | refine blk_alloc ?_ _)); exact BK354.out) Try.underlying27 rfl (by kernel_rfl)) rfl ?_
    exact ⟨_, _, er2, by first | exact Kd.R_nil _ _ _ _ _ | exact Kd.N_nil _ _ _ _ _ | exact Kd.V_nil _ _ _ _ _ | exact Kd.Q_nil _ _ _ _ _ | exact Kd.S_nil _ _ _ _ _, by first | exact Kd.R_nil _ _ _ _ _ | exact Kd.N_nil _ _ _ _ _ | exact Kd.V_nil _ _ _ _ _ | exact Kd.Q_nil _ _ _ _ _ | exact Kd.S_nil _ _ _ _ _, belowg2 HB GE353 GE354⟩
   ·replace c15 := Bool.eq_false_iff.mpr c15
    subst c15
    have H1 : ((impl_Mix_own.f l0_0 a0_1 a0_2 a0_3 l0_4).bind fun bt357 => ((impl_tag.f kj2 a1).bind fun t366 => ((slices_Contains_int_int.f kj2 l0_4 t366).bind fun t368 => (if t368 = true then (some (bt357.1, bt357.2.1, bt357.2.2.1, bt357.2.2.2.1, bt357.2.2.2.2, 1, true)) else (if (l0_0.length : Int) = 12 then (impl_PutMix.j1 kj2 a1 t366 true l0_0 a0_1 a0_2 a0_3 l0_4 bt357.1 bt357.2.1 bt357.2.2.1 bt357.2.2.2.1 bt357.2.2.2.2) else (impl_PutMix.j1 kj2 a1 t366 ((l0_4.length : Int) == 100) l0_0 a0_1 a0_2 a0_3 l0_4 bt357.1 bt357.2.1 bt357.2.2.1 bt357.2.2.2.1 bt357.2.2.2.2)))))) = some (r1, r2, r3, r4, r5, r6, r7) := by rw [if_neg (show ¬ (false = true) by decide)] at H; exact H
    clear H
    have H := H1
    clear H1; replace H := bS H; obtain ⟨⟨t357, t360, t361, t362, t363⟩, A18, H⟩ := H
    replace H : ((impl_tag.f kj2 a1).bind fun t366 => ((slices_Contains_int_int.f kj2 l0_4 t366).bind fun t368 => (if t368 = true then (some (t357, t360, t361, t362, t363, 1, true)) else (if (l0_0.length : Int) = 12 then (impl_PutMix.j1 kj2 a1 t366 true l0_0 a0_1 a0_2 a0_3 l0_4 t357 t360 t361 t362 t363) else (impl_PutMix.j1 kj2 a1 t366 ((l0_4.length : Int) == 100) l0_0 a0_1 a0_2 a0_3 l0_4 t357 t360 t361 t362 t363))))) = some (r1, r2, r3, r4, r5, r6, r7) := H
    replace H := bS H; obtain ⟨t366, A19, H⟩ := H
    replace H : ((slices_Contains_int_int.f kj2 l0_4 t366).bind fun t368 => (if t368 = true then (some (t357, t360, t361, t362, t363, 1, true)) else (if (l0_0.length : Int) = 12 then (impl_PutMix.j1 kj2 a1 t366 true l0_0 a0_1 a0_2 a0_3 l0_4 t357 t360 t361 t362 t363) else (impl_PutMix.j1 kj2 a1 t366 ((l0_4.length : Int) == 100) l0_0 a0_1 a0_2 a0_3 l0_4 t357 t360 t361 t362 t363)))) = some (r1, r2, r3, r4, r5, r6, r7) := H
    replace H := bS H; obtain ⟨t368, A20, H⟩ := H
    replace H : (if t368 = true then (some (t357, t360, t361, t362, t363, 1, true)) else (if (l0_0.length : Int) = 12 then (impl_PutMix.j1 kj2 a1 t366 true l0_0 a0_1 a0_2 a0_3 l0_4 t357 t360 t361 t362 t363) else (impl_PutMix.j1 kj2 a1 t366 ((l0_4.length : Int) == 100) l0_0 a0_1 a0_2 a0_3 l0_4 t357 t360 t361 t362 t363))) = some (r1, r2, r3, r4, r5, r6, r7) := H
    by_cases c21 : t368 = true
    ·subst c21
     have H1 : (some (t357, t360, t361, t362, t363, 1, true)) = some (r1, r2, r3, r4, r5, r6, r7) := by rw [if_pos rfl] at H; exact H
     clear H
     have H := H1
     clear H1
     simp only [Option.some.injEq, Prod.mk.injEq] at H
     obtain ⟨rfl, rfl, rfl, rfl, rfl, rfl, rfl⟩ := H; have hnb22 := NB353_354.out; have hnc22 := NB354_353.out; obtain ⟨hcz23_0, hcz23_1, hcz23_2, hcz23_3, hcz23_4, hfz23_0, hfz23_1, hfz23_2, hfz23_3, hfz23_4⟩ := box5 BK353
     go_wp2_with (first | ((with_reducible refine gate_callee (f := 101) rfl ?_); refine goesLa (some 19) rfl Try.func101 #[.agg #[.slice A0_0 l0_0.length c0_0, .int .i64 a0_1, .int .i64 a0_2, .int .i64 a0_3, .slice A0_4 l0_4.length c0_4]] rfl ?_; (with_reducible refine (impl_Mix_own.calls _ _ l0_0 a0_1 a0_2 a0_3 _ _ l0_4 t357 t360 t361 t362 t363 _ ?side1 ?side2 ?side3 ?side4 A18.out).mono ?_); (case side1 => exact cd (Kd.C_below HR0_0.out HB.out)); (case side2 => exact HC0_0.out); (case side3 => exact cd (Kd.C_below HR0_4.out HB.out)); (case side4 => exact HC0_4.out); rintro e w24 ⟨v358, v364, rfl, ho0, ho1, hb⟩; refine ⟨_, rfl, ?_⟩; have HO359 := ak (Kd.R_lower ho0 (below_size (belowg2 HB GE353 GE354))); have HO365 := ak (Kd.R_lower ho1 (below_size (belowg2 HB GE353 GE354))); replace BK353 := ak (blk_below (blkd BK353) hb); replace BK354 := ak (blk_below (blkd BK354) hb); replace HB := ak (below_step (belowg2 HB GE353 GE354) hb); (try clear hb); (try clear ho0); (try clear ho1)) | ((with_reducible refine gate_callee (f := 102) rfl ?_); refine goesLa (some 21) rfl Try.func102 #[.string a1] rfl ?_; (with_reducible refine (impl_tag.calls kj2 a1 t366 _ A19.out).mono ?_); rintro e w' ⟨rfl, ⟨nd, rfl⟩⟩; refine ⟨_, rfl, ?_⟩; (try (rw [drewN_self w24]; generalize hq_ : World.drewN w24 _ = w24; have n0_ : Aside0 (Kd.R Kd.string 9 w24 w.heap.size (fun _ => True) v358 t357) := ⟨by rw [← hq_]; exact (rdl HO359)⟩; have n1_ : Aside0 (Kd.R (Kd.int .i64) 3 w24 w.heap.size (fun _ => True) v364 t363) := ⟨by rw [← hq_]; exact (rdl HO365)⟩; have n2_ : Aside0 (w24.heap[gb353]? = some (.cells #[.slice A0_0 l0_0.length c0_0, .int .i64 a0_1, .int .i64 a0_2, .int .i64 a0_3, .slice A0_4 l0_4.length c0_4] 27 (0, 0))) := ⟨by rw [← hq_]; exact (blkd BK353)⟩; have n3_ : Aside0 (w24.heap[gb354]? = some (.cells #[.slice none 0 0, .int .i64 0, .int .i64 0, .int .i64 0, .slice none 0 0] 27 (0, 0))) := ⟨by rw [← hq_]; exact (blkd BK354)⟩; have n4_ : Aside0 (Below w.heap.size w w24) := ⟨by rw [← hq_]; exact (belowg2 HB GE353 GE354)⟩; clear HO359 HO365 BK353 BK354 HB hq_; have HO359 := n0_; have HO365 := n1_; have BK353 := n2_; have BK354 := n3_; have HB := n4_; clear n0_ n1_ n2_ n3_ n4_))) | ((with_reducible refine gate_dst (N := 7) rfl ?_); (try (refine gate_guard (by rfl) ?_; dsimp only)); refine boxev 7 #[.slice none 0 0, .int .i64 0, .int .i64 0, .int .i64 0, .slice none 0 0] 27 ?_; intro gb367 hg w25 hbox hb; replace HO359 := ak (Kd.R_below (rdl HO359) hb); replace HO365 := ak (Kd.R_below (rdl HO365) hb); have BK367 := ak (hbox); have GW367 := ak (hgl hg (belowg2 HB GE353 GE354)); have GE367 := ak (hgl hg (belowg2 HB GE353 GE354)); replace HB := ak (below_step (belowg2 HB GE353 GE354) hb); have NB353_367 := ak ((by rw [hg]; exact Nat.ne_of_lt (blk_lt (blkd BK353)) : gb353 ≠ gb367)); have NB367_353 := ak ((by rw [hg]; exact Nat.ne_of_gt (blk_lt (blkd BK353)) : gb367 ≠ gb353)); replace BK353 := ak (blk_below (blkd BK353) hb); have NB354_367 := ak ((by rw [hg]; exact Nat.ne_of_lt (blk_lt (blkd BK354)) : gb354 ≠ gb367)); have NB367_354 := ak ((by rw [hg]; exact Nat.ne_of_gt (blk_lt (blkd BK354)) : gb367 ≠ gb354)); replace BK354 := ak (blk_below (blkd BK354) hb); clear hb hbox hg; obtain ⟨Ao26, co26, eo26⟩ := Kd.R_slice HO359.out; subst eo26; have hnb27 := NB367_353.out; have hnc27 := NB353_367.out; have hnb28 := NB367_354.out; have hnc28 := NB354_367.out; obtain ⟨hcz29_0, hcz29_1, hcz29_2, hcz29_3, hcz29_4, hfz29_0, hfz29_1, hfz29_2, hfz29_3, hfz29_4⟩ := box5 BK367; obtain ⟨Ao30, co30, eo30⟩ := Kd.R_slice HO365.out; subst eo30; obtain ⟨hcz31_0, hcz31_1, hcz31_2, hcz31_3, hcz31_4, hfz31_0, hfz31_1, hfz31_2, hfz31_3, hfz31_4⟩ := box5 BK353) | ((with_reducible refine gate_callee (f := 103) rfl ?_); refine goesLa (some 26) rfl Try.func103 #[.slice A0_4 l0_4.length c0_4, .int .i64 t366] rfl ?_; (with_reducible refine (slices_Contains_int_int.calls kj2 _ _ l0_4 t366 true _ ?side1 ?side2 A20.out).mono ?_); (case side1 => exact Kd.C_below HR0_4.out (belowg3 HB GE353 GE354 GE367)); (case side2 => exact HC0_4.out); rintro e w' ⟨rfl, ⟨nd, rfl⟩⟩; refine ⟨_, rfl, ?_⟩; obtain ⟨hcz32_0, hcz32_1, hcz32_2, hcz32_3, hcz32_4, hfz32_0, hfz32_1, hfz32_2, hfz32_3, hfz32_4⟩ := box5 BK354))
     refine bodyPost_ret (results_ctt rfl _ _ gb354 27 #[.slice Ao26 t357.length co26, .int .i64 t360, .int .i64 t361, .int .i64 t362, .slice Ao30 t363.length co30] (0, 0) _ rfl (by (with_reducible repeat (first | refine blk_drewN ?_ _ | refine blk_drew ?_ | refine blk_alloc ?_ _)); refine blk_put (cs := #[.slice Ao26 t357.length co26, .int .i64 t360, .int .i64 t361, .int .i64 t362, .slice none 0 0]) ?_ 4 _ rfl; (with_reducible repeat (first | refine blk_drewN ?_ _ | refine blk_drew ?_ | refine blk_alloc ?_ _)); refine blk_put (cs := #[.slice Ao26 t357.length co26, .int .i64 t360, .int .i64 t361, .int .i64 0, .slice none 0 0]) ?_ 3 _ rfl; (with_reducible repeat (first | refine blk_drewN ?_ _ | refine blk_drew ?_ | refine blk_alloc ?_ _)); refine blk_put (cs := #[.slice Ao26 t357.length co26, .int .i64 t360, .int .i64 0, .int .i64 0, .slice none 0 0]) ?_ 2 _ rfl; (with_reducible repeat (first | refine blk_drewN ?_ _ | refine blk_drew ?_ | refine blk_alloc ?_ _)); refine blk_put (cs := #[.slice Ao26 t357.length co26, .int .i64 0, .int .i64 0, .int .i64 0, .slice none 0 0]) ?_ 1 _ rfl; (with_reducible repeat (first | refine blk_drewN ?_ _ | refine blk_drew ?_ | refine blk_alloc ?_ _)); refine blk_put (cs := #[.slice none 0 0, .int .i64 0, .int .i64 0, .int .i64 0, .slice none 0 0]) ?_ 0 _ rfl; (with_reducible repeat (first | refine blk_drewN ?_ _ | refine blk_drew ?_ | refine blk_alloc ?_ _)); refine blk_far ?_ NB354_367.out _; (with_reducible repeat (first | refine blk_drewN ?_ _ | refine blk_drew ?_ | refine blk_alloc ?_ _)); refine blk_far ?_ NB354_367.out _; (with_reducible repeat (first | refine blk_drewN ?_ _ | refine blk_drew ?_ | refine blk_alloc ?_ _)); refine blk_far ?_ NB354_367.out _; (with_reducible repeat (first | refine blk_drewN ?_ _ | refine blk_drew ?_ | refine blk_alloc ?_ _)); refine blk_far ?_ NB354_367.out _; (with_reducible repeat (first | refine blk_drewN ?_ _ | refine blk_drew ?_ | refine blk_alloc ?_ _)); refine blk_far ?_ NB354_367.out _; (with_reducible repeat (first | refine blk_drewN ?_ _ | refine blk_drew ?_ | refine blk_alloc ?_ _)); exact BK354.out) Try.underlying27 rfl (by kernel_rfl)) rfl ?_
     exact ⟨_, _, er2, by (with_reducible repeat (first | apply Kd.R_alloc | apply Kd.R_drewN | apply Kd.R_drew)); exact Kd.R_mono (farsR (Kd.R_types (Kd.R_types HO359.out BK367.out (by decide)) BK354.out (by decide))) (fun _ hk => trivial), by (with_reducible repeat (first | apply Kd.R_alloc | apply Kd.R_drewN | apply Kd.R_drew)); exact Kd.R_mono (farsR (Kd.R_types (Kd.R_types HO365.out BK367.out (by decide)) BK354.out (by decide))) (fun _ hk => trivial), belowg3 HB GE353 GE354 GE367⟩
    ·replace c21 := Bool.eq_false_iff.mpr c21
     subst c21
     have H1 : (if (l0_0.length : Int) = 12 then (impl_PutMix.j1 kj2 a1 t366 true l0_0 a0_1 a0_2 a0_3 l0_4 t357 t360 t361 t362 t363) else (impl_PutMix.j1 kj2 a1 t366 ((l0_4.length : Int) == 100) l0_0 a0_1 a0_2 a0_3 l0_4 t357 t360 t361 t362 t363)) = some (r1, r2, r3, r4, r5, r6, r7) := by rw [if_neg (show ¬ (false = true) by decide)] at H; exact H
     clear H
     have H := H1
     clear H1; have HC33 := Aside0.mk H; clear H; have hnb34 := NB353_354.out; have hnc34 := NB354_353.out; obtain ⟨hcz35_0, hcz35_1, hcz35_2, hcz35_3, hcz35_4, hfz35_0, hfz35_1, hfz35_2, hfz35_3, hfz35_4⟩ := box5 BK353
     go_upto_region 6 with (first | ((with_reducible refine gate_callee (f := 101) rfl ?_); refine goesLa (some 19) rfl Try.func101 #[.agg #[.slice A0_0 l0_0.length c0_0, .int .i64 a0_1, .int .i64 a0_2, .int .i64 a0_3, .slice A0_4 l0_4.length c0_4]] rfl ?_; (with_reducible refine (impl_Mix_own.calls _ _ l0_0 a0_1 a0_2 a0_3 _ _ l0_4 t357 t360 t361 t362 t363 _ ?side1 ?side2 ?side3 ?side4 A18.out).mono ?_); (case side1 => exact cd (Kd.C_below HR0_0.out HB.out)); (case side2 => exact HC0_0.out); (case side3 => exact cd (Kd.C_below HR0_4.out HB.out)); (case side4 => exact HC0_4.out); rintro e w36 ⟨v358, v364, rfl, ho0, ho1, hb⟩; refine ⟨_, rfl, ?_⟩; have HO359 := ak (Kd.R_lower ho0 (below_size (belowg2 HB GE353 GE354))); have HO365 := ak (Kd.R_lower ho1 (below_size (belowg2 HB GE353 GE354))); replace BK353 := ak (blk_below (blkd BK353) hb); replace BK354 := ak (blk_below (blkd BK354) hb); replace HB := ak (below_step (belowg2 HB GE353 GE354) hb); (try clear hb); (try clear ho0); (try clear ho1)) | ((with_reducible refine gate_callee (f := 102) rfl ?_); refine goesLa (some 21) rfl Try.func102 #[.string a1] rfl ?_; (with_reducible refine (impl_tag.calls kj2 a1 t366 _ A19.out).mono ?_); rintro e w' ⟨rfl, ⟨nd, rfl⟩⟩; refine ⟨_, rfl, ?_⟩; (try (rw [drewN_self w36]; generalize hq_ : World.drewN w36 _ = w36; have n0_ : Aside0 (Kd.R Kd.string 9 w36 w.heap.size (fun _ => True) v358 t357) := ⟨by rw [← hq_]; exact (rdl HO359)⟩; have n1_ : Aside0 (Kd.R (Kd.int .i64) 3 w36 w.heap.size (fun _ => True) v364 t363) := ⟨by rw [← hq_]; exact (rdl HO365)⟩; have n2_ : Aside0 (w36.heap[gb353]? = some (.cells #[.slice A0_0 l0_0.length c0_0, .int .i64 a0_1, .int .i64 a0_2, .int .i64 a0_3, .slice A0_4 l0_4.length c0_4] 27 (0, 0))) := ⟨by rw [← hq_]; exact (blkd BK353)⟩; have n3_ : Aside0 (w36.heap[gb354]? = some (.cells #[.slice none 0 0, .int .i64 0, .int .i64 0, .int .i64 0, .slice none 0 0] 27 (0, 0))) := ⟨by rw [← hq_]; exact (blkd BK354)⟩; have n4_ : Aside0 (Below w.heap.size w w36) := ⟨by rw [← hq_]; exact (belowg2 HB GE353 GE354)⟩; clear HO359 HO365 BK353 BK354 HB hq_; have HO359 := n0_; have HO365 := n1_; have BK353 := n2_; have BK354 := n3_; have HB := n4_; clear n0_ n1_ n2_ n3_ n4_))) | ((with_reducible refine gate_dst (N := 7) rfl ?_); (try (refine gate_guard (by rfl) ?_; dsimp only)); refine boxev 7 #[.slice none 0 0, .int .i64 0, .int .i64 0, .int .i64 0, .slice none 0 0] 27 ?_; intro gb367 hg w37 hbox hb; replace HO359 := ak (Kd.R_below (rdl HO359) hb); replace HO365 := ak (Kd.R_below (rdl HO365) hb); have BK367 := ak (hbox); have GW367 := ak (hgl hg (belowg2 HB GE353 GE354)); have GE367 := ak (hgl hg (belowg2 HB GE353 GE354)); replace HB := ak (below_step (belowg2 HB GE353 GE354) hb); have NB353_367 := ak ((by rw [hg]; exact Nat.ne_of_lt (blk_lt (blkd BK353)) : gb353 ≠ gb367)); have NB367_353 := ak ((by rw [hg]; exact Nat.ne_of_gt (blk_lt (blkd BK353)) : gb367 ≠ gb353)); replace BK353 := ak (blk_below (blkd BK353) hb); have NB354_367 := ak ((by rw [hg]; exact Nat.ne_of_lt (blk_lt (blkd BK354)) : gb354 ≠ gb367)); have NB367_354 := ak ((by rw [hg]; exact Nat.ne_of_gt (blk_lt (blkd BK354)) : gb367 ≠ gb354)); replace BK354 := ak (blk_below (blkd BK354) hb); clear hb hbox hg; obtain ⟨Ao38, co38, eo38⟩ := Kd.R_slice HO359.out; subst eo38; have hnb39 := NB367_353.out; have hnc39 := NB353_367.out; have hnb40 := NB367_354.out; have hnc40 := NB354_367.out; obtain ⟨hcz41_0, hcz41_1, hcz41_2, hcz41_3, hcz41_4, hfz41_0, hfz41_1, hfz41_2, hfz41_3, hfz41_4⟩ := box5 BK367; obtain ⟨Ao42, co42, eo42⟩ := Kd.R_slice HO365.out; subst eo42; obtain ⟨hcz43_0, hcz43_1, hcz43_2, hcz43_3, hcz43_4, hfz43_0, hfz43_1, hfz43_2, hfz43_3, hfz43_4⟩ := box5 BK353) | ((with_reducible refine gate_callee (f := 103) rfl ?_); refine goesLa (some 26) rfl Try.func103 #[.slice A0_4 l0_4.length c0_4, .int .i64 t366] rfl ?_; (with_reducible refine (slices_Contains_int_int.calls kj2 _ _ l0_4 t366 false _ ?side1 ?side2 A20.out).mono ?_); (case side1 => exact Kd.C_below HR0_4.out (belowg3 HB GE353 GE354 GE367)); (case side2 => exact HC0_4.out); rintro e w' ⟨rfl, ⟨nd, rfl⟩⟩; refine ⟨_, rfl, ?_⟩))
     (try simp only [Act.put, List.setIfInBounds_toArray, List.set_cons_zero, List.set_cons_succ])
     go_cut [28] (fun v28 wc => ∃ (kq : Nat) (x28_32 : Bool), v28 = .bool x28_32 ∧ Aside0 (impl_PutMix.j1 kq a1 t366 x28_32 l0_0 a0_1 a0_2 a0_3 l0_4 t357 t360 t361 t362 t363 = some (r1, r2, r3, r4, r5, r6, r7)) ∧ Aside0 (kq ≤ kj2) ∧ Aside0 (Kd.R Kd.string 9 wc w.heap.size (fun _ => True) (.slice Ao38 t357.length co38) t357) ∧ Aside0 (Kd.R (Kd.int .i64) 3 wc w.heap.size (fun _ => True) (.slice Ao42 t363.length co42) t363) ∧ Aside0 (wc.heap[gb353]? = some (.cells #[(.slice A0_0 l0_0.length c0_0), .int .i64 a0_1, .int .i64 a0_2, .int .i64 a0_3, (.slice A0_4 l0_4.length c0_4)] 27 (0, 0))) ∧ Aside0 (wc.heap[gb354]? = some (.cells #[(.slice none 0 0), .int .i64 0, .int .i64 0, .int .i64 0, (.slice none 0 0)] 27 (0, 0))) ∧ Aside0 (wc.heap[gb367]? = some (.cells #[(.slice Ao38 t357.length co38), .int .i64 t360, .int .i64 t361, .int .i64 t362, (.slice Ao42 t363.length co42)] 27 (0, 0))) ∧ Aside0 (Below w.heap.size w wc))
     case first =>
      have H := HC33.out; clear HC33
      by_cases c44 : (l0_0.length : Int) = 12
      ·rw [if_pos c44] at H
       have c44b0 : ((l0_0.length : Int) == 12) = true := beq_iff_eq.mpr c44
       have c44b1 : ((l0_0.length : Int) != 12) = false := bne_eq_false_iff_eq.mpr c44
       clear c44
       (first | rw [c44b0] | (simp only [i64_w, i32_w]; rw [c44b0]) | skip)
       have H' := Aside0.mk H
       clear H; have hnb45 := NB353_354.out; have hnc45 := NB354_353.out; have hnb46 := NB353_367.out; have hnc46 := NB367_353.out; obtain ⟨hcz47_0, hcz47_1, hcz47_2, hcz47_3, hcz47_4, hfz47_0, hfz47_1, hfz47_2, hfz47_3, hfz47_4⟩ := box5 BK353; go_wp2
       go_meet
       case rel => exact ⟨_, (true), er, H', ⟨by have := HJ2.out; first | omega | exact Nat.le_refl _⟩, ⟨by (with_reducible repeat (first | apply Kd.R_alloc | apply Kd.R_drewN | apply Kd.R_drew)); exact Kd.R_mono (farsR (Kd.R_types HO359.out BK367.out (by decide))) (fun _ hk => trivial)⟩, ⟨by (with_reducible repeat (first | apply Kd.R_alloc | apply Kd.R_drewN | apply Kd.R_drew)); exact Kd.R_mono (farsR (Kd.R_types HO365.out BK367.out (by decide))) (fun _ hk => trivial)⟩, ⟨by (with_reducible repeat (first | refine blk_drewN ?_ _ | refine blk_drew ?_ | refine blk_alloc ?_ _)); refine blk_far ?_ NB353_367.out _; (with_reducible repeat (first | refine blk_drewN ?_ _ | refine blk_drew ?_ | refine blk_alloc ?_ _)); refine blk_far ?_ NB353_367.out _; (with_reducible repeat (first | refine blk_drewN ?_ _ | refine blk_drew ?_ | refine blk_alloc ?_ _)); refine blk_far ?_ NB353_367.out _; (with_reducible repeat (first | refine blk_drewN ?_ _ | refine blk_drew ?_ | refine blk_alloc ?_ _)); refine blk_far ?_ NB353_367.out _; (with_reducible repeat (first | refine blk_drewN ?_ _ | refine blk_drew ?_ | refine blk_alloc ?_ _)); refine blk_far ?_ NB353_367.out _; (with_reducible repeat (first | refine blk_drewN ?_ _ | refine blk_drew ?_ | refine blk_alloc ?_ _)); exact BK353.out⟩, ⟨by (with_reducible repeat (first | refine blk_drewN ?_ _ | refine blk_drew ?_ | refine blk_alloc ?_ _)); refine blk_far ?_ NB354_367.out _; (with_reducible repeat (first | refine blk_drewN ?_ _ | refine blk_drew ?_ | refine blk_alloc ?_ _)); refine blk_far ?_ NB354_367.out _; (with_reducible repeat (first | refine blk_drewN ?_ _ | refine blk_drew ?_ | refine blk_alloc ?_ _)); refine blk_far ?_ NB354_367.out _; (with_reducible repeat (first | refine blk_drewN ?_ _ | refine blk_drew ?_ | refine blk_alloc ?_ _)); refine blk_far ?_ NB354_367.out _; (with_reducible repeat (first | refine blk_drewN ?_ _ | refine blk_drew ?_ | refine blk_alloc ?_ _)); refine blk_far ?_ NB354_367.out _; (with_reducible repeat (first | refine blk_drewN ?_ _ | refine blk_drew ?_ | refine blk_alloc ?_ _)); exact BK354.out⟩, ⟨by (with_reducible repeat (first | refine blk_drewN ?_ _ | refine blk_drew ?_ | refine blk_alloc ?_ _)); refine blk_put (cs := #[.slice Ao38 t357.length co38, .int .i64 t360, .int .i64 t361, .int .i64 t362, .slice none 0 0]) ?_ 4 _ rfl; (with_reducible repeat (first | refine blk_drewN ?_ _ | refine blk_drew ?_ | refine blk_alloc ?_ _)); refine blk_put (cs := #[.slice Ao38 t357.length co38, .int .i64 t360, .int .i64 t361, .int .i64 0, .slice none 0 0]) ?_ 3 _ rfl; (with_reducible repeat (first | refine blk_drewN ?_ _ | refine blk_drew ?_ | refine blk_alloc ?_ _)); refine blk_put (cs := #[.slice Ao38 t357.length co38, .int .i64 t360, .int .i64 0, .int .i64 0, .slice none 0 0]) ?_ 2 _ rfl; (with_reducible repeat (first | refine blk_drewN ?_ _ | refine blk_drew ?_ | refine blk_alloc ?_ _)); refine blk_put (cs := #[.slice Ao38 t357.length co38, .int .i64 0, .int .i64 0, .int .i64 0, .slice none 0 0]) ?_ 1 _ rfl; (with_reducible repeat (first | refine blk_drewN ?_ _ | refine blk_drew ?_ | refine blk_alloc ?_ _)); refine blk_put (cs := #[.slice none 0 0, .int .i64 0, .int .i64 0, .int .i64 0, .slice none 0 0]) ?_ 0 _ rfl; (with_reducible repeat (first | refine blk_drewN ?_ _ | refine blk_drew ?_ | refine blk_alloc ?_ _)); exact BK367.out⟩, ⟨belowg3 HB GE353 GE354 GE367⟩⟩
      ·rw [if_neg c44] at H
       have c44b0 : ((l0_0.length : Int) == 12) = false := beq_eq_false_iff_ne.mpr c44
       have c44b1 : ((l0_0.length : Int) != 12) = true := bne_iff_ne.mpr c44
       (first | rw [c44b0] | (simp only [i64_w, i32_w]; rw [c44b0]) | skip)
       have H' := Aside0.mk H
       clear H; have hnb48 := NB353_354.out; have hnc48 := NB354_353.out; have hnb49 := NB353_367.out; have hnc49 := NB367_353.out; obtain ⟨hcz50_0, hcz50_1, hcz50_2, hcz50_3, hcz50_4, hfz50_0, hfz50_1, hfz50_2, hfz50_3, hfz50_4⟩ := box5 BK353; go_wp2
       go_meet
       case rel => exact ⟨_, (((l0_4.length : Int) == 100)), er, H', ⟨by have := HJ2.out; first | omega | exact Nat.le_refl _⟩, ⟨by (with_reducible repeat (first | apply Kd.R_alloc | apply Kd.R_drewN | apply Kd.R_drew)); exact Kd.R_mono (farsR (Kd.R_types HO359.out BK367.out (by decide))) (fun _ hk => trivial)⟩, ⟨by (with_reducible repeat (first | apply Kd.R_alloc | apply Kd.R_drewN | apply Kd.R_drew)); exact Kd.R_mono (farsR (Kd.R_types HO365.out BK367.out (by decide))) (fun _ hk => trivial)⟩, ⟨by (with_reducible repeat (first | refine blk_drewN ?_ _ | refine blk_drew ?_ | refine blk_alloc ?_ _)); refine blk_far ?_ NB353_367.out _; (with_reducible repeat (first | refine blk_drewN ?_ _ | refine blk_drew ?_ | refine blk_alloc ?_ _)); refine blk_far ?_ NB353_367.out _; (with_reducible repeat (first | refine blk_drewN ?_ _ | refine blk_drew ?_ | refine blk_alloc ?_ _)); refine blk_far ?_ NB353_367.out _; (with_reducible repeat (first | refine blk_drewN ?_ _ | refine blk_drew ?_ | refine blk_alloc ?_ _)); refine blk_far ?_ NB353_367.out _; (with_reducible repeat (first | refine blk_drewN ?_ _ | refine blk_drew ?_ | refine blk_alloc ?_ _)); refine blk_far ?_ NB353_367.out _; (with_reducible repeat (first | refine blk_drewN ?_ _ | refine blk_drew ?_ | refine blk_alloc ?_ _)); exact BK353.out⟩, ⟨by (with_reducible repeat (first | refine blk_drewN ?_ _ | refine blk_drew ?_ | refine blk_alloc ?_ _)); refine blk_far ?_ NB354_367.out _; (with_reducible repeat (first | refine blk_drewN ?_ _ | refine blk_drew ?_ | refine blk_alloc ?_ _)); refine blk_far ?_ NB354_367.out _; (with_reducible repeat (first | refine blk_drewN ?_ _ | refine blk_drew ?_ | refine blk_alloc ?_ _)); refine blk_far ?_ NB354_367.out _; (with_reducible repeat (first | refine blk_drewN ?_ _ | refine blk_drew ?_ | refine blk_alloc ?_ _)); refine blk_far ?_ NB354_367.out _; (with_reducible repeat (first | refine blk_drewN ?_ _ | refine blk_drew ?_ | refine blk_alloc ?_ _)); refine blk_far ?_ NB354_367.out _; (with_reducible repeat (first | refine blk_drewN ?_ _ | refine blk_drew ?_ | refine blk_alloc ?_ _)); exact BK354.out⟩, ⟨by (with_reducible repeat (first | refine blk_drewN ?_ _ | refine blk_drew ?_ | refine blk_alloc ?_ _)); refine blk_put (cs := #[.slice Ao38 t357.length co38, .int .i64 t360, .int .i64 t361, .int .i64 t362, .slice none 0 0]) ?_ 4 _ rfl; (with_reducible repeat (first | refine blk_drewN ?_ _ | refine blk_drew ?_ | refine blk_alloc ?_ _)); refine blk_put (cs := #[.slice Ao38 t357.length co38, .int .i64 t360, .int .i64 t361, .int .i64 0, .slice none 0 0]) ?_ 3 _ rfl; (with_reducible repeat (first | refine blk_drewN ?_ _ | refine blk_drew ?_ | refine blk_alloc ?_ _)); refine blk_put (cs := #[.slice Ao38 t357.length co38, .int .i64 t360, .int .i64 0, .int .i64 0, .slice none 0 0]) ?_ 2 _ rfl; (with_reducible repeat (first | refine blk_drewN ?_ _ | refine blk_drew ?_ | refine blk_alloc ?_ _)); refine blk_put (cs := #[.slice Ao38 t357.length co38, .int .i64 0, .int .i64 0, .int .i64 0, .slice none 0 0]) ?_ 1 _ rfl; (with_reducible repeat (first | refine blk_drewN ?_ _ | refine blk_drew ?_ | refine blk_alloc ?_ _)); refine blk_put (cs := #[.slice none 0 0, .int .i64 0, .int .i64 0, .int .i64 0, .slice none 0 0]) ?_ 0 _ rfl; (with_reducible repeat (first | refine blk_drewN ?_ _ | refine blk_drew ?_ | refine blk_alloc ?_ _)); exact BK367.out⟩, ⟨belowg3 HB GE353 GE354 GE367⟩⟩
     case rest =>
      clear HC33; (try clear c15); (try clear c21); (try clear hcz35_0); (try clear hcz35_1); (try clear hcz35_2); (try clear hcz35_3); (try clear hcz35_4); (try clear hcz41_0); (try clear hcz41_1); (try clear hcz41_2); (try clear hcz41_3); (try clear hcz41_4); (try clear hcz43_0); (try clear hcz43_1); (try clear hcz43_2); (try clear hcz43_3); (try clear hcz43_4); (try clear hfz35_0); (try clear hfz35_1); (try clear hfz35_2); (try clear hfz35_3); (try clear hfz35_4); (try clear hfz41_0); (try clear hfz41_1); (try clear hfz41_2); (try clear hfz41_3); (try clear hfz41_4); (try clear hfz43_0); (try clear hfz43_1); (try clear hfz43_2); (try clear hfz43_3); (try clear hfz43_4)
      obtain ⟨kq, x28_32, rfl, HA, HJ32, HO_368000, HO_368004, BK353, BK354, BK367, HB⟩ := hcut
      cases kq with
      | zero => exact absurd HA.out (by simp [impl_PutMix.j1])
      | succ kj32 =>
       have H := HA.out; clear HA
       simp only [impl_PutMix.j1] at H
       by_cases c51 : x28_32 = true
       ·subst c51
        have H1 : (some (t357, t360, t361, t362, t363, 2, true)) = some (r1, r2, r3, r4, r5, r6, r7) := by rw [if_pos rfl] at H; exact H
        clear H
        have H := H1
        clear H1
        simp only [Option.some.injEq, Prod.mk.injEq] at H
        obtain ⟨rfl, rfl, rfl, rfl, rfl, rfl, rfl⟩ := H; have hnb52 := NB367_353.out; have hnc52 := NB353_367.out; have hnb53 := NB367_354.out; have hnc53 := NB354_367.out; obtain ⟨hcz54_0, hcz54_1, hcz54_2, hcz54_3, hcz54_4, hfz54_0, hfz54_1, hfz54_2, hfz54_3, hfz54_4⟩ := box5 BK367; have hnb55 := NB354_353.out; have hnc55 := NB353_354.out; obtain ⟨hcz56_0, hcz56_1, hcz56_2, hcz56_3, hcz56_4, hfz56_0, hfz56_1, hfz56_2, hfz56_3, hfz56_4⟩ := box5 BK354; go_wp2
        refine bodyPost_ret (results_ctt rfl _ _ gb354 27 #[.slice Ao38 t357.length co38, .int .i64 t360, .int .i64 t361, .int .i64 t362, .slice Ao42 t363.length co42] (0, 0) _ rfl (by (with_reducible repeat (first | refine blk_drewN ?_ _ | refine blk_drew ?_ | refine blk_alloc ?_ _)); refine blk_put (cs := #[.slice Ao38 t357.length co38, .int .i64 t360, .int .i64 t361, .int .i64 t362, .slice none 0 0]) ?_ 4 _ rfl; (with_reducible repeat (first | refine blk_drewN ?_ _ | refine blk_drew ?_ | refine blk_alloc ?_ _)); refine blk_put (cs := #[.slice Ao38 t357.length co38, .int .i64 t360, .int .i64 t361, .int .i64 0, .slice none 0 0]) ?_ 3 _ rfl; (with_reducible repeat (first | refine blk_drewN ?_ _ | refine blk_drew ?_ | refine blk_alloc ?_ _)); refine blk_put (cs := #[.slice Ao38 t357.length co38, .int .i64 t360, .int .i64 0, .int .i64 0, .slice none 0 0]) ?_ 2 _ rfl; (with_reducible repeat (first | refine blk_drewN ?_ _ | refine blk_drew ?_ | refine blk_alloc ?_ _)); refine blk_put (cs := #[.slice Ao38 t357.length co38, .int .i64 0, .int .i64 0, .int .i64 0, .slice none 0 0]) ?_ 1 _ rfl; (with_reducible repeat (first | refine blk_drewN ?_ _ | refine blk_drew ?_ | refine blk_alloc ?_ _)); refine blk_put (cs := #[.slice none 0 0, .int .i64 0, .int .i64 0, .int .i64 0, .slice none 0 0]) ?_ 0 _ rfl; (with_reducible repeat (first | refine blk_drewN ?_ _ | refine blk_drew ?_ | refine blk_alloc ?_ _)); exact BK354.out) Try.underlying27 rfl (by kernel_rfl)) rfl ?_
        exact ⟨_, _, er2, by (with_reducible repeat (first | apply Kd.R_alloc | apply Kd.R_drewN | apply Kd.R_drew)); exact Kd.R_mono (farsR (Kd.R_types HO_368000.out BK354.out (by decide))) (fun _ hk => trivial), by (with_reducible repeat (first | apply Kd.R_alloc | apply Kd.R_drewN | apply Kd.R_drew)); exact Kd.R_mono (farsR (Kd.R_types HO_368004.out BK354.out (by decide))) (fun _ hk => trivial), belowg3 HB GE353 GE354 GE367⟩
       ·replace c51 := Bool.eq_false_iff.mpr c51
        subst c51
        have H1 : ((impl_placed_string.f kj32 l0_0 a1).bind fun t369 => ((impl_placed_int.f kj32 l0_4 t366).bind fun t372 => (some (t369, t360, t361, t362, t372, 0, true)))) = some (r1, r2, r3, r4, r5, r6, r7) := by rw [if_neg (show ¬ (false = true) by decide)] at H; exact H
        clear H
        have H := H1
        clear H1; replace H := bS H; obtain ⟨t369, A57, H⟩ := H
        replace H : ((impl_placed_int.f kj32 l0_4 t366).bind fun t372 => (some (t369, t360, t361, t362, t372, 0, true))) = some (r1, r2, r3, r4, r5, r6, r7) := H
        replace H := bS H; obtain ⟨t372, A58, H⟩ := H
        replace H : (some (t369, t360, t361, t362, t372, 0, true)) = some (r1, r2, r3, r4, r5, r6, r7) := H
        simp only [Option.some.injEq, Prod.mk.injEq] at H
        obtain ⟨rfl, rfl, rfl, rfl, rfl, rfl, rfl⟩ := H
        try go_wp2
        replace HO_368000 := ak (Kd.R_drew HO_368000.out)
        replace HO_368004 := ak (Kd.R_drew HO_368004.out)
        replace BK353 := ak (blk_drew BK353.out)
        replace BK354 := ak (blk_drew BK354.out)
        replace BK367 := ak (blk_drew BK367.out)
        replace HB := ak (below_drew1 HB.out)
        refine start_ (n := 12) (S := fun w' => w'.cell? ⟨gb353, 0, none⟩ = some (.slice A0_0 l0_0.length c0_0) ∧ w'.cell? ⟨gb353, 1, none⟩ = some (.int .i64 a0_1) ∧ w'.cell? ⟨gb353, 2, none⟩ = some (.int .i64 a0_2) ∧ w'.cell? ⟨gb353, 3, none⟩ = some (.int .i64 a0_3) ∧ w'.cell? ⟨gb353, 4, none⟩ = some (.slice A0_4 l0_4.length c0_4)) (ds := []) (bl 12 0) (by kernel_rfl) rfl rfl ⟨bq BK353 0, bq BK353 1, bq BK353 2, bq BK353 3, bq BK353 4⟩ (fun hHeld => ?_); refine with_tabW impl_PutMix.tab8 impl_PutMix.bits8 (fun HT_ HW_ => ?_)
        generalize wc.drew = w59 at HO_368000 HO_368004 BK353 BK354 BK367 HB hHeld ⊢
        refine pureA 0 (some 40) 12 1 HT_ ?_
        refine pureA 2 (some 42) 12 5 HT_ ?_
        refine pureA 4 (some 44) 12 21 HT_ ?_
        refine pureA 6 (some 46) 12 85 HT_ ?_
        refine takeA 1 (some 41) 12 87 HT_ HW_ hHeld ?_ (hy := by rintro w' ⟨s0, s1, s2, s3, s4⟩; go_simp; with_reducible rfl)
        refine takeA 5 (some 45) 12 119 HT_ HW_ hHeld ?_ (hy := by rintro w' ⟨s0, s1, s2, s3, s4⟩; go_simp; with_reducible rfl)
        refine oneA 3 (some 43) 12 127 HT_ (fun K hK => ?_)
        refine goes_ Try.func104 (by kernel_rfl) rfl #[.slice A0_0 l0_0.length c0_0, .string a1] (by rfl) rfl rfl (by (try simp only [List.map_toArray, List.map_cons, List.map_nil]); first | done | rfl | (simp only [List.length_drop, List.length_take]; rfl)) ?_
        with_reducible refine (impl_placed_string.calls kj32 _ _ l0_0 a1 t369 _ ?side1 ?side2 A57.out).mono ?_
        (case side1 => exact cd (Kd.C_below HR0_0.out HB.out))
        (case side2 => exact HC0_0.out)
        rintro e w60 ⟨v370, rfl, ho0, hb⟩
        refine ⟨_, rfl, ?_⟩
        replace HO_368004 := ak (Kd.R_below (rdl HO_368004) hb)
        have HO371 := ak (Kd.R_lower (Kd.R_new' ho0 (Kd.R_lt (rdl HO_368000))) (below_size (belowg3 HB GE353 GE354 GE367)))
        replace HO_368000 := ak (Kd.R_elder' (rdl HO_368000) (Kd.R_base ho0) hb)
        replace BK353 := ak (blk_below (blkd BK353) hb)
        replace BK354 := ak (blk_below (blkd BK354) hb)
        replace BK367 := ak (blk_below (blkd BK367) hb)
        replace HB := ak (below_step (belowg3 HB GE353 GE354 GE367) hb)
        (try clear hb); (try clear hb2); (try clear hk); (try clear hi); (try clear ho0)
        refine hK.out _ _ ⟨bq BK353 0, bq BK353 1, bq BK353 2, bq BK353 3, bq BK353 4⟩ (fun hHeld => ?_)
        clear hK K
        refine norm_ (a' := ?_) ?_ ?_
        rotate_left
        ·show Act.put _ (some 43) _ = _
         simp only [Act.put, List.setIfInBounds_toArray, List.set_cons_zero, List.set_cons_succ, i64_w, i32_w]
         rfl
        refine pureA 8 (some 48) 12 383 HT_ ?_
        refine oneA 7 (some 47) 12 511 HT_ (fun K hK => ?_)
        refine goes_ Try.func105 (by kernel_rfl) rfl #[.slice A0_4 l0_4.length c0_4, .int .i64 t366] (by rfl) rfl rfl (by (try simp only [List.map_toArray, List.map_cons, List.map_nil]); first | done | rfl | (simp only [List.length_drop, List.length_take]; rfl)) ?_
        with_reducible refine (impl_placed_int.calls kj32 _ _ l0_4 t366 t372 _ ?side1 ?side2 A58.out).mono ?_
        (case side1 => exact cd (Kd.C_below HR0_4.out HB.out))
        (case side2 => exact HC0_4.out)
        rintro e w61 ⟨v373, rfl, ho0, hb⟩
        refine ⟨_, rfl, ?_⟩
        replace HO_368000 := ak (Kd.R_below (rdl HO_368000) hb)
        replace HO371 := ak (Kd.R_below (rdl HO371) hb)
        have HO374 := ak (Kd.R_lower (Kd.R_new' ho0 (Kd.R_lt (rdl HO_368004))) (below_size (belowg3 HB GE353 GE354 GE367)))
        replace HO_368004 := ak (Kd.R_elder' (rdl HO_368004) (Kd.R_base ho0) hb)
        replace BK353 := ak (blk_below (blkd BK353) hb)
        replace BK354 := ak (blk_below (blkd BK354) hb)
        replace BK367 := ak (blk_below (blkd BK367) hb)
        replace HB := ak (below_step (belowg3 HB GE353 GE354 GE367) hb)
        (try clear hb); (try clear hb2); (try clear hk); (try clear hi); (try clear ho0)
        obtain ⟨Ao62, co62, eo62⟩ := Kd.R_slice HO371.out
        (first | subst eo62 | (injection eo62 with f1_ f2_ f3_; have f4_ := f1_.symm; have f5_ := f3_.symm; clear f1_ f2_ f3_; subst f4_; subst f5_))
        obtain ⟨Ao64, co64, eo64⟩ := Kd.R_slice HO374.out
        (first | subst eo64 | (injection eo64 with f1_ f2_ f3_; have f4_ := f1_.symm; have f5_ := f3_.symm; clear f1_ f2_ f3_; subst f4_; subst f5_))
        refine hK.out _ _ ⟨bq BK353 0, bq BK353 1, bq BK353 2, bq BK353 3, bq BK353 4⟩ (fun hHeld => ?_)
        clear hK K
        refine norm_ (a' := ?_) ?_ ?_
        rotate_left
        ·show Act.put _ (some 47) _ = _
         simp only [Act.put, List.setIfInBounds_toArray, List.set_cons_zero, List.set_cons_succ, i64_w, i32_w]
         rfl
        refine oneA 9 none 12 1023 HT_ (fun K hK => ?_)
        have hs63 : w61.cell? ⟨gb367, 0, none⟩ = some (.slice Ao38 t357.length co38) := bq BK367 0
        have hfs63 := blk_frozen BK367.out 0
        have hns63_0 := NB353_367.out; have hns63_1 := NB354_367.out; have hms63_0 := NB367_353.out; have hms63_1 := NB367_354.out
        refine skip_ (w1 := ?_) (by rfl) rfl ?_ ?_
        rotate_left
        ·go_simp
         rfl
        refine hK.out _ _ ⟨((cell_far (p := ⟨gb367, _, none⟩) NB353_367.out _).trans (hHeld.1)), ((cell_far (p := ⟨gb367, _, none⟩) NB353_367.out _).trans (hHeld.2.1)), ((cell_far (p := ⟨gb367, _, none⟩) NB353_367.out _).trans (hHeld.2.2.1)), ((cell_far (p := ⟨gb367, _, none⟩) NB353_367.out _).trans (hHeld.2.2.2.1)), ((cell_far (p := ⟨gb367, _, none⟩) NB353_367.out _).trans (hHeld.2.2.2.2))⟩ (fun hHeld => ?_)
        clear hK K
        refine pureA 10 (some 49) 12 2047 HT_ ?_
        refine oneA 11 none 12 4095 HT_ (fun K hK => ?_)
        have hs65 : w61.cell? ⟨gb367, 4, none⟩ = some (.slice Ao42 t363.length co42) := bq BK367 4
        have hfs65 := blk_frozen BK367.out 4
        have hns65_0 := NB353_367.out; have hns65_1 := NB354_367.out; have hms65_0 := NB367_353.out; have hms65_1 := NB367_354.out
        refine skip_ (w1 := ?_) (by rfl) rfl ?_ ?_
        rotate_left
        ·go_simp
         rfl
        refine hK.out _ _ ⟨((cell_far (p := ⟨gb367, _, none⟩) NB353_367.out _).trans (hHeld.1)), ((cell_far (p := ⟨gb367, _, none⟩) NB353_367.out _).trans (hHeld.2.1)), ((cell_far (p := ⟨gb367, _, none⟩) NB353_367.out _).trans (hHeld.2.2.1)), ((cell_far (p := ⟨gb367, _, none⟩) NB353_367.out _).trans (hHeld.2.2.2.1)), ((cell_far (p := ⟨gb367, _, none⟩) NB353_367.out _).trans (hHeld.2.2.2.2))⟩ (fun hHeld => ?_)
        clear hK K
        refine done_ (done_of HT_.out (by kernel_rfl)) ?_
        have hnb66 := NB367_353.out; have hnc66 := NB353_367.out; have hnb67 := NB367_354.out; have hnc67 := NB354_367.out; obtain ⟨hcz68_0, hcz68_1, hcz68_2, hcz68_3, hcz68_4, hfz68_0, hfz68_1, hfz68_2, hfz68_3, hfz68_4⟩ := box5 BK367; have hnb69 := NB354_353.out; have hnc69 := NB353_354.out; obtain ⟨hcz70_0, hcz70_1, hcz70_2, hcz70_3, hcz70_4, hfz70_0, hfz70_1, hfz70_2, hfz70_3, hfz70_4⟩ := box5 BK354
        try go_wp2
        refine bodyPost_ret (results_ctt rfl _ _ gb354 27 #[.slice Ao62 t369.length co62, .int .i64 t360, .int .i64 t361, .int .i64 t362, .slice Ao64 t372.length co64] (0, 0) _ rfl (by (with_reducible repeat (first | refine blk_drewN ?_ _ | refine blk_drew ?_ | refine blk_alloc ?_ _)); refine blk_put (cs := #[.slice Ao62 t369.length co62, .int .i64 t360, .int .i64 t361, .int .i64 t362, .slice none 0 0]) ?_ 4 _ rfl; (with_reducible repeat (first | refine blk_drewN ?_ _ | refine blk_drew ?_ | refine blk_alloc ?_ _)); refine blk_put (cs := #[.slice Ao62 t369.length co62, .int .i64 t360, .int .i64 t361, .int .i64 0, .slice none 0 0]) ?_ 3 _ rfl; (with_reducible repeat (first | refine blk_drewN ?_ _ | refine blk_drew ?_ | refine blk_alloc ?_ _)); refine blk_put (cs := #[.slice Ao62 t369.length co62, .int .i64 t360, .int .i64 0, .int .i64 0, .slice none 0 0]) ?_ 2 _ rfl; (with_reducible repeat (first | refine blk_drewN ?_ _ | refine blk_drew ?_ | refine blk_alloc ?_ _)); refine blk_put (cs := #[.slice Ao62 t369.length co62, .int .i64 0, .int .i64 0, .int .i64 0, .slice none 0 0]) ?_ 1 _ rfl; (with_reducible repeat (first | refine blk_drewN ?_ _ | refine blk_drew ?_ | refine blk_alloc ?_ _)); refine blk_put (cs := #[.slice none 0 0, .int .i64 0, .int .i64 0, .int .i64 0, .slice none 0 0]) ?_ 0 _ rfl; (with_reducible repeat (first | refine blk_drewN ?_ _ | refine blk_drew ?_ | refine blk_alloc ?_ _)); refine blk_far ?_ NB354_367.out _; (with_reducible repeat (first | refine blk_drewN ?_ _ | refine blk_drew ?_ | refine blk_alloc ?_ _)); refine blk_far ?_ NB354_367.out _; (with_reducible repeat (first | refine blk_drewN ?_ _ | refine blk_drew ?_ | refine blk_alloc ?_ _)); exact BK354.out) Try.underlying27 rfl (by kernel_rfl)) rfl ?_
        exact ⟨_, _, er2, by (with_reducible repeat (first | apply Kd.R_alloc | apply Kd.R_drewN | apply Kd.R_drew)); exact Kd.R_mono (farsR (Kd.R_types (Kd.R_types HO371.out BK367.out (by decide)) BK354.out (by decide))) (fun _ hk => trivial), by (with_reducible repeat (first | apply Kd.R_alloc | apply Kd.R_drewN | apply Kd.R_drew)); exact Kd.R_mono (farsR (Kd.R_types (Kd.R_types HO374.out BK367.out (by decide)) BK354.out (by decide))) (fun _ hk => trivial), belowg3 HB GE353 GE354 GE367⟩

/-! ### impl_NewMix: function 113 -/
def impl_NewMix.f (a0 : Int) (a1 : Int) : Option (List ByteArray × Int × Int × Int × List Int × Bool) := (impl_within.f a0 1 12).bind fun t376 => (if t376 = true then ((impl_within.f a1 1 10).bind fun t377 => (if t377 = true then (some (([] : List ByteArray), a0, a1, 0, ([] : List Int), true)) else (some (([] : List ByteArray), 0, 0, 0, ([] : List Int), false)))) else (some (([] : List ByteArray), 0, 0, 0, ([] : List Int), false)))
set_option maxHeartbeats 8000000 in
set_option maxRecDepth 100000 in
theorem impl_NewMix.calls (a0 : Int) (a1 : Int) (r1 : List ByteArray) (r2 : Int) (r3 : Int) (r4 : Int) (r5 : List Int) (r6 : Bool) (w : World) (h : impl_NewMix.f a0 a1 = some (r1, r2, r3, r4, r5, r6)) :
  Calls Try.prog 113 #[.int .i64 a0, .int .i64 a1] w fun e w' => ∃ v0_ v4_ : Value, e = .returned (.tuple #[.agg #[v0_, .int .i64 r2, .int .i64 r3, .int .i64 r4, v4_], .bool r6]) ∧ Kd.R Kd.string 9 w' w.heap.size (fun _ => True) v0_ r1 ∧ Kd.R (Kd.int .i64) 3 w' w.heap.size (fun _ => True) v4_ r5 ∧ Below w.heap.size w w' := by
 have hu27 := Try.underlying27
 have HB := Aside0.mk (Below.refl w.heap.size w)
 have H : ((impl_within.f a0 1 12).bind fun t376 => (if t376 = true then ((impl_within.f a1 1 10).bind fun t377 => (if t377 = true then (some (([] : List ByteArray), a0, a1, 0, ([] : List Int), true)) else (some (([] : List ByteArray), 0, 0, 0, ([] : List Int), false)))) else (some (([] : List ByteArray), 0, 0, 0, ([] : List Int), false)))) = some (r1, r2, r3, r4, r5, r6) := h
 clear h; replace H := bS H; obtain ⟨t376, A3, H⟩ := H
 replace H : (if t376 = true then ((impl_within.f a1 1 10).bind fun t377 => (if t377 = true then (some (([] : List ByteArray), a0, a1, 0, ([] : List Int), true)) else (some (([] : List ByteArray), 0, 0, 0, ([] : List Int), false)))) else (some (([] : List ByteArray), 0, 0, 0, ([] : List Int), false))) = some (r1, r2, r3, r4, r5, r6) := H
 by_cases c4 : t376 = true
 ·subst c4
  have H1 : ((impl_within.f a1 1 10).bind fun t377 => (if t377 = true then (some (([] : List ByteArray), a0, a1, 0, ([] : List Int), true)) else (some (([] : List ByteArray), 0, 0, 0, ([] : List Int), false)))) = some (r1, r2, r3, r4, r5, r6) := by rw [if_pos rfl] at H; exact H
  clear H
  have H := H1
  clear H1; replace H := bS H; obtain ⟨t377, A5, H⟩ := H
  replace H : (if t377 = true then (some (([] : List ByteArray), a0, a1, 0, ([] : List Int), true)) else (some (([] : List ByteArray), 0, 0, 0, ([] : List Int), false))) = some (r1, r2, r3, r4, r5, r6) := H
  by_cases c6 : t377 = true
  ·subst c6
   have H1 : (some (([] : List ByteArray), a0, a1, 0, ([] : List Int), true)) = some (r1, r2, r3, r4, r5, r6) := by rw [if_pos rfl] at H; exact H
   clear H
   have H := H1
   clear H1
   simp only [Option.some.injEq, Prod.mk.injEq] at H
   obtain ⟨rfl, rfl, rfl, rfl, rfl, rfl⟩ := H
   go_enter Try.func113, Try.ntmps113
   go_wp2_with (first | ((with_reducible refine gate_dst (N := 4) rfl ?_); refine boxev 4 #[.slice none 0 0, .int .i64 0, .int .i64 0, .int .i64 0, .slice none 0 0] 27 ?_; intro gb375 hg w7 hbox hb; have BK375 := ak (hbox); have GW375 := ak (hgl hg (belowd HB)); have GE375 := ak (hgl hg (belowd HB)); replace HB := ak (below_step (belowd HB) hb); clear hb hbox hg) | ((with_reducible refine gate_callee (f := 125) rfl ?_); refine goesLa (some 7) rfl Try.func125 #[.int .i64 a0, .int .i64 1, .int .i64 12] rfl ?_; (with_reducible refine (impl_within.calls a0 1 12 true _ A3.out).mono ?_); rintro e w' ⟨rfl, ⟨nd, rfl⟩⟩; refine ⟨_, rfl, ?_⟩; (try (rw [drewN_self w7]; generalize hq_ : World.drewN w7 _ = w7; have n0_ : Aside0 (w7.heap[gb375]? = some (.cells #[.slice none 0 0, .int .i64 0, .int .i64 0, .int .i64 0, .slice none 0 0] 27 (0, 0))) := ⟨by rw [← hq_]; exact (blkd BK375)⟩; have n1_ : Aside0 (Below w.heap.size w w7) := ⟨by rw [← hq_]; exact (belowg1 HB GE375)⟩; clear BK375 HB hq_; have BK375 := n0_; have HB := n1_; clear n0_ n1_))) | (go_at_call 125; (with_reducible refine (impl_within.calls a1 1 10 true _ A5.out).mono ?_); rintro e w' ⟨rfl, ⟨nd, rfl⟩⟩; (try (rw [drewN_self w7]; generalize hq_ : World.drewN w7 _ = w7; have n0_ : Aside0 (w7.heap[gb375]? = some (.cells #[.slice none 0 0, .int .i64 0, .int .i64 0, .int .i64 0, .slice none 0 0] 27 (0, 0))) := ⟨by rw [← hq_]; exact (blkd BK375)⟩; have n1_ : Aside0 (Below w.heap.size w w7) := ⟨by rw [← hq_]; exact (belowg1 HB GE375)⟩; clear BK375 HB hq_; have BK375 := n0_; have HB := n1_; clear n0_ n1_)); obtain ⟨hcz8_0, hcz8_1, hcz8_2, hcz8_3, hcz8_4, hfz8_0, hfz8_1, hfz8_2, hfz8_3, hfz8_4⟩ := box5 BK375))
   refine bodyPost_ret (results_ct rfl _ _ gb375 27 #[.slice none 0 0, .int .i64 a0, .int .i64 a1, .int .i64 0, .slice none 0 0] (0, 0) _ rfl (by (with_reducible repeat (first | refine blk_drewN ?_ _ | refine blk_drew ?_ | refine blk_alloc ?_ _)); refine blk_put (cs := #[.slice none 0 0, .int .i64 a0, .int .i64 a1, .int .i64 0, .slice none 0 0]) ?_ 4 _ rfl; (with_reducible repeat (first | refine blk_drewN ?_ _ | refine blk_drew ?_ | refine blk_alloc ?_ _)); refine blk_put (cs := #[.slice none 0 0, .int .i64 a0, .int .i64 a1, .int .i64 0, .slice none 0 0]) ?_ 3 _ rfl; (with_reducible repeat (first | refine blk_drewN ?_ _ | refine blk_drew ?_ | refine blk_alloc ?_ _)); refine blk_put (cs := #[.slice none 0 0, .int .i64 a0, .int .i64 0, .int .i64 0, .slice none 0 0]) ?_ 2 _ rfl; (with_reducible repeat (first | refine blk_drewN ?_ _ | refine blk_drew ?_ | refine blk_alloc ?_ _)); refine blk_put (cs := #[.slice none 0 0, .int .i64 0, .int .i64 0, .int .i64 0, .slice none 0 0]) ?_ 1 _ rfl; (with_reducible repeat (first | refine blk_drewN ?_ _ | refine blk_drew ?_ | refine blk_alloc ?_ _)); refine blk_put (cs := #[.slice none 0 0, .int .i64 0, .int .i64 0, .int .i64 0, .slice none 0 0]) ?_ 0 _ rfl; (with_reducible repeat (first | refine blk_drewN ?_ _ | refine blk_drew ?_ | refine blk_alloc ?_ _)); exact BK375.out) Try.underlying27 rfl (by kernel_rfl)) rfl ?_
   exact ⟨_, _, er2, by first | exact Kd.R_nil _ _ _ _ _ | exact Kd.N_nil _ _ _ _ _ | exact Kd.V_nil _ _ _ _ _ | exact Kd.Q_nil _ _ _ _ _ | exact Kd.S_nil _ _ _ _ _, by first | exact Kd.R_nil _ _ _ _ _ | exact Kd.N_nil _ _ _ _ _ | exact Kd.V_nil _ _ _ _ _ | exact Kd.Q_nil _ _ _ _ _ | exact Kd.S_nil _ _ _ _ _, belowg1 HB GE375⟩
  ·replace c6 := Bool.eq_false_iff.mpr c6
   subst c6
   have H1 : (some (([] : List ByteArray), 0, 0, 0, ([] : List Int), false)) = some (r1, r2, r3, r4, r5, r6) := by rw [if_neg (show ¬ (false = true) by decide)] at H; exact H
   clear H
   have H := H1
   clear H1
   simp only [Option.some.injEq, Prod.mk.injEq] at H
   obtain ⟨rfl, rfl, rfl, rfl, rfl, rfl⟩ := H
   go_enter Try.func113, Try.ntmps113
   go_wp2_with (first | ((with_reducible refine gate_dst (N := 4) rfl ?_); refine boxev 4 #[.slice none 0 0, .int .i64 0, .int .i64 0, .int .i64 0, .slice none 0 0] 27 ?_; intro gb375 hg w9 hbox hb; have BK375 := ak (hbox); have GW375 := ak (hgl hg (belowd HB)); have GE375 := ak (hgl hg (belowd HB)); replace HB := ak (below_step (belowd HB) hb); clear hb hbox hg) | ((with_reducible refine gate_callee (f := 125) rfl ?_); refine goesLa (some 7) rfl Try.func125 #[.int .i64 a0, .int .i64 1, .int .i64 12] rfl ?_; (with_reducible refine (impl_within.calls a0 1 12 true _ A3.out).mono ?_); rintro e w' ⟨rfl, ⟨nd, rfl⟩⟩; refine ⟨_, rfl, ?_⟩; (try (rw [drewN_self w9]; generalize hq_ : World.drewN w9 _ = w9; have n0_ : Aside0 (w9.heap[gb375]? = some (.cells #[.slice none 0 0, .int .i64 0, .int .i64 0, .int .i64 0, .slice none 0 0] 27 (0, 0))) := ⟨by rw [← hq_]; exact (blkd BK375)⟩; have n1_ : Aside0 (Below w.heap.size w w9) := ⟨by rw [← hq_]; exact (belowg1 HB GE375)⟩; clear BK375 HB hq_; have BK375 := n0_; have HB := n1_; clear n0_ n1_))) | (go_at_call 125; (with_reducible refine (impl_within.calls a1 1 10 false _ A5.out).mono ?_); rintro e w' ⟨rfl, ⟨nd, rfl⟩⟩; (try (rw [drewN_self w9]; generalize hq_ : World.drewN w9 _ = w9; have n0_ : Aside0 (w9.heap[gb375]? = some (.cells #[.slice none 0 0, .int .i64 0, .int .i64 0, .int .i64 0, .slice none 0 0] 27 (0, 0))) := ⟨by rw [← hq_]; exact (blkd BK375)⟩; have n1_ : Aside0 (Below w.heap.size w w9) := ⟨by rw [← hq_]; exact (belowg1 HB GE375)⟩; clear BK375 HB hq_; have BK375 := n0_; have HB := n1_; clear n0_ n1_)); obtain ⟨hcz10_0, hcz10_1, hcz10_2, hcz10_3, hcz10_4, hfz10_0, hfz10_1, hfz10_2, hfz10_3, hfz10_4⟩ := box5 BK375))
   refine bodyPost_ret (results_ct rfl _ _ gb375 27 #[.slice none 0 0, .int .i64 0, .int .i64 0, .int .i64 0, .slice none 0 0] (0, 0) _ rfl (by (with_reducible repeat (first | refine blk_drewN ?_ _ | refine blk_drew ?_ | refine blk_alloc ?_ _)); refine blk_put (cs := #[.slice none 0 0, .int .i64 0, .int .i64 0, .int .i64 0, .slice none 0 0]) ?_ 4 _ rfl; (with_reducible repeat (first | refine blk_drewN ?_ _ | refine blk_drew ?_ | refine blk_alloc ?_ _)); refine blk_put (cs := #[.slice none 0 0, .int .i64 0, .int .i64 0, .int .i64 0, .slice none 0 0]) ?_ 3 _ rfl; (with_reducible repeat (first | refine blk_drewN ?_ _ | refine blk_drew ?_ | refine blk_alloc ?_ _)); refine blk_put (cs := #[.slice none 0 0, .int .i64 0, .int .i64 0, .int .i64 0, .slice none 0 0]) ?_ 2 _ rfl; (with_reducible repeat (first | refine blk_drewN ?_ _ | refine blk_drew ?_ | refine blk_alloc ?_ _)); refine blk_put (cs := #[.slice none 0 0, .int .i64 0, .int .i64 0, .int .i64 0, .slice none 0 0]) ?_ 1 _ rfl; (with_reducible repeat (first | refine blk_drewN ?_ _ | refine blk_drew ?_ | refine blk_alloc ?_ _)); refine blk_put (cs := #[.slice none 0 0, .int .i64 0, .int .i64 0, .int .i64 0, .slice none 0 0]) ?_ 0 _ rfl; (with_reducible repeat (first | refine blk_drewN ?_ _ | refine blk_drew ?_ | refine blk_alloc ?_ _)); exact BK375.out) Try.underlying27 rfl (by kernel_rfl)) rfl ?_
   exact ⟨_, _, er2, by first | exact Kd.R_nil _ _ _ _ _ | exact Kd.N_nil _ _ _ _ _ | exact Kd.V_nil _ _ _ _ _ | exact Kd.Q_nil _ _ _ _ _ | exact Kd.S_nil _ _ _ _ _, by first | exact Kd.R_nil _ _ _ _ _ | exact Kd.N_nil _ _ _ _ _ | exact Kd.V_nil _ _ _ _ _ | exact Kd.Q_nil _ _ _ _ _ | exact Kd.S_nil _ _ _ _ _, belowg1 HB GE375⟩
 ·replace c4 := Bool.eq_false_iff.mpr c4
  subst c4
  have H1 : (some (([] : List ByteArray), 0, 0, 0, ([] : List Int), false)) = some (r1, r2, r3, r4, r5, r6) := by rw [if_neg (show ¬ (false = true) by decide)] at H; exact H
  clear H
  have H := H1
  clear H1
  simp only [Option.some.injEq, Prod.mk.injEq] at H
  obtain ⟨rfl, rfl, rfl, rfl, rfl, rfl⟩ := H
  go_enter Try.func113, Try.ntmps113
  go_wp2_with (first | ((with_reducible refine gate_dst (N := 4) rfl ?_); refine boxev 4 #[.slice none 0 0, .int .i64 0, .int .i64 0, .int .i64 0, .slice none 0 0] 27 ?_; intro gb375 hg w11 hbox hb; have BK375 := ak (hbox); have GW375 := ak (hgl hg (belowd HB)); have GE375 := ak (hgl hg (belowd HB)); replace HB := ak (below_step (belowd HB) hb); clear hb hbox hg) | ((with_reducible refine gate_callee (f := 125) rfl ?_); refine goesLa (some 7) rfl Try.func125 #[.int .i64 a0, .int .i64 1, .int .i64 12] rfl ?_; (with_reducible refine (impl_within.calls a0 1 12 false _ A3.out).mono ?_); rintro e w' ⟨rfl, ⟨nd, rfl⟩⟩; refine ⟨_, rfl, ?_⟩; (try (rw [drewN_self w11]; generalize hq_ : World.drewN w11 _ = w11; have n0_ : Aside0 (w11.heap[gb375]? = some (.cells #[.slice none 0 0, .int .i64 0, .int .i64 0, .int .i64 0, .slice none 0 0] 27 (0, 0))) := ⟨by rw [← hq_]; exact (blkd BK375)⟩; have n1_ : Aside0 (Below w.heap.size w w11) := ⟨by rw [← hq_]; exact (belowg1 HB GE375)⟩; clear BK375 HB hq_; have BK375 := n0_; have HB := n1_; clear n0_ n1_)); obtain ⟨hcz12_0, hcz12_1, hcz12_2, hcz12_3, hcz12_4, hfz12_0, hfz12_1, hfz12_2, hfz12_3, hfz12_4⟩ := box5 BK375))
  refine bodyPost_ret (results_ct rfl _ _ gb375 27 #[.slice none 0 0, .int .i64 0, .int .i64 0, .int .i64 0, .slice none 0 0] (0, 0) _ rfl (by (with_reducible repeat (first | refine blk_drewN ?_ _ | refine blk_drew ?_ | refine blk_alloc ?_ _)); refine blk_put (cs := #[.slice none 0 0, .int .i64 0, .int .i64 0, .int .i64 0, .slice none 0 0]) ?_ 4 _ rfl; (with_reducible repeat (first | refine blk_drewN ?_ _ | refine blk_drew ?_ | refine blk_alloc ?_ _)); refine blk_put (cs := #[.slice none 0 0, .int .i64 0, .int .i64 0, .int .i64 0, .slice none 0 0]) ?_ 3 _ rfl; (with_reducible repeat (first | refine blk_drewN ?_ _ | refine blk_drew ?_ | refine blk_alloc ?_ _)); refine blk_put (cs := #[.slice none 0 0, .int .i64 0, .int .i64 0, .int .i64 0, .slice none 0 0]) ?_ 2 _ rfl; (with_reducible repeat (first | refine blk_drewN ?_ _ | refine blk_drew ?_ | refine blk_alloc ?_ _)); refine blk_put (cs := #[.slice none 0 0, .int .i64 0, .int .i64 0, .int .i64 0, .slice none 0 0]) ?_ 1 _ rfl; (with_reducible repeat (first | refine blk_drewN ?_ _ | refine blk_drew ?_ | refine blk_alloc ?_ _)); refine blk_put (cs := #[.slice none 0 0, .int .i64 0, .int .i64 0, .int .i64 0, .slice none 0 0]) ?_ 0 _ rfl; (with_reducible repeat (first | refine blk_drewN ?_ _ | refine blk_drew ?_ | refine blk_alloc ?_ _)); exact BK375.out) Try.underlying27 rfl (by kernel_rfl)) rfl ?_
  exact ⟨_, _, er2, by first | exact Kd.R_nil _ _ _ _ _ | exact Kd.N_nil _ _ _ _ _ | exact Kd.V_nil _ _ _ _ _ | exact Kd.Q_nil _ _ _ _ _ | exact Kd.S_nil _ _ _ _ _, by first | exact Kd.R_nil _ _ _ _ _ | exact Kd.N_nil _ _ _ _ _ | exact Kd.V_nil _ _ _ _ _ | exact Kd.Q_nil _ _ _ _ _ | exact Kd.S_nil _ _ _ _ _, belowg1 HB GE375⟩

end Go.Proofs.Ytkgogglnipdcfaa.QFnExactPlayMix
