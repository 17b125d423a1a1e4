-- printed by this session's own program (wip/tools/pp.py: the kit's print.py with changes); Lean checks it
import Derived.Test.YtihekdlcfohkkaaGreatDoorQFnExactStepNetx0
import Derived.Test.YtihekdlcfohkkaaGreatDoorQFnExactStepNetx7
namespace Go.Proofs.YtihekdlcfohkkaaGreatDoor.QFnExactStepNet
open Go.RowKit Go.Proofs.YtihekdlcfohkkaaGreatDoorW.PrintWords Go.Proofs.YtihekdlcfohkkaaGreatDoorW.PrintLast Go.Proofs.YtihekdlcfohkkaaGreatDoorW.PrintMore
attribute [local go_sem] max2_int min2_int max_two min_two max_three min_three max_four min_four strLss strGtr strLeq strGeq   -- for this text's walks alone
set_option linter.unusedVariables false
set_option linter.unusedSimpArgs false

/-! ### impl_allWithin: function 102 -/
def impl_allWithin.l0 : Nat → Int → Int → List Int → Int → Int → Option (Bool)
  | 0, _, _, _, _, _ => none
  | k + 1, x1, x2, x9, x10, x11 => if x11 < x10 then (if 0 ≤ x11 then (if x11 < (x9.length : Int) then ((impl_within.f (rd x9 x11) x1 x2).bind fun t260 => (if t260 = true then (impl_allWithin.l0 k x1 x2 x9 x10 (wrap64 (x11 + 1))) else (some false))) else (none)) else (none)) else (some true)
def impl_allWithin.f (k : Nat) (l0 : List Int) (a1 : Int) (a2 : Int) : Option (Bool) := impl_allWithin.l0 k a1 a2 l0 (l0.length : Int) 0
theorem impl_allWithin.mono_l : ∀ k, (∀ y0 y1 y2 y3 y4, LeO (impl_allWithin.l0 k y0 y1 y2 y3 y4) (impl_allWithin.l0 (k + 1) y0 y1 y2 y3 y4))
 | 0 => fun _ _ _ _ _ r h => by simp [impl_allWithin.l0] at h
 | k + 1 => by
  have ih0 := impl_allWithin.mono_l k
  ·intro y0 y1 y2 y3 y4
   unfold impl_allWithin.l0
   repeat' (first | (with_reducible first | exact ih0 _ _ _ _ _ | exact LeO.refl _ | exact LeO.none _ | refine LeO.ite ?_ ?_ | refine LeO.bind ?_ (fun _ => ?_)) | exact ih0 _ _ _ _ _ | exact LeO.none _ | refine LeO.ite ?_ ?_ | refine LeO.bind ?_ (fun _ => ?_))
theorem impl_allWithin.mono : ∀ a0 a1 a2 k, LeO (impl_allWithin.f k a0 a1 a2) (impl_allWithin.f (k + 1) a0 a1 a2) := by
 intro a0 a1 a2 k
 have ih0 := impl_allWithin.mono_l k
 unfold impl_allWithin.f
 repeat' (first | (with_reducible first | exact ih0 _ _ _ _ _ | exact LeO.refl _ | exact LeO.none _ | refine LeO.ite ?_ ?_ | refine LeO.bind ?_ (fun _ => ?_)) | exact ih0 _ _ _ _ _ | exact LeO.none _ | refine LeO.ite ?_ ?_ | refine LeO.bind ?_ (fun _ => ?_))
set_option maxHeartbeats 8000000 in
set_option maxRecDepth 100000 in
theorem impl_allWithin.calls (k : Nat) (A0 : Option Addr) (c0 : Nat) (l0 : List Int) (a1 : Int) (a2 : Int) (r : Bool) (w : World) (hr0 : Kd.C (Kd.int .i64) w A0 l0.length l0) (hc0 : l0.length ≤ c0) (h : impl_allWithin.f k l0 a1 a2 = some r) :
  Calls Tryz.prog 102 #[.slice A0 l0.length c0, .int .i64 a1, .int .i64 a2] w fun e w' => e = .returned (.bool r) ∧ Drawn0 w w' := by
 have HR0 := Aside0.mk hr0; have HC0 := Aside0.mk hc0; clear hr0 hc0
 have H : (impl_allWithin.l0 k a1 a2 l0 (l0.length : Int) 0) = some r := h
 clear h
 have H' := Aside0.mk H
 clear H
 go_enter Tryz.func102, Tryz.ntmps102
 go_wp2
 go_loopg [11] k (fun kq v11 w' => ∃ (x11_1 : Int), v11 = .int .i64 x11_1 ∧ Aside0 (impl_allWithin.l0 kq a1 a2 l0 (l0.length : Int) x11_1 = some r) ∧ Aside0 (kq ≤ k) ∧ Drawn0 w w')
 case atStart => exact ⟨(0), er, H', ⟨Nat.le_refl _⟩, drw⟩
 case round =>
  clear H'
  obtain ⟨x11_1, rfl, HA, HK1, ⟨m1, rfl⟩⟩ := hrel
  cases gk with
  | zero => exact absurd HA.out (by simp [impl_allWithin.l0])
  | succ k1 =>
   have H := HA.out; clear HA
   simp only [impl_allWithin.l0] at H
   by_cases c4 : x11_1 < (l0.length : Int)
   ·rw [if_pos c4] at H
    have c4b0 : decide (x11_1 < (l0.length : Int)) = true := decide_eq_true c4
    clear c4; replace H := ifS H; obtain ⟨c5, H⟩ := H; have c5b0 := decide_eq_true c5; clear c5; replace H := ifS H; obtain ⟨c6, H⟩ := H; have c6b0 := decide_eq_true c6; clear c6; replace H := bS H; obtain ⟨t260, A7, H⟩ := H
    replace H : (if t260 = true then (impl_allWithin.l0 k1 a1 a2 l0 (l0.length : Int) (wrap64 (x11_1 + 1))) else (some false)) = some r := H
    by_cases c8 : t260 = true
    ·subst c8
     have H1 : (impl_allWithin.l0 k1 a1 a2 l0 (l0.length : Int) (wrap64 (x11_1 + 1))) = some r := by rw [if_pos rfl] at H; exact H
     clear H
     have H := H1
     clear H1
     have H' := Aside0.mk H
     clear H
     have p259 : 0 ≤ (x11_1 : Int) := da
     have q259 : x11_1 < (l0.length : Int) := da
     obtain ⟨ad259, e259, hx259_0⟩ := Kd.at_int HR0.out x11_1 p259 q259
     cases e259
     replace p259 := eq_true p259; replace q259 := eq_true q259
     go_wp2_with (first | ((with_reducible refine gate_callee (f := 70) rfl ?_); refine goesLa (some 18) rfl Tryz.func70 #[.int .i64 (rd l0 x11_1), .int .i64 a1, .int .i64 a2] rfl ?_; (with_reducible refine (impl_within.calls (rd l0 x11_1) a1 a2 true _ A7.out).mono ?_); rintro e w' ⟨rfl, ⟨nd, rfl⟩⟩; refine ⟨_, rfl, ?_⟩))
     go_roundg k1
     case measure => have := HK1.out; omega
     case rel => exact ⟨(wrap64 (x11_1 + 1)), er, H', ⟨by have := HK1.out; omega⟩, drw⟩
    ·replace c8 := Bool.eq_false_iff.mpr c8
     subst c8
     have H1 : (some false) = some r := by rw [if_neg (show ¬ (false = true) by decide)] at H; exact H
     clear H
     have H := H1
     clear H1
     obtain rfl := Option.some.inj H
     have p259 : 0 ≤ (x11_1 : Int) := da
     have q259 : x11_1 < (l0.length : Int) := da
     obtain ⟨ad259, e259, hx259_0⟩ := Kd.at_int HR0.out x11_1 p259 q259
     cases e259
     replace p259 := eq_true p259; replace q259 := eq_true q259
     go_wp2_with (first | ((with_reducible refine gate_callee (f := 70) rfl ?_); refine goesLa (some 18) rfl Tryz.func70 #[.int .i64 (rd l0 x11_1), .int .i64 a1, .int .i64 a2] rfl ?_; (with_reducible refine (impl_within.calls (rd l0 x11_1) a1 a2 false _ A7.out).mono ?_); rintro e w' ⟨rfl, ⟨nd, rfl⟩⟩; refine ⟨_, rfl, ?_⟩))
     go_ret
     exact ⟨er, drw⟩
   ·rw [if_neg c4] at H
    have c4b0 : decide (x11_1 < (l0.length : Int)) = false := decide_eq_false c4
    clear c4
    obtain rfl := Option.some.inj H
    go_wp2
    go_ret
    exact ⟨er, drw⟩

/-! ### impl_areKeys: function 71 -/
def impl_areKeys.f (k : Nat) (l0 : List Int) : Option (Bool) := if (l0.length : Int) ≤ 8 then ((impl_allWithin.f k l0 0 65535).bind fun t261 => (some t261)) else (some false)
theorem impl_areKeys.mono : ∀ a0 k, LeO (impl_areKeys.f k a0) (impl_areKeys.f (k + 1) a0) := by
 intro a0 k
 unfold impl_areKeys.f
 repeat' (first | (with_reducible first | exact impl_allWithin.mono _ _ _ _ | exact LeO.refl _ | exact LeO.none _ | refine LeO.ite ?_ ?_ | refine LeO.bind ?_ (fun _ => ?_)) | exact impl_allWithin.mono _ _ _ _ | exact LeO.none _ | refine LeO.ite ?_ ?_ | refine LeO.bind ?_ (fun _ => ?_))
set_option maxHeartbeats 8000000 in
set_option maxRecDepth 100000 in
theorem impl_areKeys.calls (k : Nat) (A0 : Option Addr) (c0 : Nat) (l0 : List Int) (r : Bool) (w : World) (hr0 : Kd.C (Kd.int .i64) w A0 l0.length l0) (hc0 : l0.length ≤ c0) (h : impl_areKeys.f k l0 = some r) :
  Calls Tryz.prog 71 #[.slice A0 l0.length c0] w fun e w' => e = .returned (.bool r) ∧ Drawn0 w w' := by
 have HR0 := Aside0.mk hr0; have HC0 := Aside0.mk hc0; clear hr0 hc0
 have H : (if (l0.length : Int) ≤ 8 then ((impl_allWithin.f k l0 0 65535).bind fun t261 => (some t261)) else (some false)) = some r := h
 clear h
 by_cases c2 : (l0.length : Int) ≤ 8
 ·rw [if_pos c2] at H
  have c2b0 : decide ((l0.length : Int) ≤ 8) = true := decide_eq_true c2
  have c2b1 : decide (l0.length ≤ 8) = true := decide_eq_true (by omega)
  clear c2; replace H := bS H; obtain ⟨t261, A3, H⟩ := H
  replace H : (some t261) = some r := H
  obtain rfl := Option.some.inj H
  go_enter Tryz.func71, Tryz.ntmps71
  go_wp2_with (first | (go_at_call 102; (with_reducible refine (impl_allWithin.calls k _ _ l0 0 65535 t261 _ ?side1 ?side2 A3.out).mono ?_); (case side1 => exact cd HR0.out); (case side2 => exact HC0.out); rintro e w' ⟨rfl, ⟨nd, rfl⟩⟩))
  go_ret
  exact ⟨er, drw⟩
 ·rw [if_neg c2] at H
  have c2b0 : decide ((l0.length : Int) ≤ 8) = false := decide_eq_false c2
  have c2b1 : decide (l0.length ≤ 8) = false := decide_eq_false (by omega)
  clear c2
  obtain rfl := Option.some.inj H
  go_enter Tryz.func71, Tryz.ntmps71
  go_wp2
  go_ret
  exact ⟨er, drw⟩

/-! ### impl_areOnions: function 72 -/
def impl_areOnions.l0 : Nat → List ByteArray → List ByteArray → Int → Int → Option (Bool)
  | 0, _, _, _, _ => none
  | k + 1, x0, x5, x6, x7 => if x7 < x6 then (if 0 ≤ x7 then (if x7 < (x5.length : Int) then (if ((rdOf ByteArray.empty x5 x7).size : Int) = 24 then (if x7 > 0 then (if 0 ≤ (wrap64 (x7 - 1)) then (if (wrap64 (x7 - 1)) < (x0.length : Int) then (if ((Op.bytesLess ((rdOf ByteArray.empty x0 (wrap64 (x7 - 1))).toList) ((rdOf ByteArray.empty x5 x7).toList)) = true) then (impl_areOnions.l0 k x0 x5 x6 (wrap64 (x7 + 1))) else (some false)) else (none)) else (none)) else (impl_areOnions.l0 k x0 x5 x6 (wrap64 (x7 + 1)))) else (some false)) else (none)) else (none)) else (some (decide ((x0.length : Int) ≤ 100)))
def impl_areOnions.f (k : Nat) (l0 : List ByteArray) : Option (Bool) := impl_areOnions.l0 k l0 l0 (l0.length : Int) 0
theorem impl_areOnions.mono_l : ∀ k, (∀ y0 y1 y2 y3, LeO (impl_areOnions.l0 k y0 y1 y2 y3) (impl_areOnions.l0 (k + 1) y0 y1 y2 y3))
 | 0 => fun _ _ _ _ r h => by simp [impl_areOnions.l0] at h
 | k + 1 => by
  have ih0 := impl_areOnions.mono_l k
  ·intro y0 y1 y2 y3
   unfold impl_areOnions.l0
   repeat' (first | (with_reducible first | exact ih0 _ _ _ _ | exact LeO.refl _ | exact LeO.none _ | refine LeO.ite ?_ ?_ | refine LeO.bind ?_ (fun _ => ?_)) | exact ih0 _ _ _ _ | exact LeO.none _ | refine LeO.ite ?_ ?_ | refine LeO.bind ?_ (fun _ => ?_))
theorem impl_areOnions.mono : ∀ a0 k, LeO (impl_areOnions.f k a0) (impl_areOnions.f (k + 1) a0) := by
 intro a0 k
 have ih0 := impl_areOnions.mono_l k
 unfold impl_areOnions.f
 repeat' (first | (with_reducible first | exact ih0 _ _ _ _ | exact LeO.refl _ | exact LeO.none _ | refine LeO.ite ?_ ?_ | refine LeO.bind ?_ (fun _ => ?_)) | exact ih0 _ _ _ _ | exact LeO.none _ | refine LeO.ite ?_ ?_ | refine LeO.bind ?_ (fun _ => ?_))
set_option maxHeartbeats 8000000 in
set_option maxRecDepth 100000 in
theorem impl_areOnions.calls (k : Nat) (A0 : Option Addr) (c0 : Nat) (l0 : List ByteArray) (r : Bool) (w : World) (hr0 : Kd.C Kd.string w A0 l0.length l0) (hc0 : l0.length ≤ c0) (h : impl_areOnions.f k l0 = some r) :
  Calls Tryz.prog 72 #[.slice A0 l0.length c0] w fun e w' => e = .returned (.bool r) ∧ Drawn0 w w' := by
 have HR0 := Aside0.mk hr0; have HC0 := Aside0.mk hc0; clear hr0 hc0
 have H : (impl_areOnions.l0 k l0 l0 (l0.length : Int) 0) = some r := h
 clear h
 have H' := Aside0.mk H
 clear H
 go_enter Tryz.func72, Tryz.ntmps72
 go_wp2
 go_loopg [7] k (fun kq v7 w' => ∃ (x7_1 : Int), v7 = .int .i64 x7_1 ∧ Aside0 (impl_areOnions.l0 kq l0 l0 (l0.length : Int) x7_1 = some r) ∧ Aside0 (kq ≤ k) ∧ Drawn0 w w')
 case atStart => exact ⟨(0), er, H', ⟨Nat.le_refl _⟩, drw⟩
 case round =>
  clear H'
  obtain ⟨x7_1, rfl, HA, HK1, ⟨m1, rfl⟩⟩ := hrel
  cases gk with
  | zero => exact absurd HA.out (by simp [impl_areOnions.l0])
  | succ k1 =>
   have H := HA.out; clear HA
   simp only [impl_areOnions.l0] at H
   by_cases c2 : x7_1 < (l0.length : Int)
   ·rw [if_pos c2] at H
    have c2b0 : decide (x7_1 < (l0.length : Int)) = true := decide_eq_true c2
    clear c2; replace H := ifS H; obtain ⟨c3, H⟩ := H; have c3b0 := decide_eq_true c3; clear c3; replace H := ifS H; obtain ⟨c4, H⟩ := H; have c4b0 := decide_eq_true c4; clear c4
    by_cases c5 : ((rdOf ByteArray.empty l0 x7_1).size : Int) = 24
    ·rw [if_pos c5] at H
     have c5b0 : (((rdOf ByteArray.empty l0 x7_1).size : Int) == 24) = true := beq_iff_eq.mpr c5
     have c5b1 : (((rdOf ByteArray.empty l0 x7_1).size : Int) != 24) = false := bne_eq_false_iff_eq.mpr c5
     clear c5
     by_cases c6 : x7_1 > 0
     ·rw [if_pos c6] at H
      have c6b0 : decide (0 < x7_1) = true := decide_eq_true c6
      clear c6
      obtain ⟨ji7, hji7⟩ : ∃ j_ : Int, (wrap64 (x7_1 - 1)) = j_ := ⟨_, rfl⟩
      replace H : (if 0 ≤ (ji7) then (if (ji7) < (l0.length : Int) then (if ((Op.bytesLess ((rdOf ByteArray.empty l0 (ji7)).toList) ((rdOf ByteArray.empty l0 x7_1).toList)) = true) then (impl_areOnions.l0 k1 l0 l0 (l0.length : Int) (wrap64 (x7_1 + 1))) else (some false)) else (none)) else (none)) = some r := by first | (rw [hji7] at H; exact H) | (simp only [hji7] at H ⊢; exact H)
      have hji7w : (IntKind.i64.wrap (x7_1 - 1)) = ji7 := (i64_w _).trans hji7
      replace H := ifS H; obtain ⟨c8, H⟩ := H; have c8b0 := decide_eq_true c8; clear c8; replace H := ifS H; obtain ⟨c9, H⟩ := H; have c9b0 := decide_eq_true c9; clear c9
      by_cases c10 : ((Op.bytesLess ((rdOf ByteArray.empty l0 (ji7)).toList) ((rdOf ByteArray.empty l0 x7_1).toList)) = true)
      ·rw [if_pos c10] at H
       have c10b0 : (Op.bytesLess ((rdOf ByteArray.empty l0 (ji7)).toList) ((rdOf ByteArray.empty l0 x7_1).toList)) = true := c10
       clear c10
       have H' := Aside0.mk H
       clear H
       have p262 : 0 ≤ (x7_1 : Int) := da
       have q262 : x7_1 < (l0.length : Int) := da
       obtain ⟨ad262, e262, hx262_0⟩ := Kd.at_string HR0.out x7_1 p262 q262
       cases e262
       replace p262 := eq_true p262; replace q262 := eq_true q262
       have p263 : 0 ≤ ((ji7) : Int) := da
       have q263 : (ji7) < (l0.length : Int) := da
       obtain ⟨ad263, e263, hx263_0⟩ := Kd.at_string HR0.out (ji7) p263 q263
       obtain rfl : ad262 = ad263 := (by injection e263)
       replace p263 := eq_true p263; replace q263 := eq_true q263; go_wp2
       go_roundg k1
       case measure => have := HK1.out; omega
       case rel => exact ⟨(wrap64 (x7_1 + 1)), er, H', ⟨by have := HK1.out; omega⟩, drw⟩
      ·rw [if_neg c10] at H
       have c10b0 : (Op.bytesLess ((rdOf ByteArray.empty l0 (ji7)).toList) ((rdOf ByteArray.empty l0 x7_1).toList)) = false := by simpa using c10
       clear c10
       obtain rfl := Option.some.inj H
       have p262 : 0 ≤ (x7_1 : Int) := da
       have q262 : x7_1 < (l0.length : Int) := da
       obtain ⟨ad262, e262, hx262_0⟩ := Kd.at_string HR0.out x7_1 p262 q262
       cases e262
       replace p262 := eq_true p262; replace q262 := eq_true q262
       have p263 : 0 ≤ ((ji7) : Int) := da
       have q263 : (ji7) < (l0.length : Int) := da
       obtain ⟨ad263, e263, hx263_0⟩ := Kd.at_string HR0.out (ji7) p263 q263
       obtain rfl : ad262 = ad263 := (by injection e263)
       replace p263 := eq_true p263; replace q263 := eq_true q263; go_wp2
       go_ret
       exact ⟨by first | rfl | (simp; done) | (simp only [← hji7] <;> (first | rfl | simp)) | (simp [*]; done), drw⟩
     ·rw [if_neg c6] at H
      have c6b0 : decide (0 < x7_1) = false := decide_eq_false c6
      clear c6
      have H' := Aside0.mk H
      clear H
      have p262 : 0 ≤ (x7_1 : Int) := da
      have q262 : x7_1 < (l0.length : Int) := da
      obtain ⟨ad262, e262, hx262_0⟩ := Kd.at_string HR0.out x7_1 p262 q262
      cases e262
      replace p262 := eq_true p262; replace q262 := eq_true q262; go_wp2
      go_roundg k1
      case measure => have := HK1.out; omega
      case rel => exact ⟨(wrap64 (x7_1 + 1)), er, H', ⟨by have := HK1.out; omega⟩, drw⟩
    ·rw [if_neg c5] at H
     have c5b0 : (((rdOf ByteArray.empty l0 x7_1).size : Int) == 24) = false := beq_eq_false_iff_ne.mpr c5
     have c5b1 : (((rdOf ByteArray.empty l0 x7_1).size : Int) != 24) = true := bne_iff_ne.mpr c5
     obtain rfl := Option.some.inj H
     have p262 : 0 ≤ (x7_1 : Int) := da
     have q262 : x7_1 < (l0.length : Int) := da
     obtain ⟨ad262, e262, hx262_0⟩ := Kd.at_string HR0.out x7_1 p262 q262
     cases e262
     replace p262 := eq_true p262; replace q262 := eq_true q262; go_wp2
     go_ret
     exact ⟨er, drw⟩
   ·rw [if_neg c2] at H
    have c2b0 : decide (x7_1 < (l0.length : Int)) = false := decide_eq_false c2
    clear c2
    obtain rfl := Option.some.inj H
    go_wp2
    go_ret
    exact ⟨er, drw⟩

/-! ### slices_Index_string_string: function 103 -/
def slices_Index_string_string.l0 : Nat → List ByteArray → ByteArray → Int → Int → Option (Int)
  | 0, _, _, _, _ => none
  | k + 1, x0, x1, x7, x8 => if x8 < x7 then (if 0 ≤ x8 then (if x8 < (x0.length : Int) then (if x1.toList = (rdOf ByteArray.empty x0 x8).toList then (some x8) else (slices_Index_string_string.l0 k x0 x1 x7 (wrap64 (x8 + 1)))) else (none)) else (none)) else (some (-1))
def slices_Index_string_string.f (k : Nat) (l0 : List ByteArray) (a1 : ByteArray) : Option (Int) := slices_Index_string_string.l0 k l0 a1 (l0.length : Int) 0
theorem slices_Index_string_string.mono_l : ∀ k, (∀ y0 y1 y2 y3, LeO (slices_Index_string_string.l0 k y0 y1 y2 y3) (slices_Index_string_string.l0 (k + 1) y0 y1 y2 y3))
 | 0 => fun _ _ _ _ r h => by simp [slices_Index_string_string.l0] at h
 | k + 1 => by
  have ih0 := slices_Index_string_string.mono_l k
  ·intro y0 y1 y2 y3
   unfold slices_Index_string_string.l0
   repeat' (first | (with_reducible first | exact ih0 _ _ _ _ | exact LeO.refl _ | exact LeO.none _ | refine LeO.ite ?_ ?_ | refine LeO.bind ?_ (fun _ => ?_)) | exact ih0 _ _ _ _ | exact LeO.none _ | refine LeO.ite ?_ ?_ | refine LeO.bind ?_ (fun _ => ?_))
theorem slices_Index_string_string.mono : ∀ a0 a1 k, LeO (slices_Index_string_string.f k a0 a1) (slices_Index_string_string.f (k + 1) a0 a1) := by
 intro a0 a1 k
 have ih0 := slices_Index_string_string.mono_l k
 unfold slices_Index_string_string.f
 repeat' (first | (with_reducible first | exact ih0 _ _ _ _ | exact LeO.refl _ | exact LeO.none _ | refine LeO.ite ?_ ?_ | refine LeO.bind ?_ (fun _ => ?_)) | exact ih0 _ _ _ _ | exact LeO.none _ | refine LeO.ite ?_ ?_ | refine LeO.bind ?_ (fun _ => ?_))
set_option maxHeartbeats 8000000 in
set_option maxRecDepth 100000 in
theorem slices_Index_string_string.calls (k : Nat) (A0 : Option Addr) (c0 : Nat) (l0 : List ByteArray) (a1 : ByteArray) (r : Int) (w : World) (hr0 : Kd.C Kd.string w A0 l0.length l0) (hc0 : l0.length ≤ c0) (h : slices_Index_string_string.f k l0 a1 = some r) :
  Calls Tryz.prog 103 #[.slice A0 l0.length c0, .string a1] w fun e w' => e = .returned (.int .i64 r) ∧ Drawn0 w w' := by
 have HR0 := Aside0.mk hr0; have HC0 := Aside0.mk hc0; clear hr0 hc0
 have H : (slices_Index_string_string.l0 k l0 a1 (l0.length : Int) 0) = some r := h
 clear h
 have H' := Aside0.mk H
 clear H
 go_enter Tryz.func103, Tryz.ntmps103
 go_wp2
 go_loopg [8] k (fun kq v8 w' => ∃ (x8_1 : Int), v8 = .int .i64 x8_1 ∧ Aside0 (slices_Index_string_string.l0 kq l0 a1 (l0.length : Int) x8_1 = some r) ∧ Aside0 (kq ≤ k) ∧ Drawn0 w w')
 case atStart => exact ⟨(0), er, H', ⟨Nat.le_refl _⟩, drw⟩
 case round =>
  clear H'
  obtain ⟨x8_1, rfl, HA, HK1, ⟨m1, rfl⟩⟩ := hrel
  cases gk with
  | zero => exact absurd HA.out (by simp [slices_Index_string_string.l0])
  | succ k1 =>
   have H := HA.out; clear HA
   simp only [slices_Index_string_string.l0] at H
   by_cases c3 : x8_1 < (l0.length : Int)
   ·rw [if_pos c3] at H
    have c3b0 : decide (x8_1 < (l0.length : Int)) = true := decide_eq_true c3
    clear c3; replace H := ifS H; obtain ⟨c4, H⟩ := H; have c4b0 := decide_eq_true c4; clear c4; replace H := ifS H; obtain ⟨c5, H⟩ := H; have c5b0 := decide_eq_true c5; clear c5
    by_cases c6 : a1.toList = (rdOf ByteArray.empty l0 x8_1).toList
    ·rw [if_pos c6] at H
     have c6b0 : (a1.toList == (rdOf ByteArray.empty l0 x8_1).toList) = true := beq_iff_eq.mpr c6
     have c6b1 : (a1.toList != (rdOf ByteArray.empty l0 x8_1).toList) = false := bne_eq_false_iff_eq.mpr c6
     clear c6
     obtain rfl := Option.some.inj H
     have p264 : 0 ≤ (x8_1 : Int) := da
     have q264 : x8_1 < (l0.length : Int) := da
     obtain ⟨ad264, e264, hx264_0⟩ := Kd.at_string HR0.out x8_1 p264 q264
     cases e264
     replace p264 := eq_true p264; replace q264 := eq_true q264; go_wp2
     go_ret
     exact ⟨er, drw⟩
    ·rw [if_neg c6] at H
     have c6b0 : (a1.toList == (rdOf ByteArray.empty l0 x8_1).toList) = false := beq_eq_false_iff_ne.mpr c6
     have c6b1 : (a1.toList != (rdOf ByteArray.empty l0 x8_1).toList) = true := bne_iff_ne.mpr c6
     have H' := Aside0.mk H
     clear H
     have p264 : 0 ≤ (x8_1 : Int) := da
     have q264 : x8_1 < (l0.length : Int) := da
     obtain ⟨ad264, e264, hx264_0⟩ := Kd.at_string HR0.out x8_1 p264 q264
     cases e264
     replace p264 := eq_true p264; replace q264 := eq_true q264; go_wp2
     go_roundg k1
     case measure => have := HK1.out; omega
     case rel => exact ⟨(wrap64 (x8_1 + 1)), er, H', ⟨by have := HK1.out; omega⟩, drw⟩
   ·rw [if_neg c3] at H
    have c3b0 : decide (x8_1 < (l0.length : Int)) = false := decide_eq_false c3
    clear c3
    obtain rfl := Option.some.inj H
    go_wp2
    go_ret
    exact ⟨er, drw⟩

/-! ### slices_Contains_string_string: function 73 -/
def slices_Contains_string_string.f (k : Nat) (l0 : List ByteArray) (a1 : ByteArray) : Option (Bool) := (slices_Index_string_string.f k l0 a1).bind fun t265 => (some (decide (t265 ≥ 0)))
theorem slices_Contains_string_string.mono : ∀ a0 a1 k, LeO (slices_Contains_string_string.f k a0 a1) (slices_Contains_string_string.f (k + 1) a0 a1) := by
 intro a0 a1 k
 unfold slices_Contains_string_string.f
 repeat' (first | (with_reducible first | exact slices_Index_string_string.mono _ _ _ | exact LeO.refl _ | exact LeO.none _ | refine LeO.ite ?_ ?_ | refine LeO.bind ?_ (fun _ => ?_)) | exact slices_Index_string_string.mono _ _ _ | exact LeO.none _ | refine LeO.ite ?_ ?_ | refine LeO.bind ?_ (fun _ => ?_))
set_option maxHeartbeats 8000000 in
set_option maxRecDepth 100000 in
theorem slices_Contains_string_string.calls (k : Nat) (A0 : Option Addr) (c0 : Nat) (l0 : List ByteArray) (a1 : ByteArray) (r : Bool) (w : World) (hr0 : Kd.C Kd.string w A0 l0.length l0) (hc0 : l0.length ≤ c0) (h : slices_Contains_string_string.f k l0 a1 = some r) :
  Calls Tryz.prog 73 #[.slice A0 l0.length c0, .string a1] w fun e w' => e = .returned (.bool r) ∧ Drawn0 w w' := by
 have HR0 := Aside0.mk hr0; have HC0 := Aside0.mk hc0; clear hr0 hc0
 have H : ((slices_Index_string_string.f k l0 a1).bind fun t265 => (some (decide (t265 ≥ 0)))) = some r := h
 clear h; replace H := bS H; obtain ⟨t265, A3, H⟩ := H
 replace H : (some (decide (t265 ≥ 0))) = some r := H
 obtain rfl := Option.some.inj H
 go_enter Tryz.func73, Tryz.ntmps73
 go_wp2_with (first | ((with_reducible refine gate_callee (f := 103) rfl ?_); refine goesLa (some 7) rfl Tryz.func103 #[.slice A0 l0.length c0, .string a1] rfl ?_; (with_reducible refine (slices_Index_string_string.calls k _ _ l0 a1 t265 _ ?side1 ?side2 A3.out).mono ?_); (case side1 => exact cd HR0.out); (case side2 => exact HC0.out); rintro e w' ⟨rfl, ⟨nd, rfl⟩⟩; refine ⟨_, rfl, ?_⟩))
 go_ret
 exact ⟨er, drw⟩

-- NOT PRINTED: function 104 (slices_IndexFunc_string_string)

-- NOT PRINTED: function 74 (slices_ContainsFunc_string_string)

/-! ### impl_GoodNet_1: function 75 -/
def impl_GoodNet_1.f (a0 : ByteArray) : Option (Bool) := (impl_within.f (a0.size : Int) 1 15).bind fun t266 => (some (!t266))
set_option maxHeartbeats 8000000 in
set_option maxRecDepth 100000 in
theorem impl_GoodNet_1.calls (a0 : ByteArray) (r : Bool) (w : World) (h : impl_GoodNet_1.f a0 = some r) :
  Calls Tryz.prog 75 #[.string a0] w fun e w' => e = .returned (.bool r) ∧ Drawn0 w w' := by
 have H : ((impl_within.f (a0.size : Int) 1 15).bind fun t266 => (some (!t266))) = some r := h
 clear h; replace H := bS H; obtain ⟨t266, A2, H⟩ := H
 replace H : (some (!t266)) = some r := H
 obtain rfl := Option.some.inj H
 go_enter Tryz.func75, Tryz.ntmps75
 go_wp2_with (first | ((with_reducible refine gate_callee (f := 70) rfl ?_); refine goesLa (some 5) rfl Tryz.func70 #[.int .i64 (a0.size : Int), .int .i64 1, .int .i64 15] rfl ?_; (with_reducible refine (impl_within.calls (a0.size : Int) 1 15 t266 _ A2.out).mono ?_); rintro e w' ⟨rfl, ⟨nd, rfl⟩⟩; refine ⟨_, rfl, ?_⟩))
 go_ret
 exact ⟨er, drw⟩

/-! ### slices_IndexFunc_104_at_75: function 104 -/
def slices_IndexFunc_104_at_75.l0 : Nat → List ByteArray → Int → Int → Option (Int)
  | 0, _, _, _ => none
  | k + 1, x0, x7, x8 => if x8 < x7 then (if 0 ≤ x8 then (if x8 < (x0.length : Int) then ((impl_GoodNet_1.f (rdOf ByteArray.empty x0 x8)).bind fun t268 => (if t268 = true then (some x8) else (slices_IndexFunc_104_at_75.l0 k x0 x7 (wrap64 (x8 + 1))))) else (none)) else (none)) else (some (-1))
def slices_IndexFunc_104_at_75.f (k : Nat) (l0 : List ByteArray)  : Option (Int) := slices_IndexFunc_104_at_75.l0 k l0 (l0.length : Int) 0
theorem slices_IndexFunc_104_at_75.mono_l : ∀ k, (∀ y0 y1 y2, LeO (slices_IndexFunc_104_at_75.l0 k y0 y1 y2) (slices_IndexFunc_104_at_75.l0 (k + 1) y0 y1 y2))
 | 0 => fun _ _ _ r h => by simp [slices_IndexFunc_104_at_75.l0] at h
 | k + 1 => by
  have ih0 := slices_IndexFunc_104_at_75.mono_l k
  ·intro y0 y1 y2
   unfold slices_IndexFunc_104_at_75.l0
   repeat' (first | (with_reducible first | exact ih0 _ _ _ | exact LeO.refl _ | exact LeO.none _ | refine LeO.ite ?_ ?_ | refine LeO.bind ?_ (fun _ => ?_)) | exact ih0 _ _ _ | exact LeO.none _ | refine LeO.ite ?_ ?_ | refine LeO.bind ?_ (fun _ => ?_))
theorem slices_IndexFunc_104_at_75.mono : ∀ a0 k, LeO (slices_IndexFunc_104_at_75.f k a0) (slices_IndexFunc_104_at_75.f (k + 1) a0) := by
 intro a0 k
 have ih0 := slices_IndexFunc_104_at_75.mono_l k
 unfold slices_IndexFunc_104_at_75.f
 repeat' (first | (with_reducible first | exact ih0 _ _ _ | exact LeO.refl _ | exact LeO.none _ | refine LeO.ite ?_ ?_ | refine LeO.bind ?_ (fun _ => ?_)) | exact ih0 _ _ _ | exact LeO.none _ | refine LeO.ite ?_ ?_ | refine LeO.bind ?_ (fun _ => ?_))
set_option maxHeartbeats 8000000 in
set_option maxRecDepth 100000 in
theorem slices_IndexFunc_104_at_75.calls (k : Nat) (A0 : Option Addr) (c0 : Nat) (l0 : List ByteArray)  (r : Int) (w : World) (hr0 : Kd.C Kd.string w A0 l0.length l0) (hc0 : l0.length ≤ c0) (h : slices_IndexFunc_104_at_75.f k l0 = some r) :
  Calls Tryz.prog 104 #[.slice A0 l0.length c0, .func (.func 75) #[] #[]] w fun e w' => e = .returned (.int .i64 r) ∧ Drawn0 w w' := by
 have HR0 := Aside0.mk hr0; have HC0 := Aside0.mk hc0; clear hr0 hc0
 have H : (slices_IndexFunc_104_at_75.l0 k l0 (l0.length : Int) 0) = some r := h
 clear h
 have H' := Aside0.mk H
 clear H
 go_enter Tryz.func104, Tryz.ntmps104
 go_wp2
 go_loopg [8] k (fun kq v8 w' => ∃ (x8_1 : Int), v8 = .int .i64 x8_1 ∧ Aside0 (slices_IndexFunc_104_at_75.l0 kq l0 (l0.length : Int) x8_1 = some r) ∧ Aside0 (kq ≤ k) ∧ Drawn0 w w')
 case atStart => exact ⟨(0), er, H', ⟨Nat.le_refl _⟩, drw⟩
 case round =>
  clear H'
  obtain ⟨x8_1, rfl, HA, HK1, ⟨m1, rfl⟩⟩ := hrel
  cases gk with
  | zero => exact absurd HA.out (by simp [slices_IndexFunc_104_at_75.l0])
  | succ k1 =>
   have H := HA.out; clear HA
   simp only [slices_IndexFunc_104_at_75.l0] at H
   by_cases c3 : x8_1 < (l0.length : Int)
   ·rw [if_pos c3] at H
    have c3b0 : decide (x8_1 < (l0.length : Int)) = true := decide_eq_true c3
    clear c3; replace H := ifS H; obtain ⟨c4, H⟩ := H; have c4b0 := decide_eq_true c4; clear c4; replace H := ifS H; obtain ⟨c5, H⟩ := H; have c5b0 := decide_eq_true c5; clear c5; replace H := bS H; obtain ⟨t268, A6, H⟩ := H
    replace H : (if t268 = true then (some x8_1) else (slices_IndexFunc_104_at_75.l0 k1 l0 (l0.length : Int) (wrap64 (x8_1 + 1)))) = some r := H
    by_cases c7 : t268 = true
    ·subst c7
     have H1 : (some x8_1) = some r := by rw [if_pos rfl] at H; exact H
     clear H
     have H := H1
     clear H1
     obtain rfl := Option.some.inj H
     have p267 : 0 ≤ (x8_1 : Int) := da
     have q267 : x8_1 < (l0.length : Int) := da
     obtain ⟨ad267, e267, hx267_0⟩ := Kd.at_string HR0.out x8_1 p267 q267
     cases e267
     replace p267 := eq_true p267; replace q267 := eq_true q267
     go_wp2_with (first | ((with_reducible refine gate_value (f := 75) rfl rfl ?_); refine goesV_ (some 16) rfl rfl Tryz.func75 (by kernel_rfl) rfl #[.string (rdOf ByteArray.empty l0 x8_1)] rfl rfl (by (try simp only [List.map_toArray, List.map_cons, List.map_nil]); first | done | rfl | (simp only [List.length_drop, List.length_take]; rfl)) ?_; (with_reducible refine (impl_GoodNet_1.calls (rdOf ByteArray.empty l0 x8_1) true _ A6.out).mono ?_); rintro e w' ⟨rfl, ⟨nd, rfl⟩⟩; refine ⟨_, rfl, ?_⟩))
     go_ret
     exact ⟨er, drw⟩
    ·replace c7 := Bool.eq_false_iff.mpr c7
     subst c7
     have H1 : (slices_IndexFunc_104_at_75.l0 k1 l0 (l0.length : Int) (wrap64 (x8_1 + 1))) = some r := by rw [if_neg (show ¬ (false = true) by decide)] at H; exact H
     clear H
     have H := H1
     clear H1
     have H' := Aside0.mk H
     clear H
     have p267 : 0 ≤ (x8_1 : Int) := da
     have q267 : x8_1 < (l0.length : Int) := da
     obtain ⟨ad267, e267, hx267_0⟩ := Kd.at_string HR0.out x8_1 p267 q267
     cases e267
     replace p267 := eq_true p267; replace q267 := eq_true q267
     go_wp2_with (first | ((with_reducible refine gate_value (f := 75) rfl rfl ?_); refine goesV_ (some 16) rfl rfl Tryz.func75 (by kernel_rfl) rfl #[.string (rdOf ByteArray.empty l0 x8_1)] rfl rfl (by (try simp only [List.map_toArray, List.map_cons, List.map_nil]); first | done | rfl | (simp only [List.length_drop, List.length_take]; rfl)) ?_; (with_reducible refine (impl_GoodNet_1.calls (rdOf ByteArray.empty l0 x8_1) false _ A6.out).mono ?_); rintro e w' ⟨rfl, ⟨nd, rfl⟩⟩; refine ⟨_, rfl, ?_⟩))
     go_roundg k1
     case measure => have := HK1.out; omega
     case rel => exact ⟨(wrap64 (x8_1 + 1)), er, H', ⟨by have := HK1.out; omega⟩, drw⟩
   ·rw [if_neg c3] at H
    have c3b0 : decide (x8_1 < (l0.length : Int)) = false := decide_eq_false c3
    clear c3
    obtain rfl := Option.some.inj H
    go_wp2
    go_ret
    exact ⟨er, drw⟩

/-! ### slices_ContainsFunc_74_at_75: function 74 -/
def slices_ContainsFunc_74_at_75.f (k : Nat) (l0 : List ByteArray)  : Option (Bool) := (slices_IndexFunc_104_at_75.f k l0).bind fun t269 => (some (decide (t269 ≥ 0)))
theorem slices_ContainsFunc_74_at_75.mono : ∀ a0 k, LeO (slices_ContainsFunc_74_at_75.f k a0) (slices_ContainsFunc_74_at_75.f (k + 1) a0) := by
 intro a0 k
 unfold slices_ContainsFunc_74_at_75.f
 repeat' (first | (with_reducible first | exact slices_IndexFunc_104_at_75.mono _ _ | exact LeO.refl _ | exact LeO.none _ | refine LeO.ite ?_ ?_ | refine LeO.bind ?_ (fun _ => ?_)) | exact slices_IndexFunc_104_at_75.mono _ _ | exact LeO.none _ | refine LeO.ite ?_ ?_ | refine LeO.bind ?_ (fun _ => ?_))
set_option maxHeartbeats 8000000 in
set_option maxRecDepth 100000 in
theorem slices_ContainsFunc_74_at_75.calls (k : Nat) (A0 : Option Addr) (c0 : Nat) (l0 : List ByteArray)  (r : Bool) (w : World) (hr0 : Kd.C Kd.string w A0 l0.length l0) (hc0 : l0.length ≤ c0) (h : slices_ContainsFunc_74_at_75.f k l0 = some r) :
  Calls Tryz.prog 74 #[.slice A0 l0.length c0, .func (.func 75) #[] #[]] w fun e w' => e = .returned (.bool r) ∧ Drawn0 w w' := by
 have HR0 := Aside0.mk hr0; have HC0 := Aside0.mk hc0; clear hr0 hc0
 have H : ((slices_IndexFunc_104_at_75.f k l0).bind fun t269 => (some (decide (t269 ≥ 0)))) = some r := h
 clear h; replace H := bS H; obtain ⟨t269, A3, H⟩ := H
 replace H : (some (decide (t269 ≥ 0))) = some r := H
 obtain rfl := Option.some.inj H
 go_enter Tryz.func74, Tryz.ntmps74
 go_wp2_with (first | ((with_reducible refine gate_callee (f := 104) rfl ?_); refine goesLa (some 7) rfl Tryz.func104 #[.slice A0 l0.length c0, .func (.func 75) #[] #[]] rfl ?_; (with_reducible refine (slices_IndexFunc_104_at_75.calls k _ _ l0  t269 _ ?side1 ?side2 A3.out).mono ?_); (case side1 => exact cd HR0.out); (case side2 => exact HC0.out); rintro e w' ⟨rfl, ⟨nd, rfl⟩⟩; refine ⟨_, rfl, ?_⟩))
 go_ret
 exact ⟨er, drw⟩

/-! ### impl_GoodNet: function 35 -/
mutual
def impl_GoodNet.j0 : Nat → Bool → List Int → List (List ByteArray) → List (List ByteArray) → List (List ByteArray) → Int → Option (Bool)
  | 0, _, _, _, _, _, _ => none
  | k + 1, x47, x271000, x271001, x271002, x271003, x271004 => if x47 = true then (some false) else (impl_GoodNet.l0 k x271001 (x271001.length : Int) 0 x271000 x271001 x271002 x271003 x271004)
def impl_GoodNet.l0 : Nat → List (List ByteArray) → Int → Int → List Int → List (List ByteArray) → List (List ByteArray) → List (List ByteArray) → Int → Option (Bool)
  | 0, _, _, _, _, _, _, _, _ => none
  | k + 1, x49, x50, x51, x271000, x271001, x271002, x271003, x271004 => if x51 < x50 then (if 0 ≤ x51 then (if x51 < (x49.length : Int) then ((impl_areOnions.f k (rd_L2 x49 x51)).bind fun t275 => (if t275 = true then (if x51 < (x271002.length : Int) then ((impl_areOnions.f k (rd_L2 x271002 x51)).bind fun t277 => (impl_GoodNet.j2 k x51 (rd_L2 x49 x51) x49 x50 x51 (!t277) x271000 x271001 x271002 x271003 x271004)) else (none)) else (impl_GoodNet.j2 k x51 (rd_L2 x49 x51) x49 x50 x51 true x271000 x271001 x271002 x271003 x271004))) else (none)) else (none)) else (impl_GoodNet.l2 k x271003 (x271003.length : Int) 0)
def impl_GoodNet.j2 : Nat → Int → List ByteArray → List (List ByteArray) → Int → Int → Bool → List Int → List (List ByteArray) → List (List ByteArray) → List (List ByteArray) → Int → Option (Bool)
  | 0, _, _, _, _, _, _, _, _, _, _, _ => none
  | k + 1, x4, x5, x49, x50, x51, x67, x271000, x271001, x271002, x271003, x271004 => if x67 = true then (some false) else (impl_GoodNet.l1 k x4 x49 x50 x51 x5 (x5.length : Int) 0 x271000 x271001 x271002 x271003 x271004)
def impl_GoodNet.l1 : Nat → Int → List (List ByteArray) → Int → Int → List ByteArray → Int → Int → List Int → List (List ByteArray) → List (List ByteArray) → List (List ByteArray) → Int → Option (Bool)
  | 0, _, _, _, _, _, _, _, _, _, _, _, _ => none
  | k + 1, x4, x49, x50, x51, x68, x69, x70, x271000, x271001, x271002, x271003, x271004 => if x70 < x69 then (if 0 ≤ x70 then (if x70 < (x68.length : Int) then (if 0 ≤ x4 then (if x4 < (x271002.length : Int) then ((slices_Contains_string_string.f k (rd_L2 x271002 x4) (rdOf ByteArray.empty x68 x70)).bind fun t280 => (if t280 = true then (impl_GoodNet.l1 k x4 x49 x50 x51 x68 x69 (wrap64 (x70 + 1)) x271000 x271001 x271002 x271003 x271004) else (some false))) else (none)) else (none)) else (none)) else (none)) else (impl_GoodNet.l0 k x49 x50 (wrap64 (x51 + 1)) x271000 x271001 x271002 x271003 x271004)
def impl_GoodNet.l2 : Nat → List (List ByteArray) → Int → Int → Option (Bool)
  | 0, _, _, _ => none
  | k + 1, x85, x86, x87 => if x87 < x86 then (if 0 ≤ x87 then (if x87 < (x85.length : Int) then (if ((rd_L2 x85 x87).length : Int) > 60 then (some false) else ((slices_ContainsFunc_74_at_75.f k (rd_L2 x85 x87)).bind fun t282 => (if t282 = true then (some false) else (impl_GoodNet.l2 k x85 x86 (wrap64 (x87 + 1)))))) else (none)) else (none)) else (some true)
end
def impl_GoodNet.f (k : Nat) (l0_0 : List Int) (l0_1 : List (List ByteArray)) (l0_2 : List (List ByteArray)) (l0_3 : List (List ByteArray)) (a0_4 : Int) : Option (Bool) := (impl_within.f (l0_0.length : Int) 1 4).bind fun t271 => (if t271 = true then ((impl_areKeys.f k l0_0).bind fun t272 => (if t272 = true then (if (l0_1.length : Int) = (l0_0.length : Int) then (if (l0_2.length : Int) = (l0_0.length : Int) then (if (l0_3.length : Int) = 4 then ((impl_within.f a0_4 0 60).bind fun t273 => (impl_GoodNet.j0 k (!t273) l0_0 l0_1 l0_2 l0_3 a0_4)) else (impl_GoodNet.j0 k true l0_0 l0_1 l0_2 l0_3 a0_4)) else (impl_GoodNet.j0 k true l0_0 l0_1 l0_2 l0_3 a0_4)) else (impl_GoodNet.j0 k true l0_0 l0_1 l0_2 l0_3 a0_4)) else (impl_GoodNet.j0 k true l0_0 l0_1 l0_2 l0_3 a0_4))) else (impl_GoodNet.j0 k true l0_0 l0_1 l0_2 l0_3 a0_4))
theorem impl_GoodNet.mono_l : ∀ k, (∀ y0 y1 y2 y3 y4 y5, LeO (impl_GoodNet.j0 k y0 y1 y2 y3 y4 y5) (impl_GoodNet.j0 (k + 1) y0 y1 y2 y3 y4 y5)) ∧ (∀ y0 y1 y2 y3 y4 y5 y6 y7, LeO (impl_GoodNet.l0 k y0 y1 y2 y3 y4 y5 y6 y7) (impl_GoodNet.l0 (k + 1) y0 y1 y2 y3 y4 y5 y6 y7)) ∧ (∀ y0 y1 y2 y3 y4 y5 y6 y7 y8 y9 y10, LeO (impl_GoodNet.j2 k y0 y1 y2 y3 y4 y5 y6 y7 y8 y9 y10) (impl_GoodNet.j2 (k + 1) y0 y1 y2 y3 y4 y5 y6 y7 y8 y9 y10)) ∧ (∀ y0 y1 y2 y3 y4 y5 y6 y7 y8 y9 y10 y11, LeO (impl_GoodNet.l1 k y0 y1 y2 y3 y4 y5 y6 y7 y8 y9 y10 y11) (impl_GoodNet.l1 (k + 1) y0 y1 y2 y3 y4 y5 y6 y7 y8 y9 y10 y11)) ∧ (∀ y0 y1 y2, LeO (impl_GoodNet.l2 k y0 y1 y2) (impl_GoodNet.l2 (k + 1) y0 y1 y2))
 | 0 => ⟨fun _ _ _ _ _ _ r h => by simp [impl_GoodNet.j0] at h, fun _ _ _ _ _ _ _ _ r h => by simp [impl_GoodNet.l0] at h, fun _ _ _ _ _ _ _ _ _ _ _ r h => by simp [impl_GoodNet.j2] at h, fun _ _ _ _ _ _ _ _ _ _ _ _ r h => by simp [impl_GoodNet.l1] at h, fun _ _ _ r h => by simp [impl_GoodNet.l2] at h⟩
 | k + 1 => by
  obtain ⟨ih0, ih1, ih2, ih3, ih4⟩ := impl_GoodNet.mono_l k
  refine ⟨?_, ?_, ?_, ?_, ?_⟩
  ·intro y0 y1 y2 y3 y4 y5
   unfold impl_GoodNet.j0
   repeat' (first | (with_reducible first | exact ih0 _ _ _ _ _ _ | exact ih1 _ _ _ _ _ _ _ _ | exact ih2 _ _ _ _ _ _ _ _ _ _ _ | exact ih3 _ _ _ _ _ _ _ _ _ _ _ _ | exact ih4 _ _ _ | exact impl_areKeys.mono _ _ | exact impl_areOnions.mono _ _ | exact slices_ContainsFunc_74_at_75.mono _ _ | exact slices_Contains_string_string.mono _ _ _ | exact LeO.refl _ | exact LeO.none _ | refine LeO.ite ?_ ?_ | refine LeO.bind ?_ (fun _ => ?_)) | exact ih0 _ _ _ _ _ _ | exact ih1 _ _ _ _ _ _ _ _ | exact ih2 _ _ _ _ _ _ _ _ _ _ _ | exact ih3 _ _ _ _ _ _ _ _ _ _ _ _ | exact ih4 _ _ _ | exact impl_areKeys.mono _ _ | exact impl_areOnions.mono _ _ | exact slices_ContainsFunc_74_at_75.mono _ _ | exact slices_Contains_string_string.mono _ _ _ | exact LeO.none _ | refine LeO.ite ?_ ?_ | refine LeO.bind ?_ (fun _ => ?_))
  ·intro y0 y1 y2 y3 y4 y5 y6 y7
   unfold impl_GoodNet.l0
   repeat' (first | (with_reducible first | exact ih0 _ _ _ _ _ _ | exact ih1 _ _ _ _ _ _ _ _ | exact ih2 _ _ _ _ _ _ _ _ _ _ _ | exact ih3 _ _ _ _ _ _ _ _ _ _ _ _ | exact ih4 _ _ _ | exact impl_areKeys.mono _ _ | exact impl_areOnions.mono _ _ | exact slices_ContainsFunc_74_at_75.mono _ _ | exact slices_Contains_string_string.mono _ _ _ | exact LeO.refl _ | exact LeO.none _ | refine LeO.ite ?_ ?_ | refine LeO.bind ?_ (fun _ => ?_)) | exact ih0 _ _ _ _ _ _ | exact ih1 _ _ _ _ _ _ _ _ | exact ih2 _ _ _ _ _ _ _ _ _ _ _ | exact ih3 _ _ _ _ _ _ _ _ _ _ _ _ | exact ih4 _ _ _ | exact impl_areKeys.mono _ _ | exact impl_areOnions.mono _ _ | exact slices_ContainsFunc_74_at_75.mono _ _ | exact slices_Contains_string_string.mono _ _ _ | exact LeO.none _ | refine LeO.ite ?_ ?_ | refine LeO.bind ?_ (fun _ => ?_))
  ·intro y0 y1 y2 y3 y4 y5 y6 y7 y8 y9 y10
   unfold impl_GoodNet.j2
   repeat' (first | (with_reducible first | exact ih0 _ _ _ _ _ _ | exact ih1 _ _ _ _ _ _ _ _ | exact ih2 _ _ _ _ _ _ _ _ _ _ _ | exact ih3 _ _ _ _ _ _ _ _ _ _ _ _ | exact ih4 _ _ _ | exact impl_areKeys.mono _ _ | exact impl_areOnions.mono _ _ | exact slices_ContainsFunc_74_at_75.mono _ _ | exact slices_Contains_string_string.mono _ _ _ | exact LeO.refl _ | exact LeO.none _ | refine LeO.ite ?_ ?_ | refine LeO.bind ?_ (fun _ => ?_)) | exact ih0 _ _ _ _ _ _ | exact ih1 _ _ _ _ _ _ _ _ | exact ih2 _ _ _ _ _ _ _ _ _ _ _ | exact ih3 _ _ _ _ _ _ _ _ _ _ _ _ | exact ih4 _ _ _ | exact impl_areKeys.mono _ _ | exact impl_areOnions.mono _ _ | exact slices_ContainsFunc_74_at_75.mono _ _ | exact slices_Contains_string_string.mono _ _ _ | exact LeO.none _ | refine LeO.ite ?_ ?_ | refine LeO.bind ?_ (fun _ => ?_))
  ·intro y0 y1 y2 y3 y4 y5 y6 y7 y8 y9 y10 y11
   unfold impl_GoodNet.l1
   repeat' (first | (with_reducible first | exact ih0 _ _ _ _ _ _ | exact ih1 _ _ _ _ _ _ _ _ | exact ih2 _ _ _ _ _ _ _ _ _ _ _ | exact ih3 _ _ _ _ _ _ _ _ _ _ _ _ | exact ih4 _ _ _ | exact impl_areKeys.mono _ _ | exact impl_areOnions.mono _ _ | exact slices_ContainsFunc_74_at_75.mono _ _ | exact slices_Contains_string_string.mono _ _ _ | exact LeO.refl _ | exact LeO.none _ | refine LeO.ite ?_ ?_ | refine LeO.bind ?_ (fun _ => ?_)) | exact ih0 _ _ _ _ _ _ | exact ih1 _ _ _ _ _ _ _ _ | exact ih2 _ _ _ _ _ _ _ _ _ _ _ | exact ih3 _ _ _ _ _ _ _ _ _ _ _ _ | exact ih4 _ _ _ | exact impl_areKeys.mono _ _ | exact impl_areOnions.mono _ _ | exact slices_ContainsFunc_74_at_75.mono _ _ | exact slices_Contains_string_string.mono _ _ _ | exact LeO.none _ | refine LeO.ite ?_ ?_ | refine LeO.bind ?_ (fun _ => ?_))
  ·intro y0 y1 y2
   unfold impl_GoodNet.l2
   repeat' (first | (with_reducible first | exact ih0 _ _ _ _ _ _ | exact ih1 _ _ _ _ _ _ _ _ | exact ih2 _ _ _ _ _ _ _ _ _ _ _ | exact ih3 _ _ _ _ _ _ _ _ _ _ _ _ | exact ih4 _ _ _ | exact impl_areKeys.mono _ _ | exact impl_areOnions.mono _ _ | exact slices_ContainsFunc_74_at_75.mono _ _ | exact slices_Contains_string_string.mono _ _ _ | exact LeO.refl _ | exact LeO.none _ | refine LeO.ite ?_ ?_ | refine LeO.bind ?_ (fun _ => ?_)) | exact ih0 _ _ _ _ _ _ | exact ih1 _ _ _ _ _ _ _ _ | exact ih2 _ _ _ _ _ _ _ _ _ _ _ | exact ih3 _ _ _ _ _ _ _ _ _ _ _ _ | exact ih4 _ _ _ | exact impl_areKeys.mono _ _ | exact impl_areOnions.mono _ _ | exact slices_ContainsFunc_74_at_75.mono _ _ | exact slices_Contains_string_string.mono _ _ _ | exact LeO.none _ | refine LeO.ite ?_ ?_ | refine LeO.bind ?_ (fun _ => ?_))
theorem impl_GoodNet.mono : ∀ a0 a1 a2 a3 a4 k, LeO (impl_GoodNet.f k a0 a1 a2 a3 a4) (impl_GoodNet.f (k + 1) a0 a1 a2 a3 a4) := by
 intro a0 a1 a2 a3 a4 k
 obtain ⟨ih0, ih1, ih2, ih3, ih4⟩ := impl_GoodNet.mono_l k
 unfold impl_GoodNet.f
 repeat' (first | (with_reducible first | exact ih0 _ _ _ _ _ _ | exact ih1 _ _ _ _ _ _ _ _ | exact ih2 _ _ _ _ _ _ _ _ _ _ _ | exact ih3 _ _ _ _ _ _ _ _ _ _ _ _ | exact ih4 _ _ _ | exact impl_areKeys.mono _ _ | exact impl_areOnions.mono _ _ | exact slices_ContainsFunc_74_at_75.mono _ _ | exact slices_Contains_string_string.mono _ _ _ | exact LeO.refl _ | exact LeO.none _ | refine LeO.ite ?_ ?_ | refine LeO.bind ?_ (fun _ => ?_)) | exact ih0 _ _ _ _ _ _ | exact ih1 _ _ _ _ _ _ _ _ | exact ih2 _ _ _ _ _ _ _ _ _ _ _ | exact ih3 _ _ _ _ _ _ _ _ _ _ _ _ | exact ih4 _ _ _ | exact impl_areKeys.mono _ _ | exact impl_areOnions.mono _ _ | exact slices_ContainsFunc_74_at_75.mono _ _ | exact slices_Contains_string_string.mono _ _ _ | exact LeO.none _ | refine LeO.ite ?_ ?_ | refine LeO.bind ?_ (fun _ => ?_))
set_option maxHeartbeats 8000000 in
set_option maxRecDepth 100000 in
theorem impl_GoodNet.calls (k : Nat) (A0_0 : Option Addr) (c0_0 : Nat) (l0_0 : List Int) (A0_1 : Option Addr) (c0_1 : Nat) (l0_1 : List (List ByteArray)) (A0_2 : Option Addr) (c0_2 : Nat) (l0_2 : List (List ByteArray)) (A0_3 : Option Addr) (c0_3 : Nat) (l0_3 : List (List ByteArray)) (a0_4 : Int) (r : Bool) (w : World) (hr0_0 : Kd.C (Kd.int .i64) w A0_0 l0_0.length l0_0) (hc0_0 : l0_0.length ≤ c0_0) (hr0_1 : Kd.C (Kd.slice 9 Kd.string) w A0_1 l0_1.length l0_1) (hc0_1 : l0_1.length ≤ c0_1) (hr0_2 : Kd.C (Kd.slice 9 Kd.string) w A0_2 l0_2.length l0_2) (hc0_2 : l0_2.length ≤ c0_2) (hr0_3 : Kd.C (Kd.slice 9 Kd.string) w A0_3 l0_3.length l0_3) (hc0_3 : l0_3.length ≤ c0_3) (h : impl_GoodNet.f k l0_0 l0_1 l0_2 l0_3 a0_4 = some r) :
  Calls Tryz.prog 35 #[.agg #[.slice A0_0 l0_0.length c0_0, .slice A0_1 l0_1.length c0_1, .slice A0_2 l0_2.length c0_2, .slice A0_3 l0_3.length c0_3, .int .i64 a0_4]] w fun e w' => e = .returned (.bool r) ∧ Below w.heap.size w w' := by
 have hu27 := Tryz.underlying27
 have HR0_0 := Aside0.mk hr0_0; have HC0_0 := Aside0.mk hc0_0; clear hr0_0 hc0_0; have HR0_1 := Aside0.mk hr0_1; have HC0_1 := Aside0.mk hc0_1; clear hr0_1 hc0_1; have HR0_2 := Aside0.mk hr0_2; have HC0_2 := Aside0.mk hc0_2; clear hr0_2 hc0_2; have HR0_3 := Aside0.mk hr0_3; have HC0_3 := Aside0.mk hc0_3; clear hr0_3 hc0_3
 have HB := Aside0.mk (Below.refl w.heap.size w)
 have H : ((impl_within.f (l0_0.length : Int) 1 4).bind fun t271 => (if t271 = true then ((impl_areKeys.f k l0_0).bind fun t272 => (if t272 = true then (if (l0_1.length : Int) = (l0_0.length : Int) then (if (l0_2.length : Int) = (l0_0.length : Int) then (if (l0_3.length : Int) = 4 then ((impl_within.f a0_4 0 60).bind fun t273 => (impl_GoodNet.j0 k (!t273) l0_0 l0_1 l0_2 l0_3 a0_4)) else (impl_GoodNet.j0 k true l0_0 l0_1 l0_2 l0_3 a0_4)) else (impl_GoodNet.j0 k true l0_0 l0_1 l0_2 l0_3 a0_4)) else (impl_GoodNet.j0 k true l0_0 l0_1 l0_2 l0_3 a0_4)) else (impl_GoodNet.j0 k true l0_0 l0_1 l0_2 l0_3 a0_4))) else (impl_GoodNet.j0 k true l0_0 l0_1 l0_2 l0_3 a0_4))) = some r := h
 clear h; have HC2 := Aside0.mk H; clear H
 go_enter Tryz.func35, Tryz.ntmps35
 go_upto_region 2 with (first | ((with_reducible refine gate_dst (N := 1) rfl ?_); (try (refine gate_guard (by rfl) ?_; dsimp only)); refine boxev 1 #[.slice A0_0 l0_0.length c0_0, .slice A0_1 l0_1.length c0_1, .slice A0_2 l0_2.length c0_2, .slice A0_3 l0_3.length c0_3, .int .i64 a0_4] 27 ?_; intro gb270 hg w3 hbox hb; have BK270 := ak (hbox); have GW270 := ak (hgl hg (belowd HB)); have GE270 := ak (hgl hg (belowd HB)); replace HB := ak (below_step (belowd HB) hb); clear hb hbox hg; obtain ⟨hcz4_0, hcz4_1, hcz4_2, hcz4_3, hcz4_4, hfz4_0, hfz4_1, hfz4_2, hfz4_3, hfz4_4⟩ := box5 BK270))
 (try simp only [Act.put, List.setIfInBounds_toArray, List.set_cons_zero, List.set_cons_succ])
 go_cut [47] (fun v47 wc => ∃ (kq : Nat) (x47_1 : Bool), v47 = .bool x47_1 ∧ Aside0 (impl_GoodNet.j0 kq x47_1 l0_0 l0_1 l0_2 l0_3 a0_4 = some r) ∧ Aside0 (kq ≤ k) ∧ Aside0 (wc.heap[gb270]? = some (.cells #[(.slice A0_0 l0_0.length c0_0), (.slice A0_1 l0_1.length c0_1), (.slice A0_2 l0_2.length c0_2), (.slice A0_3 l0_3.length c0_3), .int .i64 a0_4] 27 (0, 0))) ∧ Aside0 (Below w.heap.size w wc))
 case first =>
  have H := HC2.out; clear HC2; replace H := bS H; obtain ⟨t271, A5, H⟩ := H
  replace H : (if t271 = true then ((impl_areKeys.f k l0_0).bind fun t272 => (if t272 = true then (if (l0_1.length : Int) = (l0_0.length : Int) then (if (l0_2.length : Int) = (l0_0.length : Int) then (if (l0_3.length : Int) = 4 then ((impl_within.f a0_4 0 60).bind fun t273 => (impl_GoodNet.j0 k (!t273) l0_0 l0_1 l0_2 l0_3 a0_4)) else (impl_GoodNet.j0 k true l0_0 l0_1 l0_2 l0_3 a0_4)) else (impl_GoodNet.j0 k true l0_0 l0_1 l0_2 l0_3 a0_4)) else (impl_GoodNet.j0 k true l0_0 l0_1 l0_2 l0_3 a0_4)) else (impl_GoodNet.j0 k true l0_0 l0_1 l0_2 l0_3 a0_4))) else (impl_GoodNet.j0 k true l0_0 l0_1 l0_2 l0_3 a0_4)) = some r := H
  by_cases c6 : t271 = true
  ·subst c6
   have H1 : ((impl_areKeys.f k l0_0).bind fun t272 => (if t272 = true then (if (l0_1.length : Int) = (l0_0.length : Int) then (if (l0_2.length : Int) = (l0_0.length : Int) then (if (l0_3.length : Int) = 4 then ((impl_within.f a0_4 0 60).bind fun t273 => (impl_GoodNet.j0 k (!t273) l0_0 l0_1 l0_2 l0_3 a0_4)) else (impl_GoodNet.j0 k true l0_0 l0_1 l0_2 l0_3 a0_4)) else (impl_GoodNet.j0 k true l0_0 l0_1 l0_2 l0_3 a0_4)) else (impl_GoodNet.j0 k true l0_0 l0_1 l0_2 l0_3 a0_4)) else (impl_GoodNet.j0 k true l0_0 l0_1 l0_2 l0_3 a0_4))) = some r := by rw [if_pos rfl] at H; exact H
   clear H
   have H := H1
   clear H1; replace H := bS H; obtain ⟨t272, A7, H⟩ := H
   replace H : (if t272 = true then (if (l0_1.length : Int) = (l0_0.length : Int) then (if (l0_2.length : Int) = (l0_0.length : Int) then (if (l0_3.length : Int) = 4 then ((impl_within.f a0_4 0 60).bind fun t273 => (impl_GoodNet.j0 k (!t273) l0_0 l0_1 l0_2 l0_3 a0_4)) else (impl_GoodNet.j0 k true l0_0 l0_1 l0_2 l0_3 a0_4)) else (impl_GoodNet.j0 k true l0_0 l0_1 l0_2 l0_3 a0_4)) else (impl_GoodNet.j0 k true l0_0 l0_1 l0_2 l0_3 a0_4)) else (impl_GoodNet.j0 k true l0_0 l0_1 l0_2 l0_3 a0_4)) = some r := H
   by_cases c8 : t272 = true
   ·subst c8
    have H1 : (if (l0_1.length : Int) = (l0_0.length : Int) then (if (l0_2.length : Int) = (l0_0.length : Int) then (if (l0_3.length : Int) = 4 then ((impl_within.f a0_4 0 60).bind fun t273 => (impl_GoodNet.j0 k (!t273) l0_0 l0_1 l0_2 l0_3 a0_4)) else (impl_GoodNet.j0 k true l0_0 l0_1 l0_2 l0_3 a0_4)) else (impl_GoodNet.j0 k true l0_0 l0_1 l0_2 l0_3 a0_4)) else (impl_GoodNet.j0 k true l0_0 l0_1 l0_2 l0_3 a0_4)) = some r := by rw [if_pos rfl] at H; exact H
    clear H
    have H := H1
    clear H1
    by_cases c9 : (l0_1.length : Int) = (l0_0.length : Int)
    ·rw [if_pos c9] at H
     have c9b0 : ((l0_1.length : Int) == (l0_0.length : Int)) = true := beq_iff_eq.mpr c9
     have c9b1 : ((l0_1.length : Int) != (l0_0.length : Int)) = false := bne_eq_false_iff_eq.mpr c9
     have c9b2 : (l0_1.length == l0_0.length) = true := by first | simpa using c9 | (simp at c9 ⊢; omega)
     clear c9
     (first | rw [c9b0] | (simp only [i64_w, i32_w]; rw [c9b0]) | skip)
     by_cases c10 : (l0_2.length : Int) = (l0_0.length : Int)
     ·rw [if_pos c10] at H
      have c10b0 : ((l0_2.length : Int) == (l0_0.length : Int)) = true := beq_iff_eq.mpr c10
      have c10b1 : ((l0_2.length : Int) != (l0_0.length : Int)) = false := bne_eq_false_iff_eq.mpr c10
      have c10b2 : (l0_2.length == l0_0.length) = true := by first | simpa using c10 | (simp at c10 ⊢; omega)
      clear c10
      by_cases c11 : (l0_3.length : Int) = 4
      ·rw [if_pos c11] at H
       have c11b0 : ((l0_3.length : Int) == 4) = true := beq_iff_eq.mpr c11
       have c11b1 : ((l0_3.length : Int) != 4) = false := bne_eq_false_iff_eq.mpr c11
       clear c11; replace H := bS H; obtain ⟨t273, A12, H⟩ := H
       replace H : (impl_GoodNet.j0 k (!t273) l0_0 l0_1 l0_2 l0_3 a0_4) = some r := H
       have H' := Aside0.mk H
       clear H
       go_wp2_with (first | ((with_reducible refine gate_callee (f := 70) rfl ?_); refine goesLa (some 14) rfl Tryz.func70 #[.int .i64 (l0_0.length : Int), .int .i64 1, .int .i64 4] rfl ?_; (with_reducible refine (impl_within.calls (l0_0.length : Int) 1 4 true _ A5.out).mono ?_); rintro e w' ⟨rfl, ⟨nd, rfl⟩⟩; refine ⟨_, rfl, ?_⟩; obtain ⟨hcz13_0, hcz13_1, hcz13_2, hcz13_3, hcz13_4, hfz13_0, hfz13_1, hfz13_2, hfz13_3, hfz13_4⟩ := box5 BK270) | (go_at_call 71; (with_reducible refine (impl_areKeys.calls k _ _ l0_0 true _ ?side1 ?side2 A7.out).mono ?_); (case side1 => exact cd (Kd.C_below HR0_0.out (belowg1 HB GE270))); (case side2 => exact HC0_0.out); rintro e w' ⟨rfl, ⟨nd, rfl⟩⟩) | (go_at_call 70; (with_reducible refine (impl_within.calls a0_4 0 60 t273 _ A12.out).mono ?_); rintro e w' ⟨rfl, ⟨nd, rfl⟩⟩))
       go_meet
       case rel => exact ⟨_, (!t273), er, H', ⟨by first | omega | exact Nat.le_refl _⟩, ⟨blkd BK270⟩, ⟨belowg1 HB GE270⟩⟩
      ·rw [if_neg c11] at H
       have c11b0 : ((l0_3.length : Int) == 4) = false := beq_eq_false_iff_ne.mpr c11
       have c11b1 : ((l0_3.length : Int) != 4) = true := bne_iff_ne.mpr c11
       have H' := Aside0.mk H
       clear H
       go_wp2_with (first | ((with_reducible refine gate_callee (f := 70) rfl ?_); refine goesLa (some 14) rfl Tryz.func70 #[.int .i64 (l0_0.length : Int), .int .i64 1, .int .i64 4] rfl ?_; (with_reducible refine (impl_within.calls (l0_0.length : Int) 1 4 true _ A5.out).mono ?_); rintro e w' ⟨rfl, ⟨nd, rfl⟩⟩; refine ⟨_, rfl, ?_⟩; obtain ⟨hcz14_0, hcz14_1, hcz14_2, hcz14_3, hcz14_4, hfz14_0, hfz14_1, hfz14_2, hfz14_3, hfz14_4⟩ := box5 BK270) | (go_at_call 71; (with_reducible refine (impl_areKeys.calls k _ _ l0_0 true _ ?side1 ?side2 A7.out).mono ?_); (case side1 => exact cd (Kd.C_below HR0_0.out (belowg1 HB GE270))); (case side2 => exact HC0_0.out); rintro e w' ⟨rfl, ⟨nd, rfl⟩⟩))
       go_meet
       case rel => exact ⟨_, (true), er, H', ⟨by first | omega | exact Nat.le_refl _⟩, ⟨blkd BK270⟩, ⟨belowg1 HB GE270⟩⟩
     ·rw [if_neg c10] at H
      have c10b0 : ((l0_2.length : Int) == (l0_0.length : Int)) = false := beq_eq_false_iff_ne.mpr c10
      have c10b1 : ((l0_2.length : Int) != (l0_0.length : Int)) = true := bne_iff_ne.mpr c10
      have c10b2 : (l0_2.length == l0_0.length) = false := by first | simpa using c10 | (simp at c10 ⊢; omega)
      have H' := Aside0.mk H
      clear H
      go_wp2_with (first | ((with_reducible refine gate_callee (f := 70) rfl ?_); refine goesLa (some 14) rfl Tryz.func70 #[.int .i64 (l0_0.length : Int), .int .i64 1, .int .i64 4] rfl ?_; (with_reducible refine (impl_within.calls (l0_0.length : Int) 1 4 true _ A5.out).mono ?_); rintro e w' ⟨rfl, ⟨nd, rfl⟩⟩; refine ⟨_, rfl, ?_⟩; obtain ⟨hcz15_0, hcz15_1, hcz15_2, hcz15_3, hcz15_4, hfz15_0, hfz15_1, hfz15_2, hfz15_3, hfz15_4⟩ := box5 BK270) | (go_at_call 71; (with_reducible refine (impl_areKeys.calls k _ _ l0_0 true _ ?side1 ?side2 A7.out).mono ?_); (case side1 => exact cd (Kd.C_below HR0_0.out (belowg1 HB GE270))); (case side2 => exact HC0_0.out); rintro e w' ⟨rfl, ⟨nd, rfl⟩⟩))
      go_meet
      case rel => exact ⟨_, (true), er, H', ⟨by first | omega | exact Nat.le_refl _⟩, ⟨blkd BK270⟩, ⟨belowg1 HB GE270⟩⟩
    ·rw [if_neg c9] at H
     have c9b0 : ((l0_1.length : Int) == (l0_0.length : Int)) = false := beq_eq_false_iff_ne.mpr c9
     have c9b1 : ((l0_1.length : Int) != (l0_0.length : Int)) = true := bne_iff_ne.mpr c9
     have c9b2 : (l0_1.length == l0_0.length) = false := by first | simpa using c9 | (simp at c9 ⊢; omega)
     (first | rw [c9b0] | (simp only [i64_w, i32_w]; rw [c9b0]) | skip)
     have H' := Aside0.mk H
     clear H
     go_wp2_with (first | ((with_reducible refine gate_callee (f := 70) rfl ?_); refine goesLa (some 14) rfl Tryz.func70 #[.int .i64 (l0_0.length : Int), .int .i64 1, .int .i64 4] rfl ?_; (with_reducible refine (impl_within.calls (l0_0.length : Int) 1 4 true _ A5.out).mono ?_); rintro e w' ⟨rfl, ⟨nd, rfl⟩⟩; refine ⟨_, rfl, ?_⟩; obtain ⟨hcz16_0, hcz16_1, hcz16_2, hcz16_3, hcz16_4, hfz16_0, hfz16_1, hfz16_2, hfz16_3, hfz16_4⟩ := box5 BK270) | (go_at_call 71; (with_reducible refine (impl_areKeys.calls k _ _ l0_0 true _ ?side1 ?side2 A7.out).mono ?_); (case side1 => exact cd (Kd.C_below HR0_0.out (belowg1 HB GE270))); (case side2 => exact HC0_0.out); rintro e w' ⟨rfl, ⟨nd, rfl⟩⟩))
     go_meet
     case rel => exact ⟨_, (true), er, H', ⟨by first | omega | exact Nat.le_refl _⟩, ⟨blkd BK270⟩, ⟨belowg1 HB GE270⟩⟩
   ·replace c8 := Bool.eq_false_iff.mpr c8
    subst c8
    have H1 : (impl_GoodNet.j0 k true l0_0 l0_1 l0_2 l0_3 a0_4) = some r := by rw [if_neg (show ¬ (false = true) by decide)] at H; exact H
    clear H
    have H := H1
    clear H1
    have H' := Aside0.mk H
    clear H
    go_wp2_with (first | ((with_reducible refine gate_callee (f := 70) rfl ?_); refine goesLa (some 14) rfl Tryz.func70 #[.int .i64 (l0_0.length : Int), .int .i64 1, .int .i64 4] rfl ?_; (with_reducible refine (impl_within.calls (l0_0.length : Int) 1 4 true _ A5.out).mono ?_); rintro e w' ⟨rfl, ⟨nd, rfl⟩⟩; refine ⟨_, rfl, ?_⟩; obtain ⟨hcz17_0, hcz17_1, hcz17_2, hcz17_3, hcz17_4, hfz17_0, hfz17_1, hfz17_2, hfz17_3, hfz17_4⟩ := box5 BK270) | (go_at_call 71; (with_reducible refine (impl_areKeys.calls k _ _ l0_0 false _ ?side1 ?side2 A7.out).mono ?_); (case side1 => exact cd (Kd.C_below HR0_0.out (belowg1 HB GE270))); (case side2 => exact HC0_0.out); rintro e w' ⟨rfl, ⟨nd, rfl⟩⟩))
    go_meet
    case rel => exact ⟨_, (true), er, H', ⟨by first | omega | exact Nat.le_refl _⟩, ⟨blkd BK270⟩, ⟨belowg1 HB GE270⟩⟩
  ·replace c6 := Bool.eq_false_iff.mpr c6
   subst c6
   have H1 : (impl_GoodNet.j0 k true l0_0 l0_1 l0_2 l0_3 a0_4) = some r := by rw [if_neg (show ¬ (false = true) by decide)] at H; exact H
   clear H
   have H := H1
   clear H1
   have H' := Aside0.mk H
   clear H
   go_wp2_with (first | ((with_reducible refine gate_callee (f := 70) rfl ?_); refine goesLa (some 14) rfl Tryz.func70 #[.int .i64 (l0_0.length : Int), .int .i64 1, .int .i64 4] rfl ?_; (with_reducible refine (impl_within.calls (l0_0.length : Int) 1 4 false _ A5.out).mono ?_); rintro e w' ⟨rfl, ⟨nd, rfl⟩⟩; refine ⟨_, rfl, ?_⟩))
   go_meet
   case rel => exact ⟨_, (true), er, H', ⟨by first | omega | exact Nat.le_refl _⟩, ⟨blkd BK270⟩, ⟨belowg1 HB GE270⟩⟩
 case rest =>
  clear HC2; (try clear hcz4_0); (try clear hcz4_1); (try clear hcz4_2); (try clear hcz4_3); (try clear hcz4_4); (try clear hfz4_0); (try clear hfz4_1); (try clear hfz4_2); (try clear hfz4_3); (try clear hfz4_4)
  obtain ⟨kq, x47_1, rfl, HA, HJ1, BK270, HB⟩ := hcut
  cases kq with
  | zero => exact absurd HA.out (by simp [impl_GoodNet.j0])
  | succ kj1 =>
   have H := HA.out; clear HA
   simp only [impl_GoodNet.j0] at H
   by_cases c18 : x47_1 = true
   ·subst c18
    have H1 : (some false) = some r := by rw [if_pos rfl] at H; exact H
    clear H
    have H := H1
    clear H1
    obtain rfl := Option.some.inj H
    go_wp2
    go_ret
    exact ⟨er2, belowg1 HB GE270⟩
   ·replace c18 := Bool.eq_false_iff.mpr c18
    subst c18
    have H1 : (impl_GoodNet.l0 kj1 l0_1 (l0_1.length : Int) 0 l0_0 l0_1 l0_2 l0_3 a0_4) = some r := by rw [if_neg (show ¬ (false = true) by decide)] at H; exact H
    clear H
    have H := H1
    clear H1
    have H' := Aside0.mk H
    clear H; obtain ⟨hcz19_0, hcz19_1, hcz19_2, hcz19_3, hcz19_4, hfz19_0, hfz19_1, hfz19_2, hfz19_3, hfz19_4⟩ := box5 BK270; go_wp2
    go_loopg [51] kj1 (fun kq v51 w' => ∃ (x51_2 : Int), v51 = .int .i64 x51_2 ∧ Aside0 (impl_GoodNet.l0 kq l0_1 (l0_1.length : Int) x51_2 l0_0 l0_1 l0_2 l0_3 a0_4 = some r) ∧ Aside0 (kq ≤ kj1) ∧ Aside0 (w'.heap[gb270]? = some (.cells #[(.slice A0_0 l0_0.length c0_0), (.slice A0_1 l0_1.length c0_1), (.slice A0_2 l0_2.length c0_2), (.slice A0_3 l0_3.length c0_3), .int .i64 a0_4] 27 (0, 0))) ∧ Aside0 (Below w.heap.size w w'))
    case atStart => exact ⟨(0), er, H', ⟨Nat.le_refl _⟩, ⟨blkd BK270⟩, ⟨belowg1 HB GE270⟩⟩
    case round =>
     clear H'
     (try clear c18); (try clear hcz19_0); (try clear hcz19_1); (try clear hcz19_2); (try clear hcz19_3); (try clear hcz19_4); (try clear hfz19_0); (try clear hfz19_1); (try clear hfz19_2); (try clear hfz19_3); (try clear hfz19_4)
     obtain ⟨x51_2, rfl, HA, HK2, BK270, HB⟩ := hrel
     cases gk with
     | zero => exact absurd HA.out (by simp [impl_GoodNet.l0])
     | succ k2 =>
      have H := HA.out; clear HA
      simp only [impl_GoodNet.l0] at H
      by_cases c20 : x51_2 < (l0_1.length : Int)
      ·rw [if_pos c20] at H
       have c20b0 : decide (x51_2 < (l0_1.length : Int)) = true := decide_eq_true c20
       clear c20; replace H := ifS H; obtain ⟨c21, H⟩ := H; have c21b0 := decide_eq_true c21; clear c21; replace H := ifS H; obtain ⟨c22, H⟩ := H; have c22b0 := decide_eq_true c22; clear c22; have HC23 := Aside0.mk H; clear H
       have p274 : 0 ≤ (x51_2 : Int) := da
       have q274 : x51_2 < (l0_1.length : Int) := da
       obtain ⟨ad274, A274_0, c274_0, e274, hx274_0, hl274_0, hi274_0⟩ := at_L2 HR0_1.out x51_2 p274 q274
       cases e274
       replace hx274_0 := (HB.out.cell (World.block_lt_of_cell? w _ hx274_0)).trans hx274_0
       have HR274_0 := Aside0.mk hi274_0; have HC274_0 := Aside0.mk hl274_0; clear hi274_0 hl274_0; replace p274 := eq_true p274; replace q274 := eq_true q274
       go_upto_region 7 with (fail)
       go_cut [67] (fun v67 wc => ∃ (kq : Nat) (x67_22 : Bool), v67 = .bool x67_22 ∧ Aside0 (impl_GoodNet.j2 kq x51_2 (rd_L2 l0_1 x51_2) l0_1 (l0_1.length : Int) x51_2 x67_22 l0_0 l0_1 l0_2 l0_3 a0_4 = some r) ∧ Aside0 (kq ≤ k2) ∧ Aside0 (wc.heap[gb270]? = some (.cells #[(.slice A0_0 l0_0.length c0_0), (.slice (some ad274) l0_1.length c0_1), (.slice A0_2 l0_2.length c0_2), (.slice A0_3 l0_3.length c0_3), .int .i64 a0_4] 27 (0, 0))) ∧ Aside0 (Below w.heap.size w wc))
       case first =>
        have H := HC23.out; clear HC23; replace H := bS H; obtain ⟨t275, A24, H⟩ := H
        replace H : (if t275 = true then (if x51_2 < (l0_2.length : Int) then ((impl_areOnions.f k2 (rd_L2 l0_2 x51_2)).bind fun t277 => (impl_GoodNet.j2 k2 x51_2 (rd_L2 l0_1 x51_2) l0_1 (l0_1.length : Int) x51_2 (!t277) l0_0 l0_1 l0_2 l0_3 a0_4)) else (none)) else (impl_GoodNet.j2 k2 x51_2 (rd_L2 l0_1 x51_2) l0_1 (l0_1.length : Int) x51_2 true l0_0 l0_1 l0_2 l0_3 a0_4)) = some r := H
        by_cases c25 : t275 = true
        ·subst c25
         have H1 : (if x51_2 < (l0_2.length : Int) then ((impl_areOnions.f k2 (rd_L2 l0_2 x51_2)).bind fun t277 => (impl_GoodNet.j2 k2 x51_2 (rd_L2 l0_1 x51_2) l0_1 (l0_1.length : Int) x51_2 (!t277) l0_0 l0_1 l0_2 l0_3 a0_4)) else (none)) = some r := by rw [if_pos rfl] at H; exact H
         clear H
         have H := H1
         clear H1; replace H := ifS H; obtain ⟨c26, H⟩ := H; have c26b0 := decide_eq_true c26; clear c26
         (first | rw [c26b0] | (simp only [i64_w, i32_w]; rw [c26b0]) | skip)
         replace H := bS H; obtain ⟨t277, A27, H⟩ := H
         replace H : (impl_GoodNet.j2 k2 x51_2 (rd_L2 l0_1 x51_2) l0_1 (l0_1.length : Int) x51_2 (!t277) l0_0 l0_1 l0_2 l0_3 a0_4) = some r := H
         have H' := Aside0.mk H
         clear H
         go_wp2_with (first | ((with_reducible refine gate_callee (f := 72) rfl ?_); refine goesLa (some 57) rfl Tryz.func72 #[.slice A274_0 (rd_L2 l0_1 x51_2).length c274_0] rfl ?_; (with_reducible refine (impl_areOnions.calls k2 _ _ (rd_L2 l0_1 x51_2) true _ ?side1 ?side2 A24.out).mono ?_); (case side1 => exact cd (Kd.C_below HR274_0.out HB.out)); (case side2 => exact HC274_0.out); rintro e w' ⟨rfl, ⟨nd, rfl⟩⟩; refine ⟨_, rfl, ?_⟩; obtain ⟨hcz28_0, hcz28_1, hcz28_2, hcz28_3, hcz28_4, hfz28_0, hfz28_1, hfz28_2, hfz28_3, hfz28_4⟩ := box5 BK270; have p276 : 0 ≤ (x51_2 : Int) := da; have q276 : x51_2 < (l0_2.length : Int) := da; obtain ⟨ad276, A276_0, c276_0, e276, hx276_0, hl276_0, hi276_0⟩ := at_L2 HR0_2.out x51_2 p276 q276; cases e276; replace hx276_0 := (HB.out.cell (World.block_lt_of_cell? w _ hx276_0)).trans hx276_0; have HR276_0 := Aside0.mk hi276_0; have HC276_0 := Aside0.mk hl276_0; clear hi276_0 hl276_0; replace p276 := eq_true p276; replace q276 := eq_true q276) | (go_at_call 72; (with_reducible refine (impl_areOnions.calls k2 _ _ (rd_L2 l0_2 x51_2) t277 _ ?side1 ?side2 A27.out).mono ?_); (case side1 => exact cd (Kd.C_below HR276_0.out (belowg1 HB GE270))); (case side2 => exact HC276_0.out); rintro e w' ⟨rfl, ⟨nd, rfl⟩⟩))
         go_meet
         case rel => exact ⟨_, (!t277), er, H', ⟨by have := HJ1.out; have := HK2.out; first | omega | exact Nat.le_refl _⟩, ⟨blkd BK270⟩, ⟨belowg1 HB GE270⟩⟩
        ·replace c25 := Bool.eq_false_iff.mpr c25
         subst c25
         have H1 : (impl_GoodNet.j2 k2 x51_2 (rd_L2 l0_1 x51_2) l0_1 (l0_1.length : Int) x51_2 true l0_0 l0_1 l0_2 l0_3 a0_4) = some r := by rw [if_neg (show ¬ (false = true) by decide)] at H; exact H
         clear H
         have H := H1
         clear H1
         have H' := Aside0.mk H
         clear H
         go_wp2_with (first | ((with_reducible refine gate_callee (f := 72) rfl ?_); refine goesLa (some 57) rfl Tryz.func72 #[.slice A274_0 (rd_L2 l0_1 x51_2).length c274_0] rfl ?_; (with_reducible refine (impl_areOnions.calls k2 _ _ (rd_L2 l0_1 x51_2) false _ ?side1 ?side2 A24.out).mono ?_); (case side1 => exact cd (Kd.C_below HR274_0.out HB.out)); (case side2 => exact HC274_0.out); rintro e w' ⟨rfl, ⟨nd, rfl⟩⟩; refine ⟨_, rfl, ?_⟩))
         go_meet
         case rel => exact ⟨_, (true), er, H', ⟨by have := HJ1.out; have := HK2.out; first | omega | exact Nat.le_refl _⟩, ⟨blkd BK270⟩, ⟨belowg1 HB GE270⟩⟩
       case rest =>
        clear HC23; (try clear c20b0); (try clear c21b0); (try clear c22b0); (try clear hx274_0); (try clear p274); (try clear q274)
        obtain ⟨kq, x67_22, rfl, HA, HJ22, BK270, HB⟩ := hcut
        cases kq with
        | zero => exact absurd HA.out (by simp [impl_GoodNet.j2])
        | succ kj22 =>
         have H := HA.out; clear HA
         simp only [impl_GoodNet.j2] at H
         by_cases c29 : x67_22 = true
         ·subst c29
          have H1 : (some false) = some r := by rw [if_pos rfl] at H; exact H
          clear H
          have H := H1
          clear H1
          obtain rfl := Option.some.inj H
          go_wp2
          go_ret
          exact ⟨er2, belowg1 HB GE270⟩
         ·replace c29 := Bool.eq_false_iff.mpr c29
          subst c29
          have H1 : (impl_GoodNet.l1 kj22 x51_2 l0_1 (l0_1.length : Int) x51_2 (rd_L2 l0_1 x51_2) ((rd_L2 l0_1 x51_2).length : Int) 0 l0_0 l0_1 l0_2 l0_3 a0_4) = some r := by rw [if_neg (show ¬ (false = true) by decide)] at H; exact H
          clear H
          have H := H1
          clear H1
          have H' := Aside0.mk H
          clear H; go_wp2
          go_loopg [70] kj22 (fun kq v70 w' => ∃ (x70_4 : Int), v70 = .int .i64 x70_4 ∧ Aside0 (impl_GoodNet.l1 kq x51_2 l0_1 (l0_1.length : Int) x51_2 (rd_L2 l0_1 x51_2) ((rd_L2 l0_1 x51_2).length : Int) x70_4 l0_0 l0_1 l0_2 l0_3 a0_4 = some r) ∧ Aside0 (kq ≤ kj22) ∧ Aside0 (w'.heap[gb270]? = some (.cells #[(.slice A0_0 l0_0.length c0_0), (.slice (some ad274) l0_1.length c0_1), (.slice A0_2 l0_2.length c0_2), (.slice A0_3 l0_3.length c0_3), .int .i64 a0_4] 27 (0, 0))) ∧ Aside0 (Below w.heap.size w w'))
          case atStart => exact ⟨(0), er, H', ⟨Nat.le_refl _⟩, ⟨blkd BK270⟩, ⟨belowg1 HB GE270⟩⟩
          case round =>
           clear H'
           (try clear c29)
           obtain ⟨x70_4, rfl, HA, HK4, BK270, HB⟩ := hrel
           cases gk with
           | zero => exact absurd HA.out (by simp [impl_GoodNet.l1])
           | succ k4 =>
            have H := HA.out; clear HA
            simp only [impl_GoodNet.l1] at H
            by_cases c30 : x70_4 < ((rd_L2 l0_1 x51_2).length : Int)
            ·rw [if_pos c30] at H
             have c30b0 : decide (x70_4 < ((rd_L2 l0_1 x51_2).length : Int)) = true := decide_eq_true c30
             clear c30; replace H := ifS H; obtain ⟨c31, H⟩ := H; have c31b0 := decide_eq_true c31; clear c31; replace H := ifS H; obtain ⟨c32, H⟩ := H; have c32b0 := decide_eq_true c32; clear c32; replace H := ifS H; obtain ⟨c33, H⟩ := H; have c33b0 := decide_eq_true c33; clear c33; replace H := ifS H; obtain ⟨c34, H⟩ := H; have c34b0 := decide_eq_true c34; clear c34; replace H := bS H; obtain ⟨t280, A35, H⟩ := H
             replace H : (if t280 = true then (impl_GoodNet.l1 k4 x51_2 l0_1 (l0_1.length : Int) x51_2 (rd_L2 l0_1 x51_2) ((rd_L2 l0_1 x51_2).length : Int) (wrap64 (x70_4 + 1)) l0_0 l0_1 l0_2 l0_3 a0_4) else (some false)) = some r := H
             by_cases c36 : t280 = true
             ·subst c36
              have H1 : (impl_GoodNet.l1 k4 x51_2 l0_1 (l0_1.length : Int) x51_2 (rd_L2 l0_1 x51_2) ((rd_L2 l0_1 x51_2).length : Int) (wrap64 (x70_4 + 1)) l0_0 l0_1 l0_2 l0_3 a0_4) = some r := by rw [if_pos rfl] at H; exact H
              clear H
              have H := H1
              clear H1
              have H' := Aside0.mk H
              clear H
              have p278 : 0 ≤ (x70_4 : Int) := da
              have q278 : x70_4 < ((rd_L2 l0_1 x51_2).length : Int) := da
              obtain ⟨ad278, e278, hx278_0⟩ := Kd.at_string HR274_0.out x70_4 p278 q278
              cases e278
              replace hx278_0 := (HB.out.cell (World.block_lt_of_cell? w _ hx278_0)).trans hx278_0
              replace p278 := eq_true p278; replace q278 := eq_true q278; obtain ⟨hcz37_0, hcz37_1, hcz37_2, hcz37_3, hcz37_4, hfz37_0, hfz37_1, hfz37_2, hfz37_3, hfz37_4⟩ := box5 BK270
              have p279 : 0 ≤ (x51_2 : Int) := da
              have q279 : x51_2 < (l0_2.length : Int) := da
              obtain ⟨ad279, A279_0, c279_0, e279, hx279_0, hl279_0, hi279_0⟩ := at_L2 HR0_2.out x51_2 p279 q279
              cases e279
              replace hx279_0 := (HB.out.cell (World.block_lt_of_cell? w _ hx279_0)).trans hx279_0
              have HR279_0 := Aside0.mk hi279_0; have HC279_0 := Aside0.mk hl279_0; clear hi279_0 hl279_0; replace p279 := eq_true p279; replace q279 := eq_true q279
              go_wp2_with (first | ((with_reducible refine gate_callee (f := 73) rfl ?_); refine goesLa (some 80) rfl Tryz.func73 #[.slice A279_0 (rd_L2 l0_2 x51_2).length c279_0, .string (rdOf ByteArray.empty (rd_L2 l0_1 x51_2) x70_4)] rfl ?_; (with_reducible refine (slices_Contains_string_string.calls k4 _ _ (rd_L2 l0_2 x51_2) (rdOf ByteArray.empty (rd_L2 l0_1 x51_2) x70_4) true _ ?side1 ?side2 A35.out).mono ?_); (case side1 => exact cd (Kd.C_below HR279_0.out HB.out)); (case side2 => exact HC279_0.out); rintro e w' ⟨rfl, ⟨nd, rfl⟩⟩; refine ⟨_, rfl, ?_⟩))
              go_roundg k4
              case measure => have := HJ1.out; have := HK2.out; have := HJ22.out; have := HK4.out; omega
              case rel => exact ⟨(wrap64 (x70_4 + 1)), er, H', ⟨by have := HJ1.out; have := HK2.out; have := HJ22.out; have := HK4.out; omega⟩, ⟨blkd BK270⟩, ⟨belowg1 HB GE270⟩⟩
             ·replace c36 := Bool.eq_false_iff.mpr c36
              subst c36
              have H1 : (some false) = some r := by rw [if_neg (show ¬ (false = true) by decide)] at H; exact H
              clear H
              have H := H1
              clear H1
              obtain rfl := Option.some.inj H
              have p278 : 0 ≤ (x70_4 : Int) := da
              have q278 : x70_4 < ((rd_L2 l0_1 x51_2).length : Int) := da
              obtain ⟨ad278, e278, hx278_0⟩ := Kd.at_string HR274_0.out x70_4 p278 q278
              cases e278
              replace hx278_0 := (HB.out.cell (World.block_lt_of_cell? w _ hx278_0)).trans hx278_0
              replace p278 := eq_true p278; replace q278 := eq_true q278; obtain ⟨hcz38_0, hcz38_1, hcz38_2, hcz38_3, hcz38_4, hfz38_0, hfz38_1, hfz38_2, hfz38_3, hfz38_4⟩ := box5 BK270
              have p279 : 0 ≤ (x51_2 : Int) := da
              have q279 : x51_2 < (l0_2.length : Int) := da
              obtain ⟨ad279, A279_0, c279_0, e279, hx279_0, hl279_0, hi279_0⟩ := at_L2 HR0_2.out x51_2 p279 q279
              cases e279
              replace hx279_0 := (HB.out.cell (World.block_lt_of_cell? w _ hx279_0)).trans hx279_0
              have HR279_0 := Aside0.mk hi279_0; have HC279_0 := Aside0.mk hl279_0; clear hi279_0 hl279_0; replace p279 := eq_true p279; replace q279 := eq_true q279
              go_wp2_with (first | ((with_reducible refine gate_callee (f := 73) rfl ?_); refine goesLa (some 80) rfl Tryz.func73 #[.slice A279_0 (rd_L2 l0_2 x51_2).length c279_0, .string (rdOf ByteArray.empty (rd_L2 l0_1 x51_2) x70_4)] rfl ?_; (with_reducible refine (slices_Contains_string_string.calls k4 _ _ (rd_L2 l0_2 x51_2) (rdOf ByteArray.empty (rd_L2 l0_1 x51_2) x70_4) false _ ?side1 ?side2 A35.out).mono ?_); (case side1 => exact cd (Kd.C_below HR279_0.out HB.out)); (case side2 => exact HC279_0.out); rintro e w' ⟨rfl, ⟨nd, rfl⟩⟩; refine ⟨_, rfl, ?_⟩))
              go_ret
              exact ⟨er2, belowg1 HB GE270⟩
            ·rw [if_neg c30] at H
             have c30b0 : decide (x70_4 < ((rd_L2 l0_1 x51_2).length : Int)) = false := decide_eq_false c30
             clear c30
             have H' := Aside0.mk H
             clear H; go_wp2
             go_roundg k4
             case measure => have := HJ1.out; have := HK2.out; have := HJ22.out; have := HK4.out; omega
             case rel => exact ⟨(wrap64 (x51_2 + 1)), er, H', ⟨by have := HJ1.out; have := HK2.out; have := HJ22.out; have := HK4.out; omega⟩, ⟨blkd BK270⟩, ⟨belowg1 HB GE270⟩⟩
      ·rw [if_neg c20] at H
       have c20b0 : decide (x51_2 < (l0_1.length : Int)) = false := decide_eq_false c20
       clear c20
       have H' := Aside0.mk H
       clear H; obtain ⟨hcz39_0, hcz39_1, hcz39_2, hcz39_3, hcz39_4, hfz39_0, hfz39_1, hfz39_2, hfz39_3, hfz39_4⟩ := box5 BK270; go_wp2
       go_loopg [87] k2 (fun kq v87 w' => ∃ (x87_3 : Int), v87 = .int .i64 x87_3 ∧ Aside0 (impl_GoodNet.l2 kq l0_3 (l0_3.length : Int) x87_3 = some r) ∧ Aside0 (kq ≤ k2) ∧ Aside0 (w'.heap[gb270]? = some (.cells #[(.slice A0_0 l0_0.length c0_0), (.slice A0_1 l0_1.length c0_1), (.slice A0_2 l0_2.length c0_2), (.slice A0_3 l0_3.length c0_3), .int .i64 a0_4] 27 (0, 0))) ∧ Aside0 (Below w.heap.size w w'))
       case atStart => exact ⟨(0), er, H', ⟨Nat.le_refl _⟩, ⟨blkd BK270⟩, ⟨belowg1 HB GE270⟩⟩
       case round =>
        clear H'
        (try clear c20b0); (try clear hcz39_0); (try clear hcz39_1); (try clear hcz39_2); (try clear hcz39_3); (try clear hcz39_4); (try clear hfz39_0); (try clear hfz39_1); (try clear hfz39_2); (try clear hfz39_3); (try clear hfz39_4)
        obtain ⟨x87_3, rfl, HA, HK3, BK270, HB⟩ := hrel
        cases gk with
        | zero => exact absurd HA.out (by simp [impl_GoodNet.l2])
        | succ k3 =>
         have H := HA.out; clear HA
         simp only [impl_GoodNet.l2] at H
         by_cases c40 : x87_3 < (l0_3.length : Int)
         ·rw [if_pos c40] at H
          have c40b0 : decide (x87_3 < (l0_3.length : Int)) = true := decide_eq_true c40
          clear c40; replace H := ifS H; obtain ⟨c41, H⟩ := H; have c41b0 := decide_eq_true c41; clear c41; replace H := ifS H; obtain ⟨c42, H⟩ := H; have c42b0 := decide_eq_true c42; clear c42
          by_cases c43 : ((rd_L2 l0_3 x87_3).length : Int) > 60
          ·rw [if_pos c43] at H
           have c43b0 : decide (60 < ((rd_L2 l0_3 x87_3).length : Int)) = true := decide_eq_true c43
           have c43b1 : decide (60 < (rd_L2 l0_3 x87_3).length) = true := decide_eq_true (by omega)
           clear c43
           obtain rfl := Option.some.inj H
           have p281 : 0 ≤ (x87_3 : Int) := da
           have q281 : x87_3 < (l0_3.length : Int) := da
           obtain ⟨ad281, A281_0, c281_0, e281, hx281_0, hl281_0, hi281_0⟩ := at_L2 HR0_3.out x87_3 p281 q281
           cases e281
           replace hx281_0 := (HB.out.cell (World.block_lt_of_cell? w _ hx281_0)).trans hx281_0
           have HR281_0 := Aside0.mk hi281_0; have HC281_0 := Aside0.mk hl281_0; clear hi281_0 hl281_0; replace p281 := eq_true p281; replace q281 := eq_true q281; go_wp2
           go_ret
           exact ⟨er2, belowg1 HB GE270⟩
          ·rw [if_neg c43] at H
           have c43b0 : decide (60 < ((rd_L2 l0_3 x87_3).length : Int)) = false := decide_eq_false c43
           have c43b1 : decide (60 < (rd_L2 l0_3 x87_3).length) = false := decide_eq_false (by omega)
           clear c43; replace H := bS H; obtain ⟨t282, A44, H⟩ := H
           replace H : (if t282 = true then (some false) else (impl_GoodNet.l2 k3 l0_3 (l0_3.length : Int) (wrap64 (x87_3 + 1)))) = some r := H
           by_cases c45 : t282 = true
           ·subst c45
            have H1 : (some false) = some r := by rw [if_pos rfl] at H; exact H
            clear H
            have H := H1
            clear H1
            obtain rfl := Option.some.inj H
            have p281 : 0 ≤ (x87_3 : Int) := da
            have q281 : x87_3 < (l0_3.length : Int) := da
            obtain ⟨ad281, A281_0, c281_0, e281, hx281_0, hl281_0, hi281_0⟩ := at_L2 HR0_3.out x87_3 p281 q281
            cases e281
            replace hx281_0 := (HB.out.cell (World.block_lt_of_cell? w _ hx281_0)).trans hx281_0
            have HR281_0 := Aside0.mk hi281_0; have HC281_0 := Aside0.mk hl281_0; clear hi281_0 hl281_0; replace p281 := eq_true p281; replace q281 := eq_true q281
            go_wp2_with (first | (go_at_call 74; (with_reducible refine (slices_ContainsFunc_74_at_75.calls k3 _ _ (rd_L2 l0_3 x87_3)  true _ ?side1 ?side2 A44.out).mono ?_); (case side1 => exact cd (Kd.C_below HR281_0.out HB.out)); (case side2 => exact HC281_0.out); rintro e w' ⟨rfl, ⟨nd, rfl⟩⟩))
            go_ret
            exact ⟨er2, belowg1 HB GE270⟩
           ·replace c45 := Bool.eq_false_iff.mpr c45
            subst c45
            have H1 : (impl_GoodNet.l2 k3 l0_3 (l0_3.length : Int) (wrap64 (x87_3 + 1))) = some r := by rw [if_neg (show ¬ (false = true) by decide)] at H; exact H
            clear H
            have H := H1
            clear H1
            have H' := Aside0.mk H
            clear H
            have p281 : 0 ≤ (x87_3 : Int) := da
            have q281 : x87_3 < (l0_3.length : Int) := da
            obtain ⟨ad281, A281_0, c281_0, e281, hx281_0, hl281_0, hi281_0⟩ := at_L2 HR0_3.out x87_3 p281 q281
            cases e281
            replace hx281_0 := (HB.out.cell (World.block_lt_of_cell? w _ hx281_0)).trans hx281_0
            have HR281_0 := Aside0.mk hi281_0; have HC281_0 := Aside0.mk hl281_0; clear hi281_0 hl281_0; replace p281 := eq_true p281; replace q281 := eq_true q281
            go_wp2_with (first | (go_at_call 74; (with_reducible refine (slices_ContainsFunc_74_at_75.calls k3 _ _ (rd_L2 l0_3 x87_3)  false _ ?side1 ?side2 A44.out).mono ?_); (case side1 => exact cd (Kd.C_below HR281_0.out HB.out)); (case side2 => exact HC281_0.out); rintro e w' ⟨rfl, ⟨nd, rfl⟩⟩))
            go_roundg k3
            case measure => have := HJ1.out; have := HK2.out; have := HK3.out; omega
            case rel => exact ⟨(wrap64 (x87_3 + 1)), er, H', ⟨by have := HJ1.out; have := HK2.out; have := HK3.out; omega⟩, ⟨blkd BK270⟩, ⟨belowg1 HB GE270⟩⟩
         ·rw [if_neg c40] at H
          have c40b0 : decide (x87_3 < (l0_3.length : Int)) = false := decide_eq_false c40
          clear c40
          obtain rfl := Option.some.inj H
          go_wp2
          go_ret
          exact ⟨er2, belowg1 HB GE270⟩

/-! ### slices_Clone_int_int: function 85 -/
def slices_Clone_int_int.f (l0 : List Int) : Option (List Int) := (some (([] : List Int) : List Int)).bind fun y283 => (if y283.length + l0.length < 17592186044416 then (some (y283 ++ l0)) else (none))
theorem clonenil85 (w : World) (a : Option Addr) (m c m' c' : Nat) : (Go.binOp .eql 22 (.slice a m c) (.slice none m' c')).run Tryz.prog w = .ok (.bool a.isNone) w := Go.Lib.run_eql_slice_nil w 22 3 a m c m' c' Tryz.underlying22
attribute [local go_sem high] clonenil85
set_option maxHeartbeats 8000000 in
set_option maxRecDepth 100000 in
theorem slices_Clone_int_int.calls_some (ad0 : Addr) (c0 : Nat) (l0 : List Int) (r : List Int) (w : World) (hr0 : Kd.C (Kd.int .i64) w (some ad0) l0.length l0) (hc0 : l0.length ≤ c0) (h : slices_Clone_int_int.f l0 = some r) :
  Calls Tryz.prog 85 #[.slice (some ad0) l0.length c0] w fun e w' => ∃ v0_ : Value, e = .returned (v0_) ∧ Kd.R (Kd.int .i64) 3 w' w.heap.size (fun _ => True) v0_ r ∧ Below w.heap.size w w' := by
 have HR0 := Aside0.mk hr0; have HC0 := Aside0.mk hc0; clear hr0 hc0
 have HB := Aside0.mk (Below.refl w.heap.size w)
 have H : ((some (([] : List Int) : List Int)).bind fun y283 => (if y283.length + l0.length < 17592186044416 then (some (y283 ++ l0)) else (none))) = some r := h
 clear h
 obtain ⟨y283, hy_⟩ : ∃ y_ : List Int, y_ = (([] : List Int)) := ⟨_, rfl⟩
 replace H : (if y283.length + l0.length < 17592186044416 then (some (y283 ++ l0)) else (none)) = some r := yH
 have Ny283 := ak hy_; clear hy_; replace H := ifS H; obtain ⟨c2, H⟩ := H; have LMc2 := Aside0.mk c2; clear c2
 obtain ⟨y286, hy_⟩ : ∃ y_ : List Int, y_ = (y283 ++ l0) := ⟨_, rfl⟩
 replace H : (some y286) = some r := yH
 have Ny286 := ak hy_; clear hy_
 obtain rfl := Option.some.inj H
 go_enter Tryz.func85, Tryz.ntmps85
 go_wp2_with (first | ((with_reducible refine gate_dst (N := 5) rfl ?_); refine Kd.R_lit (Kd.int .i64) _ 3 ?hg (N := 5) ?hd (xs := ([] : List Int)) (inner := []) (ok := fun _ => True) (okp := fun _ => True) ?hr ?hp (fun _ hk => hk) trivial (Below.refl _ _) (Nat.le_refl _) (by simp) ?_; (case hd => rfl); (case hg => rfl); (case hr => first | (go_simp; done) | (go_simp; rfl)); (case hp => exact (Reps.none _ _)); intro v284 w3 ho4 hb hg_ hnew_; clear hg_ hnew_; (first | rw [← Ny283.out] at ho4 | (simp only [Int.reduceToNat] at ho4; rw [← Ny283.out] at ho4)); have HO285 := ak (Kd.R_lower ho4 (below_size (belowd HB))); replace HB := ak (below_step (belowd HB) hb); clear hb ho4) | ((with_reducible refine gate_builtin (b := .append) (xs := #[.tmp 5, .tmp 6]) rfl ?_); at_builtin; refine Kd.R_append_rows (Kd.int .i64) (w0 := w) w.heap.size rfl (.tmp 5) (.tmp 6) 22 3 (.int .i64 0) 8 rfl Tryz.underlying22 info3 rfl (by decide) (by omega) v284 y283 l0 _ _ _ (fun _ => True) (fun _ => False) rfl rfl ?aO ?aR (fun _ _ h => h) (fun _ h => h.elim) ?aF ?aB ?aS ?aL ?_; (case aR => exact cd (Kd.C_below HR0.out HB.out)); (case aB => exact (belowd HB)); (case aF => exact (fun _ _ => trivial)); (case aO => exact (rdl HO285)); (case aS => exact (below_size (belowd HB))); (case aL => have := LMc2.out; omega); intro v287 w5 ho hb hg hat; rw [← Ny286.out] at ho; replace HB := ak (hb); have HO288 := ak (ho); clear HO285; clear ho hb hg hat))
 go_ret
 exact ⟨_, er2, by (with_reducible repeat (first | apply Kd.R_alloc | apply Kd.R_drewN | apply Kd.R_drew)); exact HO288.out, belowd HB⟩

set_option maxHeartbeats 8000000 in
set_option maxRecDepth 100000 in
theorem slices_Clone_int_int.calls (A0 : Option Addr) (c0 : Nat) (l0 : List Int) (r : List Int) (w : World) (hr0 : Kd.C (Kd.int .i64) w A0 l0.length l0) (hc0 : l0.length ≤ c0) (h : slices_Clone_int_int.f l0 = some r) :
  Calls Tryz.prog 85 #[.slice A0 l0.length c0] w fun e w' => ∃ v0_ : Value, e = .returned (v0_) ∧ Kd.R (Kd.int .i64) 3 w' w.heap.size (fun _ => True) v0_ r ∧ Below w.heap.size w w' := by
 cases A0 with
 | some ad0 => exact slices_Clone_int_int.calls_some ad0 c0 l0 r w hr0 hc0 h
 | none =>
  have hl : l0 = [] := by
   rcases Nat.eq_zero_or_pos l0.length with h0 | h0
   ·exact List.eq_nil_of_length_eq_zero h0
   ·obtain ⟨ad, he, _⟩ := hr0.2.2 h0
    cases he
  subst hl
  have hr : r = [] := by
   have h' := h
   simp [slices_Clone_int_int.f] at h'
   first | exact h'.symm | exact h'
  subst hr; clear h hr0 hc0
  go_enter Tryz.func85, Tryz.ntmps85
  go_wp2
  go_ret
  exact ⟨_, rfl, Kd.R_nil _ _ _ _ _, Below.refl _ _⟩

end Go.Proofs.YtihekdlcfohkkaaGreatDoor.QFnExactStepNet
