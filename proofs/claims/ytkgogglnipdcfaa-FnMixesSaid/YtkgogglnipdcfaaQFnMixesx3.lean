-- printed by this session's own program (wip/tools/pp.py: the kit's print.py with changes); Lean checks it
import Derived.Test.YtkgogglnipdcfaaQFnMixesx0
import Derived.Test.YtkgogglnipdcfaaQFnMixesx2
namespace Go.Proofs.Ytkgogglnipdcfaa.QFnMixes
open Go.RowKit Go.Proofs.YtkgogglnipdcfaaW.PrintWords Go.Proofs.YtkgogglnipdcfaaW.PrintLast Go.Proofs.YtkgogglnipdcfaaW.PrintMore
attribute [local go_sem] max2_int min2_int max_two min_two max_three min_three max_four min_four strLss strGtr strLeq strGeq   -- for this text's walks alone
set_option linter.unusedVariables false
set_option linter.unusedSimpArgs false

/-! ### impl_isRising: function 126 -/
def impl_isRising.l0 : Nat → List Int → Int → Int → Int → Option (Bool)
  | 0, _, _, _, _ => none
  | k + 1, x0, x1, x2, x7 => if x7 < (x0.length : Int) then (if 0 ≤ (wrap64 (x7 - 1)) then (if (wrap64 (x7 - 1)) < (x0.length : Int) then (if 0 ≤ x7 then (if (rd x0 (wrap64 (x7 - 1))) ≥ (rd x0 x7) then (some false) else (impl_isRising.l0 k x0 x1 x2 (wrap64 (x7 + 1)))) else (none)) else (none)) else (none)) else ((impl_allWithin.f k x0 x1 x2).bind fun t250 => (some t250))
def impl_isRising.f (k : Nat) (l0 : List Int) (a1 : Int) (a2 : Int) : Option (Bool) := impl_isRising.l0 k l0 a1 a2 1
theorem impl_isRising.mono_l : ∀ k, (∀ y0 y1 y2 y3, LeO (impl_isRising.l0 k y0 y1 y2 y3) (impl_isRising.l0 (k + 1) y0 y1 y2 y3))
 | 0 => fun _ _ _ _ r h => by simp [impl_isRising.l0] at h
 | k + 1 => by
  have ih0 := impl_isRising.mono_l k
  ·intro y0 y1 y2 y3
   unfold impl_isRising.l0
   repeat' (first | (with_reducible first | exact ih0 _ _ _ _ | exact impl_allWithin.mono _ _ _ _ | exact LeO.refl _ | exact LeO.none _ | refine LeO.ite ?_ ?_ | refine LeO.bind ?_ (fun _ => ?_)) | exact ih0 _ _ _ _ | exact impl_allWithin.mono _ _ _ _ | exact LeO.none _ | refine LeO.ite ?_ ?_ | refine LeO.bind ?_ (fun _ => ?_))
theorem impl_isRising.mono : ∀ a0 a1 a2 k, LeO (impl_isRising.f k a0 a1 a2) (impl_isRising.f (k + 1) a0 a1 a2) := by
 intro a0 a1 a2 k
 have ih0 := impl_isRising.mono_l k
 unfold impl_isRising.f
 repeat' (first | (with_reducible first | exact ih0 _ _ _ _ | exact impl_allWithin.mono _ _ _ _ | exact LeO.refl _ | exact LeO.none _ | refine LeO.ite ?_ ?_ | refine LeO.bind ?_ (fun _ => ?_)) | exact ih0 _ _ _ _ | exact impl_allWithin.mono _ _ _ _ | exact LeO.none _ | refine LeO.ite ?_ ?_ | refine LeO.bind ?_ (fun _ => ?_))
set_option maxHeartbeats 8000000 in
set_option maxRecDepth 100000 in
theorem impl_isRising.calls (k : Nat) (A0 : Option Addr) (c0 : Nat) (l0 : List Int) (a1 : Int) (a2 : Int) (r : Bool) (w : World) (hr0 : Kd.C (Kd.int .i64) w A0 l0.length l0) (hc0 : l0.length ≤ c0) (h : impl_isRising.f k l0 a1 a2 = some r) :
  Calls Try.prog 126 #[.slice A0 l0.length c0, .int .i64 a1, .int .i64 a2] w fun e w' => e = .returned (.bool r) ∧ Drawn0 w w' := by
 have HR0 := Aside0.mk hr0; have HC0 := Aside0.mk hc0; clear hr0 hc0
 have H : (impl_isRising.l0 k l0 a1 a2 1) = some r := h
 clear h
 have H' := Aside0.mk H
 clear H
 go_enter Try.func126, Try.ntmps126
 go_wp2
 repeat (go_quiet (fail); try go_wp2)
 go_loopg [7] k (fun kq v7 w' => ∃ (x7_1 : Int), v7 = .int .i64 x7_1 ∧ Aside0 (impl_isRising.l0 kq l0 a1 a2 x7_1 = some r) ∧ Aside0 (kq ≤ k) ∧ Drawn0 w w')
 case atStart => exact ⟨(1), er, H', ⟨Nat.le_refl _⟩, drw⟩
 case round =>
  clear H'
  obtain ⟨x7_1, rfl, HA, HK1, ⟨m1, rfl⟩⟩ := hrel
  cases gk with
  | zero => exact absurd HA.out (by simp [impl_isRising.l0])
  | succ k1 =>
   have H := HA.out; clear HA
   simp only [impl_isRising.l0] at H
   by_cases c4 : x7_1 < (l0.length : Int)
   ·rw [if_pos c4] at H
    have c4b0 : decide (x7_1 < (l0.length : Int)) = true := decide_eq_true c4
    clear c4
    obtain ⟨ji5, hji5⟩ : ∃ j_ : Int, (wrap64 (x7_1 - 1)) = j_ := ⟨_, rfl⟩
    replace H : (if 0 ≤ (ji5) then (if (ji5) < (l0.length : Int) then (if 0 ≤ x7_1 then (if (rd l0 (ji5)) ≥ (rd l0 x7_1) then (some false) else (impl_isRising.l0 k1 l0 a1 a2 (wrap64 (x7_1 + 1)))) else (none)) else (none)) else (none)) = some r := by first | (rw [hji5] at H; exact H) | (simp only [hji5] at H ⊢; exact H)
    have hji5w : (IntKind.i64.wrap (x7_1 - 1)) = ji5 := (i64_w _).trans hji5
    replace H := ifS H; obtain ⟨c6, H⟩ := H; have c6b0 := decide_eq_true c6; clear c6; replace H := ifS H; obtain ⟨c7, H⟩ := H; have c7b0 := decide_eq_true c7; clear c7; replace H := ifS H; obtain ⟨c8, H⟩ := H; have c8b0 := decide_eq_true c8; clear c8
    by_cases c9 : (rd l0 (ji5)) ≥ (rd l0 x7_1)
    ·rw [if_pos c9] at H
     have c9b0 : decide ((rd l0 x7_1) ≤ (rd l0 (ji5))) = true := decide_eq_true c9
     clear c9
     obtain rfl := Option.some.inj H
     have p248 : 0 ≤ ((ji5) : Int) := da
     have q248 : (ji5) < (l0.length : Int) := da
     obtain ⟨ad248, e248, hx248_0⟩ := Kd.at_int HR0.out (ji5) p248 q248
     cases e248
     replace p248 := eq_true p248; replace q248 := eq_true q248
     have p249 : 0 ≤ (x7_1 : Int) := da
     have q249 : x7_1 < (l0.length : Int) := da
     obtain ⟨ad249, e249, hx249_0⟩ := Kd.at_int HR0.out x7_1 p249 q249
     obtain rfl : ad248 = ad249 := (by injection e249)
     replace p249 := eq_true p249; replace q249 := eq_true q249; go_wp2
     repeat (go_quiet (fail); try go_wp2)
     go_ret
     exact ⟨by first | rfl | (simp; done) | (simp only [← hji5] <;> (first | rfl | simp)) | (simp [*]; done), drw⟩
    ·rw [if_neg c9] at H
     have c9b0 : decide ((rd l0 x7_1) ≤ (rd l0 (ji5))) = false := decide_eq_false c9
     clear c9
     have H' := Aside0.mk H
     clear H
     have p248 : 0 ≤ ((ji5) : Int) := da
     have q248 : (ji5) < (l0.length : Int) := da
     obtain ⟨ad248, e248, hx248_0⟩ := Kd.at_int HR0.out (ji5) p248 q248
     cases e248
     replace p248 := eq_true p248; replace q248 := eq_true q248
     have p249 : 0 ≤ (x7_1 : Int) := da
     have q249 : x7_1 < (l0.length : Int) := da
     obtain ⟨ad249, e249, hx249_0⟩ := Kd.at_int HR0.out x7_1 p249 q249
     obtain rfl : ad248 = ad249 := (by injection e249)
     replace p249 := eq_true p249; replace q249 := eq_true q249; go_wp2
     repeat (go_quiet (fail); try go_wp2)
     go_roundg k1
     case measure => have := HK1.out; omega
     case rel => exact ⟨(wrap64 (x7_1 + 1)), er, H', ⟨by have := HK1.out; omega⟩, drw⟩
   ·rw [if_neg c4] at H
    have c4b0 : decide (x7_1 < (l0.length : Int)) = false := decide_eq_false c4
    clear c4; replace H := bS H; obtain ⟨t250, A10, H⟩ := H
    replace H : (some t250) = some r := H
    obtain rfl := Option.some.inj H
    go_wp2_with (first | (go_at_call 196; (with_reducible refine (impl_allWithin.calls k1 _ _ l0 a1 a2 t250 _ ?side1 ?side2 A10.out).mono ?_); (case side1 => exact cd HR0.out); (case side2 => exact HC0.out); rintro e w' ⟨rfl, ⟨nd, rfl⟩⟩; (try first | exact ⟨rfl, _, World.drewN_drewN _ _ _⟩ | exact ⟨rfl, _, Eq.trans (World.drewN_drewN _ _ _) (congrArg (World.drewN _) (Nat.add_assoc _ _ _))⟩)))
    repeat (go_quiet (first | (go_at_call 196; (with_reducible refine (impl_allWithin.calls k1 _ _ l0 a1 a2 t250 _ ?side1 ?side2 A10.out).mono ?_); (case side1 => exact cd HR0.out); (case side2 => exact HC0.out); rintro e w' ⟨rfl, ⟨nd, rfl⟩⟩; (try first | exact ⟨rfl, _, World.drewN_drewN _ _ _⟩ | exact ⟨rfl, _, Eq.trans (World.drewN_drewN _ _ _) (congrArg (World.drewN _) (Nat.add_assoc _ _ _))⟩))); try go_wp2_with (first | (go_at_call 196; (with_reducible refine (impl_allWithin.calls k1 _ _ l0 a1 a2 t250 _ ?side1 ?side2 A10.out).mono ?_); (case side1 => exact cd HR0.out); (case side2 => exact HC0.out); rintro e w' ⟨rfl, ⟨nd, rfl⟩⟩; (try first | exact ⟨rfl, _, World.drewN_drewN _ _ _⟩ | exact ⟨rfl, _, Eq.trans (World.drewN_drewN _ _ _) (congrArg (World.drewN _) (Nat.add_assoc _ _ _))⟩))))
    go_ret
    exact ⟨er, drw⟩

/-! ### cmp_isNaN_string: function 235 -/
def cmp_isNaN_string.f (a0 : ByteArray) : Option (Bool) := some (a0.toList != a0.toList)
set_option maxHeartbeats 8000000 in
set_option maxRecDepth 100000 in
theorem cmp_isNaN_string.calls (a0 : ByteArray) (r : Bool) (w : World) (h : cmp_isNaN_string.f a0 = some r) :
  Calls Try.prog 235 #[.string a0] w fun e w' => e = .returned (.bool r) ∧ Drawn0 w w' := by
 have H : (some (a0.toList != a0.toList)) = some r := h
 clear h
 obtain rfl := Option.some.inj H
 go_enter Try.func235, Try.ntmps235
 go_wp2
 go_ret
 exact ⟨er, drw⟩

/-! ### cmp_Less_string: function 216 -/
def cmp_Less_string.f (a0 : ByteArray) (a1 : ByteArray) : Option (Bool) := (cmp_isNaN_string.f a0).bind fun t251 => (if t251 = true then ((cmp_isNaN_string.f a1).bind fun t252 => (if t252 = true then (some (Op.bytesLess a0.toList a1.toList)) else (some true))) else (some (Op.bytesLess a0.toList a1.toList)))
set_option maxHeartbeats 8000000 in
set_option maxRecDepth 100000 in
theorem cmp_Less_string.calls (a0 : ByteArray) (a1 : ByteArray) (r : Bool) (w : World) (h : cmp_Less_string.f a0 a1 = some r) :
  Calls Try.prog 216 #[.string a0, .string a1] w fun e w' => e = .returned (.bool r) ∧ Drawn0 w w' := by
 have H : ((cmp_isNaN_string.f a0).bind fun t251 => (if t251 = true then ((cmp_isNaN_string.f a1).bind fun t252 => (if t252 = true then (some (Op.bytesLess a0.toList a1.toList)) else (some true))) else (some (Op.bytesLess a0.toList a1.toList)))) = some r := h
 clear h; replace H := bS H; obtain ⟨t251, A3, H⟩ := H
 replace H : (if t251 = true then ((cmp_isNaN_string.f a1).bind fun t252 => (if t252 = true then (some (Op.bytesLess a0.toList a1.toList)) else (some true))) else (some (Op.bytesLess a0.toList a1.toList))) = some r := H
 by_cases c4 : t251 = true
 ·subst c4
  have H1 : ((cmp_isNaN_string.f a1).bind fun t252 => (if t252 = true then (some (Op.bytesLess a0.toList a1.toList)) else (some true))) = some r := by rw [if_pos rfl] at H; exact H
  clear H
  have H := H1
  clear H1; replace H := bS H; obtain ⟨t252, A5, H⟩ := H
  replace H : (if t252 = true then (some (Op.bytesLess a0.toList a1.toList)) else (some true)) = some r := H
  by_cases c6 : t252 = true
  ·subst c6
   have H1 : (some (Op.bytesLess a0.toList a1.toList)) = some r := by rw [if_pos rfl] at H; exact H
   clear H
   have H := H1
   clear H1
   obtain rfl := Option.some.inj H
   go_enter Try.func216, Try.ntmps216
   go_wp2_with (first | ((with_reducible refine gate_callee (f := 235) rfl ?_); refine goesLa (some 6) rfl Try.func235 #[.string a0] rfl ?_; (with_reducible refine (cmp_isNaN_string.calls a0 true _ A3.out).mono ?_); rintro e w' ⟨rfl, ⟨nd, rfl⟩⟩; refine ⟨_, rfl, ?_⟩) | (go_at_call 235; (with_reducible refine (cmp_isNaN_string.calls a1 true _ A5.out).mono ?_); rintro e w' ⟨rfl, ⟨nd, rfl⟩⟩))
   go_ret
   exact ⟨er, drw⟩
  ·replace c6 := Bool.eq_false_iff.mpr c6
   subst c6
   have H1 : (some true) = some r := by rw [if_neg (show ¬ (false = true) by decide)] at H; exact H
   clear H
   have H := H1
   clear H1
   obtain rfl := Option.some.inj H
   go_enter Try.func216, Try.ntmps216
   go_wp2_with (first | ((with_reducible refine gate_callee (f := 235) rfl ?_); refine goesLa (some 6) rfl Try.func235 #[.string a0] rfl ?_; (with_reducible refine (cmp_isNaN_string.calls a0 true _ A3.out).mono ?_); rintro e w' ⟨rfl, ⟨nd, rfl⟩⟩; refine ⟨_, rfl, ?_⟩) | (go_at_call 235; (with_reducible refine (cmp_isNaN_string.calls a1 false _ A5.out).mono ?_); rintro e w' ⟨rfl, ⟨nd, rfl⟩⟩))
   go_ret
   exact ⟨er, drw⟩
 ·replace c4 := Bool.eq_false_iff.mpr c4
  subst c4
  have H1 : (some (Op.bytesLess a0.toList a1.toList)) = some r := by rw [if_neg (show ¬ (false = true) by decide)] at H; exact H
  clear H
  have H := H1
  clear H1
  obtain rfl := Option.some.inj H
  go_enter Try.func216, Try.ntmps216
  go_wp2_with (first | ((with_reducible refine gate_callee (f := 235) rfl ?_); refine goesLa (some 6) rfl Try.func235 #[.string a0] rfl ?_; (with_reducible refine (cmp_isNaN_string.calls a0 false _ A3.out).mono ?_); rintro e w' ⟨rfl, ⟨nd, rfl⟩⟩; refine ⟨_, rfl, ?_⟩))
  go_ret
  exact ⟨er, drw⟩

/-! ### slices_IsSorted_string_string: function 177 -/
def slices_IsSorted_string_string.l0 : Nat → List ByteArray → Int → Option (Bool)
  | 0, _, _ => none
  | k + 1, x0, x3 => if x3 > 0 then (if 0 ≤ x3 then (if x3 < (x0.length : Int) then (if 0 ≤ (wrap64 (x3 - 1)) then (if (wrap64 (x3 - 1)) < (x0.length : Int) then ((cmp_Less_string.f (rdOf ByteArray.empty x0 x3) (rdOf ByteArray.empty x0 (wrap64 (x3 - 1)))).bind fun t255 => (if t255 = true then (some false) else (slices_IsSorted_string_string.l0 k x0 (wrap64 (x3 - 1))))) else (none)) else (none)) else (none)) else (none)) else (some true)
def slices_IsSorted_string_string.f (k : Nat) (l0 : List ByteArray) : Option (Bool) := slices_IsSorted_string_string.l0 k l0 (wrap64 ((l0.length : Int) - 1))
theorem slices_IsSorted_string_string.mono_l : ∀ k, (∀ y0 y1, LeO (slices_IsSorted_string_string.l0 k y0 y1) (slices_IsSorted_string_string.l0 (k + 1) y0 y1))
 | 0 => fun _ _ r h => by simp [slices_IsSorted_string_string.l0] at h
 | k + 1 => by
  have ih0 := slices_IsSorted_string_string.mono_l k
  ·intro y0 y1
   unfold slices_IsSorted_string_string.l0
   repeat' (first | (with_reducible first | exact ih0 _ _ | exact LeO.refl _ | exact LeO.none _ | refine LeO.ite ?_ ?_ | refine LeO.bind ?_ (fun _ => ?_)) | exact ih0 _ _ | exact LeO.none _ | refine LeO.ite ?_ ?_ | refine LeO.bind ?_ (fun _ => ?_))
theorem slices_IsSorted_string_string.mono : ∀ a0 k, LeO (slices_IsSorted_string_string.f k a0) (slices_IsSorted_string_string.f (k + 1) a0) := by
 intro a0 k
 have ih0 := slices_IsSorted_string_string.mono_l k
 unfold slices_IsSorted_string_string.f
 repeat' (first | (with_reducible first | exact ih0 _ _ | exact LeO.refl _ | exact LeO.none _ | refine LeO.ite ?_ ?_ | refine LeO.bind ?_ (fun _ => ?_)) | exact ih0 _ _ | exact LeO.none _ | refine LeO.ite ?_ ?_ | refine LeO.bind ?_ (fun _ => ?_))
set_option maxHeartbeats 8000000 in
set_option maxRecDepth 100000 in
theorem slices_IsSorted_string_string.calls (k : Nat) (A0 : Option Addr) (c0 : Nat) (l0 : List ByteArray) (r : Bool) (w : World) (hr0 : Kd.C Kd.string w A0 l0.length l0) (hc0 : l0.length ≤ c0) (h : slices_IsSorted_string_string.f k l0 = some r) :
  Calls Try.prog 177 #[.slice A0 l0.length c0] w fun e w' => e = .returned (.bool r) ∧ Drawn0 w w' := by
 have HR0 := Aside0.mk hr0; have HC0 := Aside0.mk hc0; clear hr0 hc0
 have H : (slices_IsSorted_string_string.l0 k l0 (wrap64 ((l0.length : Int) - 1))) = some r := h
 clear h
 have H' := Aside0.mk H
 clear H
 go_enter Try.func177, Try.ntmps177
 go_wp2
 repeat (go_quiet (fail); try go_wp2)
 go_loopg [3] k (fun kq v3 w' => ∃ (x3_1 : Int), v3 = .int .i64 x3_1 ∧ Aside0 (slices_IsSorted_string_string.l0 kq l0 x3_1 = some r) ∧ Aside0 (kq ≤ k) ∧ Drawn0 w w')
 case atStart => exact ⟨(wrap64 ((l0.length : Int) - 1)), er, H', ⟨Nat.le_refl _⟩, drw⟩
 case round =>
  clear H'
  obtain ⟨x3_1, rfl, HA, HK1, ⟨m1, rfl⟩⟩ := hrel
  cases gk with
  | zero => exact absurd HA.out (by simp [slices_IsSorted_string_string.l0])
  | succ k1 =>
   have H := HA.out; clear HA
   simp only [slices_IsSorted_string_string.l0] at H
   by_cases c2 : x3_1 > 0
   ·rw [if_pos c2] at H
    have c2b0 : decide (0 < x3_1) = true := decide_eq_true c2
    clear c2; replace H := ifS H; obtain ⟨c3, H⟩ := H; have c3b0 := decide_eq_true c3; clear c3; replace H := ifS H; obtain ⟨c4, H⟩ := H; have c4b0 := decide_eq_true c4; clear c4
    obtain ⟨ji5, hji5⟩ : ∃ j_ : Int, (wrap64 (x3_1 - 1)) = j_ := ⟨_, rfl⟩
    replace H : (if 0 ≤ (ji5) then (if (ji5) < (l0.length : Int) then ((cmp_Less_string.f (rdOf ByteArray.empty l0 x3_1) (rdOf ByteArray.empty l0 (ji5))).bind fun t255 => (if t255 = true then (some false) else (slices_IsSorted_string_string.l0 k1 l0 ji5))) else (none)) else (none)) = some r := by first | (rw [hji5] at H; exact H) | (simp only [hji5] at H ⊢; exact H)
    have hji5w : (IntKind.i64.wrap (x3_1 - 1)) = ji5 := (i64_w _).trans hji5
    replace H := ifS H; obtain ⟨c6, H⟩ := H; have c6b0 := decide_eq_true c6; clear c6; replace H := ifS H; obtain ⟨c7, H⟩ := H; have c7b0 := decide_eq_true c7; clear c7; replace H := bS H; obtain ⟨t255, A8, H⟩ := H
    replace H : (if t255 = true then (some false) else (slices_IsSorted_string_string.l0 k1 l0 ji5)) = some r := H
    by_cases c9 : t255 = true
    ·subst c9
     have H1 : (some false) = some r := by rw [if_pos rfl] at H; exact H
     clear H
     have H := H1
     clear H1
     obtain rfl := Option.some.inj H
     have p253 : 0 ≤ (x3_1 : Int) := da
     have q253 : x3_1 < (l0.length : Int) := da
     obtain ⟨ad253, e253, hx253_0⟩ := Kd.at_string HR0.out x3_1 p253 q253
     cases e253
     replace p253 := eq_true p253; replace q253 := eq_true q253
     have p254 : 0 ≤ ((ji5) : Int) := da
     have q254 : (ji5) < (l0.length : Int) := da
     obtain ⟨ad254, e254, hx254_0⟩ := Kd.at_string HR0.out (ji5) p254 q254
     obtain rfl : ad253 = ad254 := (by injection e254)
     replace p254 := eq_true p254; replace q254 := eq_true q254
     go_wp2_with (first | (go_at_call 216; (with_reducible refine (cmp_Less_string.calls (rdOf ByteArray.empty l0 x3_1) (rdOf ByteArray.empty l0 (ji5)) true _ A8.out).mono ?_); rintro e w' ⟨rfl, ⟨nd, rfl⟩⟩; (try first | exact ⟨rfl, _, World.drewN_drewN _ _ _⟩ | exact ⟨rfl, _, Eq.trans (World.drewN_drewN _ _ _) (congrArg (World.drewN _) (Nat.add_assoc _ _ _))⟩)))
     repeat (go_quiet (first | (go_at_call 216; (with_reducible refine (cmp_Less_string.calls (rdOf ByteArray.empty l0 x3_1) (rdOf ByteArray.empty l0 (ji5)) true _ A8.out).mono ?_); rintro e w' ⟨rfl, ⟨nd, rfl⟩⟩; (try first | exact ⟨rfl, _, World.drewN_drewN _ _ _⟩ | exact ⟨rfl, _, Eq.trans (World.drewN_drewN _ _ _) (congrArg (World.drewN _) (Nat.add_assoc _ _ _))⟩))); try go_wp2_with (first | (go_at_call 216; (with_reducible refine (cmp_Less_string.calls (rdOf ByteArray.empty l0 x3_1) (rdOf ByteArray.empty l0 (ji5)) true _ A8.out).mono ?_); rintro e w' ⟨rfl, ⟨nd, rfl⟩⟩; (try first | exact ⟨rfl, _, World.drewN_drewN _ _ _⟩ | exact ⟨rfl, _, Eq.trans (World.drewN_drewN _ _ _) (congrArg (World.drewN _) (Nat.add_assoc _ _ _))⟩))))
     go_ret
     exact ⟨by first | rfl | (simp; done) | (simp only [← hji5] <;> (first | rfl | simp)) | (simp [*]; done), drw⟩
    ·replace c9 := Bool.eq_false_iff.mpr c9
     subst c9
     have H1 : (slices_IsSorted_string_string.l0 k1 l0 ji5) = some r := by rw [if_neg (show ¬ (false = true) by decide)] at H; exact H
     clear H
     have H := H1
     clear H1
     have H' := Aside0.mk H
     clear H
     have p253 : 0 ≤ (x3_1 : Int) := da
     have q253 : x3_1 < (l0.length : Int) := da
     obtain ⟨ad253, e253, hx253_0⟩ := Kd.at_string HR0.out x3_1 p253 q253
     cases e253
     replace p253 := eq_true p253; replace q253 := eq_true q253
     have p254 : 0 ≤ ((ji5) : Int) := da
     have q254 : (ji5) < (l0.length : Int) := da
     obtain ⟨ad254, e254, hx254_0⟩ := Kd.at_string HR0.out (ji5) p254 q254
     obtain rfl : ad253 = ad254 := (by injection e254)
     replace p254 := eq_true p254; replace q254 := eq_true q254
     go_wp2_with (first | (go_at_call 216; (with_reducible refine (cmp_Less_string.calls (rdOf ByteArray.empty l0 x3_1) (rdOf ByteArray.empty l0 (ji5)) false _ A8.out).mono ?_); rintro e w' ⟨rfl, ⟨nd, rfl⟩⟩; (try first | exact ⟨rfl, _, World.drewN_drewN _ _ _⟩ | exact ⟨rfl, _, Eq.trans (World.drewN_drewN _ _ _) (congrArg (World.drewN _) (Nat.add_assoc _ _ _))⟩)))
     repeat (go_quiet (first | (go_at_call 216; (with_reducible refine (cmp_Less_string.calls (rdOf ByteArray.empty l0 x3_1) (rdOf ByteArray.empty l0 (ji5)) false _ A8.out).mono ?_); rintro e w' ⟨rfl, ⟨nd, rfl⟩⟩; (try first | exact ⟨rfl, _, World.drewN_drewN _ _ _⟩ | exact ⟨rfl, _, Eq.trans (World.drewN_drewN _ _ _) (congrArg (World.drewN _) (Nat.add_assoc _ _ _))⟩))); try go_wp2_with (first | (go_at_call 216; (with_reducible refine (cmp_Less_string.calls (rdOf ByteArray.empty l0 x3_1) (rdOf ByteArray.empty l0 (ji5)) false _ A8.out).mono ?_); rintro e w' ⟨rfl, ⟨nd, rfl⟩⟩; (try first | exact ⟨rfl, _, World.drewN_drewN _ _ _⟩ | exact ⟨rfl, _, Eq.trans (World.drewN_drewN _ _ _) (congrArg (World.drewN _) (Nat.add_assoc _ _ _))⟩))))
     go_roundg k1
     case measure => have := HK1.out; omega
     case rel => exact ⟨(ji5), (by first | rfl | (simp; done) | (simp only [← hji5] <;> (first | rfl | simp)) | (simp [*]; done)), H', ⟨by have := HK1.out; omega⟩, drw⟩
   ·rw [if_neg c2] at H
    have c2b0 : decide (0 < x3_1) = false := decide_eq_false c2
    clear c2
    obtain rfl := Option.some.inj H
    go_wp2
    repeat (go_quiet (fail); try go_wp2)
    go_ret
    exact ⟨er, drw⟩

/-! ### impl_GoodMix: function 99 -/
mutual
def impl_GoodMix.j0 : Nat → Bool → List ByteArray → Int → Int → Int → List Int → Option (Bool)
  | 0, _, _, _, _, _, _ => none
  | k + 1, x45, x257000, x257001, x257002, x257003, x257004 => if x45 = true then (some false) else (if (x257004.length : Int) > 100 then (impl_GoodMix.j1 k true x257000 x257001 x257002 x257003 x257004) else ((impl_isRising.f k x257004 0 4092).bind fun t262 => (impl_GoodMix.j1 k (!t262) x257000 x257001 x257002 x257003 x257004)))
def impl_GoodMix.j1 : Nat → Bool → List ByteArray → Int → Int → Int → List Int → Option (Bool)
  | 0, _, _, _, _, _, _ => none
  | k + 1, x55, x257000, x257001, x257002, x257003, x257004 => if x55 = true then (some false) else (impl_GoodMix.l0 k (([] : List Int)) x257000 (x257000.length : Int) 0 x257000 x257001 x257002 x257003 x257004)
def impl_GoodMix.l0 : Nat → List Int → List ByteArray → Int → Int → List ByteArray → Int → Int → Int → List Int → Option (Bool)
  | 0, _, _, _, _, _, _, _, _, _ => none
  | k + 1, x3, x58, x59, x60, x257000, x257001, x257002, x257003, x257004 => if x60 < x59 then (if 0 ≤ x60 then (if x60 < (x58.length : Int) then ((impl_tag.f k (rdOf ByteArray.empty x58 x60)).bind fun t267 => ((slices_Contains_int_int.f k x257004 t267).bind fun t268 => (if t268 = true then ((slices_Contains_int_int.f k x3 t267).bind fun t269 => (if t269 = true then (some false) else (if x3.length < 17592186044416 then (impl_GoodMix.l0 k (x3 ++ [t267]) x58 x59 (wrap64 (x60 + 1)) x257000 x257001 x257002 x257003 x257004) else (none)))) else (some false)))) else (none)) else (none)) else (some true)
end
def impl_GoodMix.f (k : Nat) (l0_0 : List ByteArray) (a0_1 : Int) (a0_2 : Int) (a0_3 : Int) (l0_4 : List Int) : Option (Bool) := (impl_areLetters.f k l0_0).bind fun t257 => (if t257 = true then ((slices_IsSorted_string_string.f k l0_0).bind fun t258 => (if t258 = true then ((impl_within.f a0_1 1 12).bind fun t259 => (if t259 = true then ((impl_within.f a0_2 1 10).bind fun t260 => (if t260 = true then ((impl_within.f a0_3 0 10).bind fun t261 => (if t261 = true then (if (l0_0.length : Int) = 0 then (impl_GoodMix.j0 k (a0_3 != 0) l0_0 a0_1 a0_2 a0_3 l0_4) else (impl_GoodMix.j0 k false l0_0 a0_1 a0_2 a0_3 l0_4)) else (impl_GoodMix.j0 k true l0_0 a0_1 a0_2 a0_3 l0_4))) else (impl_GoodMix.j0 k true l0_0 a0_1 a0_2 a0_3 l0_4))) else (impl_GoodMix.j0 k true l0_0 a0_1 a0_2 a0_3 l0_4))) else (impl_GoodMix.j0 k true l0_0 a0_1 a0_2 a0_3 l0_4))) else (impl_GoodMix.j0 k true l0_0 a0_1 a0_2 a0_3 l0_4))
theorem impl_GoodMix.mono_l : ∀ k, (∀ y0 y1 y2 y3 y4 y5, LeO (impl_GoodMix.j0 k y0 y1 y2 y3 y4 y5) (impl_GoodMix.j0 (k + 1) y0 y1 y2 y3 y4 y5)) ∧ (∀ y0 y1 y2 y3 y4 y5, LeO (impl_GoodMix.j1 k y0 y1 y2 y3 y4 y5) (impl_GoodMix.j1 (k + 1) y0 y1 y2 y3 y4 y5)) ∧ (∀ y0 y1 y2 y3 y4 y5 y6 y7 y8, LeO (impl_GoodMix.l0 k y0 y1 y2 y3 y4 y5 y6 y7 y8) (impl_GoodMix.l0 (k + 1) y0 y1 y2 y3 y4 y5 y6 y7 y8))
 | 0 => ⟨fun _ _ _ _ _ _ r h => by simp [impl_GoodMix.j0] at h, fun _ _ _ _ _ _ r h => by simp [impl_GoodMix.j1] at h, fun _ _ _ _ _ _ _ _ _ r h => by simp [impl_GoodMix.l0] at h⟩
 | k + 1 => by
  obtain ⟨ih0, ih1, ih2⟩ := impl_GoodMix.mono_l k
  refine ⟨?_, ?_, ?_⟩
  ·intro y0 y1 y2 y3 y4 y5
   unfold impl_GoodMix.j0
   repeat' (first | (with_reducible first | exact ih0 _ _ _ _ _ _ | exact ih1 _ _ _ _ _ _ | exact ih2 _ _ _ _ _ _ _ _ _ | exact impl_areLetters.mono _ _ | exact impl_isRising.mono _ _ _ _ | exact impl_tag.mono _ _ | exact slices_Contains_int_int.mono _ _ _ | exact slices_IsSorted_string_string.mono _ _ | exact LeO.refl _ | exact LeO.none _ | refine LeO.ite ?_ ?_ | refine LeO.bind ?_ (fun _ => ?_)) | exact ih0 _ _ _ _ _ _ | exact ih1 _ _ _ _ _ _ | exact ih2 _ _ _ _ _ _ _ _ _ | exact impl_areLetters.mono _ _ | exact impl_isRising.mono _ _ _ _ | exact impl_tag.mono _ _ | exact slices_Contains_int_int.mono _ _ _ | exact slices_IsSorted_string_string.mono _ _ | exact LeO.none _ | refine LeO.ite ?_ ?_ | refine LeO.bind ?_ (fun _ => ?_))
  ·intro y0 y1 y2 y3 y4 y5
   unfold impl_GoodMix.j1
   repeat' (first | (with_reducible first | exact ih0 _ _ _ _ _ _ | exact ih1 _ _ _ _ _ _ | exact ih2 _ _ _ _ _ _ _ _ _ | exact impl_areLetters.mono _ _ | exact impl_isRising.mono _ _ _ _ | exact impl_tag.mono _ _ | exact slices_Contains_int_int.mono _ _ _ | exact slices_IsSorted_string_string.mono _ _ | exact LeO.refl _ | exact LeO.none _ | refine LeO.ite ?_ ?_ | refine LeO.bind ?_ (fun _ => ?_)) | exact ih0 _ _ _ _ _ _ | exact ih1 _ _ _ _ _ _ | exact ih2 _ _ _ _ _ _ _ _ _ | exact impl_areLetters.mono _ _ | exact impl_isRising.mono _ _ _ _ | exact impl_tag.mono _ _ | exact slices_Contains_int_int.mono _ _ _ | exact slices_IsSorted_string_string.mono _ _ | exact LeO.none _ | refine LeO.ite ?_ ?_ | refine LeO.bind ?_ (fun _ => ?_))
  ·intro y0 y1 y2 y3 y4 y5 y6 y7 y8
   unfold impl_GoodMix.l0
   repeat' (first | (with_reducible first | exact ih0 _ _ _ _ _ _ | exact ih1 _ _ _ _ _ _ | exact ih2 _ _ _ _ _ _ _ _ _ | exact impl_areLetters.mono _ _ | exact impl_isRising.mono _ _ _ _ | exact impl_tag.mono _ _ | exact slices_Contains_int_int.mono _ _ _ | exact slices_IsSorted_string_string.mono _ _ | exact LeO.refl _ | exact LeO.none _ | refine LeO.ite ?_ ?_ | refine LeO.bind ?_ (fun _ => ?_)) | exact ih0 _ _ _ _ _ _ | exact ih1 _ _ _ _ _ _ | exact ih2 _ _ _ _ _ _ _ _ _ | exact impl_areLetters.mono _ _ | exact impl_isRising.mono _ _ _ _ | exact impl_tag.mono _ _ | exact slices_Contains_int_int.mono _ _ _ | exact slices_IsSorted_string_string.mono _ _ | exact LeO.none _ | refine LeO.ite ?_ ?_ | refine LeO.bind ?_ (fun _ => ?_))
theorem impl_GoodMix.mono : ∀ a0 a1 a2 a3 a4 k, LeO (impl_GoodMix.f k a0 a1 a2 a3 a4) (impl_GoodMix.f (k + 1) a0 a1 a2 a3 a4) := by
 intro a0 a1 a2 a3 a4 k
 obtain ⟨ih0, ih1, ih2⟩ := impl_GoodMix.mono_l k
 unfold impl_GoodMix.f
 repeat' (first | (with_reducible first | exact ih0 _ _ _ _ _ _ | exact ih1 _ _ _ _ _ _ | exact ih2 _ _ _ _ _ _ _ _ _ | exact impl_areLetters.mono _ _ | exact impl_isRising.mono _ _ _ _ | exact impl_tag.mono _ _ | exact slices_Contains_int_int.mono _ _ _ | exact slices_IsSorted_string_string.mono _ _ | exact LeO.refl _ | exact LeO.none _ | refine LeO.ite ?_ ?_ | refine LeO.bind ?_ (fun _ => ?_)) | exact ih0 _ _ _ _ _ _ | exact ih1 _ _ _ _ _ _ | exact ih2 _ _ _ _ _ _ _ _ _ | exact impl_areLetters.mono _ _ | exact impl_isRising.mono _ _ _ _ | exact impl_tag.mono _ _ | exact slices_Contains_int_int.mono _ _ _ | exact slices_IsSorted_string_string.mono _ _ | exact LeO.none _ | refine LeO.ite ?_ ?_ | refine LeO.bind ?_ (fun _ => ?_))
set_option maxHeartbeats 8000000 in
set_option maxRecDepth 100000 in
theorem impl_GoodMix.calls (k : Nat) (A0_0 : Option Addr) (c0_0 : Nat) (l0_0 : List ByteArray) (a0_1 : Int) (a0_2 : Int) (a0_3 : Int) (A0_4 : Option Addr) (c0_4 : Nat) (l0_4 : List Int) (r : Bool) (w : World) (hr0_0 : Kd.C Kd.string w A0_0 l0_0.length l0_0) (hc0_0 : l0_0.length ≤ c0_0) (hr0_4 : Kd.C (Kd.int .i64) w A0_4 l0_4.length l0_4) (hc0_4 : l0_4.length ≤ c0_4) (h : impl_GoodMix.f k l0_0 a0_1 a0_2 a0_3 l0_4 = some r) :
  Calls Try.prog 99 #[.agg #[.slice A0_0 l0_0.length c0_0, .int .i64 a0_1, .int .i64 a0_2, .int .i64 a0_3, .slice A0_4 l0_4.length c0_4]] w fun e w' => e = .returned (.bool r) ∧ Below w.heap.size w w' := by
 have hu27 := Try.underlying27
 have HR0_0 := Aside0.mk hr0_0; have HC0_0 := Aside0.mk hc0_0; clear hr0_0 hc0_0; have HR0_4 := Aside0.mk hr0_4; have HC0_4 := Aside0.mk hc0_4; clear hr0_4 hc0_4
 have HB := Aside0.mk (Below.refl w.heap.size w)
 have H : ((impl_areLetters.f k l0_0).bind fun t257 => (if t257 = true then ((slices_IsSorted_string_string.f k l0_0).bind fun t258 => (if t258 = true then ((impl_within.f a0_1 1 12).bind fun t259 => (if t259 = true then ((impl_within.f a0_2 1 10).bind fun t260 => (if t260 = true then ((impl_within.f a0_3 0 10).bind fun t261 => (if t261 = true then (if (l0_0.length : Int) = 0 then (impl_GoodMix.j0 k (a0_3 != 0) l0_0 a0_1 a0_2 a0_3 l0_4) else (impl_GoodMix.j0 k false l0_0 a0_1 a0_2 a0_3 l0_4)) else (impl_GoodMix.j0 k true l0_0 a0_1 a0_2 a0_3 l0_4))) else (impl_GoodMix.j0 k true l0_0 a0_1 a0_2 a0_3 l0_4))) else (impl_GoodMix.j0 k true l0_0 a0_1 a0_2 a0_3 l0_4))) else (impl_GoodMix.j0 k true l0_0 a0_1 a0_2 a0_3 l0_4))) else (impl_GoodMix.j0 k true l0_0 a0_1 a0_2 a0_3 l0_4))) = some r := h
 clear h; have HC2 := Aside0.mk H; clear H
 go_enter Try.func99, Try.ntmps99
 go_upto_region 1 with (first | ((with_reducible refine gate_dst (N := 1) rfl ?_); (try (refine gate_guard (by rfl) ?_; dsimp only)); refine boxev 1 #[.slice A0_0 l0_0.length c0_0, .int .i64 a0_1, .int .i64 a0_2, .int .i64 a0_3, .slice A0_4 l0_4.length c0_4] 27 ?_; intro gb256 hg w3 hbox hb; have BK256 := ak (hbox); have GW256 := ak (hgl hg (belowd HB)); have GE256 := ak (hgl hg (belowd HB)); replace HB := ak (below_step (belowd HB) hb); clear hb hbox hg))
 (try simp only [Act.put, List.setIfInBounds_toArray, List.set_cons_zero, List.set_cons_succ])
 go_cut [45] (fun v45 wc => ∃ (kq : Nat) (x45_1 : Bool), v45 = .bool x45_1 ∧ Aside0 (impl_GoodMix.j0 kq x45_1 l0_0 a0_1 a0_2 a0_3 l0_4 = some r) ∧ Aside0 (kq ≤ k) ∧ Aside0 (wc.heap[gb256]? = some (.cells #[(.slice A0_0 l0_0.length c0_0), .int .i64 a0_1, .int .i64 a0_2, .int .i64 a0_3, (.slice A0_4 l0_4.length c0_4)] 27 (0, 0))) ∧ Aside0 (Below w.heap.size w wc))
 case first =>
  have H := HC2.out; clear HC2; replace H := bS H; obtain ⟨t257, A4, H⟩ := H
  replace H : (if t257 = true then ((slices_IsSorted_string_string.f k l0_0).bind fun t258 => (if t258 = true then ((impl_within.f a0_1 1 12).bind fun t259 => (if t259 = true then ((impl_within.f a0_2 1 10).bind fun t260 => (if t260 = true then ((impl_within.f a0_3 0 10).bind fun t261 => (if t261 = true then (if (l0_0.length : Int) = 0 then (impl_GoodMix.j0 k (a0_3 != 0) l0_0 a0_1 a0_2 a0_3 l0_4) else (impl_GoodMix.j0 k false l0_0 a0_1 a0_2 a0_3 l0_4)) else (impl_GoodMix.j0 k true l0_0 a0_1 a0_2 a0_3 l0_4))) else (impl_GoodMix.j0 k true l0_0 a0_1 a0_2 a0_3 l0_4))) else (impl_GoodMix.j0 k true l0_0 a0_1 a0_2 a0_3 l0_4))) else (impl_GoodMix.j0 k true l0_0 a0_1 a0_2 a0_3 l0_4))) else (impl_GoodMix.j0 k true l0_0 a0_1 a0_2 a0_3 l0_4)) = some r := H
  by_cases c5 : t257 = true
  ·subst c5
   have H1 : ((slices_IsSorted_string_string.f k l0_0).bind fun t258 => (if t258 = true then ((impl_within.f a0_1 1 12).bind fun t259 => (if t259 = true then ((impl_within.f a0_2 1 10).bind fun t260 => (if t260 = true then ((impl_within.f a0_3 0 10).bind fun t261 => (if t261 = true then (if (l0_0.length : Int) = 0 then (impl_GoodMix.j0 k (a0_3 != 0) l0_0 a0_1 a0_2 a0_3 l0_4) else (impl_GoodMix.j0 k false l0_0 a0_1 a0_2 a0_3 l0_4)) else (impl_GoodMix.j0 k true l0_0 a0_1 a0_2 a0_3 l0_4))) else (impl_GoodMix.j0 k true l0_0 a0_1 a0_2 a0_3 l0_4))) else (impl_GoodMix.j0 k true l0_0 a0_1 a0_2 a0_3 l0_4))) else (impl_GoodMix.j0 k true l0_0 a0_1 a0_2 a0_3 l0_4))) = some r := by rw [if_pos rfl] at H; exact H
   clear H
   have H := H1
   clear H1; replace H := bS H; obtain ⟨t258, A6, H⟩ := H
   replace H : (if t258 = true then ((impl_within.f a0_1 1 12).bind fun t259 => (if t259 = true then ((impl_within.f a0_2 1 10).bind fun t260 => (if t260 = true then ((impl_within.f a0_3 0 10).bind fun t261 => (if t261 = true then (if (l0_0.length : Int) = 0 then (impl_GoodMix.j0 k (a0_3 != 0) l0_0 a0_1 a0_2 a0_3 l0_4) else (impl_GoodMix.j0 k false l0_0 a0_1 a0_2 a0_3 l0_4)) else (impl_GoodMix.j0 k true l0_0 a0_1 a0_2 a0_3 l0_4))) else (impl_GoodMix.j0 k true l0_0 a0_1 a0_2 a0_3 l0_4))) else (impl_GoodMix.j0 k true l0_0 a0_1 a0_2 a0_3 l0_4))) else (impl_GoodMix.j0 k true l0_0 a0_1 a0_2 a0_3 l0_4)) = some r := H
   by_cases c7 : t258 = true
   ·subst c7
    have H1 : ((impl_within.f a0_1 1 12).bind fun t259 => (if t259 = true then ((impl_within.f a0_2 1 10).bind fun t260 => (if t260 = true then ((impl_within.f a0_3 0 10).bind fun t261 => (if t261 = true then (if (l0_0.length : Int) = 0 then (impl_GoodMix.j0 k (a0_3 != 0) l0_0 a0_1 a0_2 a0_3 l0_4) else (impl_GoodMix.j0 k false l0_0 a0_1 a0_2 a0_3 l0_4)) else (impl_GoodMix.j0 k true l0_0 a0_1 a0_2 a0_3 l0_4))) else (impl_GoodMix.j0 k true l0_0 a0_1 a0_2 a0_3 l0_4))) else (impl_GoodMix.j0 k true l0_0 a0_1 a0_2 a0_3 l0_4))) = some r := by rw [if_pos rfl] at H; exact H
    clear H
    have H := H1
    clear H1; replace H := bS H; obtain ⟨t259, A8, H⟩ := H
    replace H : (if t259 = true then ((impl_within.f a0_2 1 10).bind fun t260 => (if t260 = true then ((impl_within.f a0_3 0 10).bind fun t261 => (if t261 = true then (if (l0_0.length : Int) = 0 then (impl_GoodMix.j0 k (a0_3 != 0) l0_0 a0_1 a0_2 a0_3 l0_4) else (impl_GoodMix.j0 k false l0_0 a0_1 a0_2 a0_3 l0_4)) else (impl_GoodMix.j0 k true l0_0 a0_1 a0_2 a0_3 l0_4))) else (impl_GoodMix.j0 k true l0_0 a0_1 a0_2 a0_3 l0_4))) else (impl_GoodMix.j0 k true l0_0 a0_1 a0_2 a0_3 l0_4)) = some r := H
    by_cases c9 : t259 = true
    ·subst c9
     have H1 : ((impl_within.f a0_2 1 10).bind fun t260 => (if t260 = true then ((impl_within.f a0_3 0 10).bind fun t261 => (if t261 = true then (if (l0_0.length : Int) = 0 then (impl_GoodMix.j0 k (a0_3 != 0) l0_0 a0_1 a0_2 a0_3 l0_4) else (impl_GoodMix.j0 k false l0_0 a0_1 a0_2 a0_3 l0_4)) else (impl_GoodMix.j0 k true l0_0 a0_1 a0_2 a0_3 l0_4))) else (impl_GoodMix.j0 k true l0_0 a0_1 a0_2 a0_3 l0_4))) = some r := by rw [if_pos rfl] at H; exact H
     clear H
     have H := H1
     clear H1; replace H := bS H; obtain ⟨t260, A10, H⟩ := H
     replace H : (if t260 = true then ((impl_within.f a0_3 0 10).bind fun t261 => (if t261 = true then (if (l0_0.length : Int) = 0 then (impl_GoodMix.j0 k (a0_3 != 0) l0_0 a0_1 a0_2 a0_3 l0_4) else (impl_GoodMix.j0 k false l0_0 a0_1 a0_2 a0_3 l0_4)) else (impl_GoodMix.j0 k true l0_0 a0_1 a0_2 a0_3 l0_4))) else (impl_GoodMix.j0 k true l0_0 a0_1 a0_2 a0_3 l0_4)) = some r := H
     by_cases c11 : t260 = true
     ·subst c11
      have H1 : ((impl_within.f a0_3 0 10).bind fun t261 => (if t261 = true then (if (l0_0.length : Int) = 0 then (impl_GoodMix.j0 k (a0_3 != 0) l0_0 a0_1 a0_2 a0_3 l0_4) else (impl_GoodMix.j0 k false l0_0 a0_1 a0_2 a0_3 l0_4)) else (impl_GoodMix.j0 k true l0_0 a0_1 a0_2 a0_3 l0_4))) = some r := by rw [if_pos rfl] at H; exact H
      clear H
      have H := H1
      clear H1; replace H := bS H; obtain ⟨t261, A12, H⟩ := H
      replace H : (if t261 = true then (if (l0_0.length : Int) = 0 then (impl_GoodMix.j0 k (a0_3 != 0) l0_0 a0_1 a0_2 a0_3 l0_4) else (impl_GoodMix.j0 k false l0_0 a0_1 a0_2 a0_3 l0_4)) else (impl_GoodMix.j0 k true l0_0 a0_1 a0_2 a0_3 l0_4)) = some r := H
      by_cases c13 : t261 = true
      ·subst c13
       have H1 : (if (l0_0.length : Int) = 0 then (impl_GoodMix.j0 k (a0_3 != 0) l0_0 a0_1 a0_2 a0_3 l0_4) else (impl_GoodMix.j0 k false l0_0 a0_1 a0_2 a0_3 l0_4)) = some r := by rw [if_pos rfl] at H; exact H
       clear H
       have H := H1
       clear H1
       by_cases c14 : (l0_0.length : Int) = 0
       ·rw [if_pos c14] at H
        have c14b0 : ((l0_0.length : Int) == 0) = true := beq_iff_eq.mpr c14
        have c14b1 : ((l0_0.length : Int) != 0) = false := bne_eq_false_iff_eq.mpr c14
        clear c14
        (first | rw [c14b0] | (simp only [i64_w, i32_w]; rw [c14b0]) | skip)
        have H' := Aside0.mk H
        clear H; obtain ⟨hcz15_0, hcz15_1, hcz15_2, hcz15_3, hcz15_4, hfz15_0, hfz15_1, hfz15_2, hfz15_3, hfz15_4⟩ := box5 BK256
        go_wp2_with (first | ((with_reducible refine gate_callee (f := 114) rfl ?_); refine goesLa (some 9) rfl Try.func114 #[.slice A0_0 l0_0.length c0_0] rfl ?_; (with_reducible refine (impl_areLetters.calls k _ _ l0_0 true _ ?side1 ?side2 A4.out).mono ?_); (case side1 => exact cd (Kd.C_below HR0_0.out HB.out)); (case side2 => exact HC0_0.out); rintro e w' ⟨rfl, ⟨nd, rfl⟩⟩; refine ⟨_, rfl, ?_⟩) | (go_at_call 177; (with_reducible refine (slices_IsSorted_string_string.calls k _ _ l0_0 true _ ?side1 ?side2 A6.out).mono ?_); (case side1 => exact cd (Kd.C_below HR0_0.out (belowg1 HB GE256))); (case side2 => exact HC0_0.out); rintro e w' ⟨rfl, ⟨nd, rfl⟩⟩) | (go_at_call 125; (with_reducible refine (impl_within.calls a0_1 1 12 true _ A8.out).mono ?_); rintro e w' ⟨rfl, ⟨nd, rfl⟩⟩) | (go_at_call 125; (with_reducible refine (impl_within.calls a0_2 1 10 true _ A10.out).mono ?_); rintro e w' ⟨rfl, ⟨nd, rfl⟩⟩) | (go_at_call 125; (with_reducible refine (impl_within.calls a0_3 0 10 true _ A12.out).mono ?_); rintro e w' ⟨rfl, ⟨nd, rfl⟩⟩))
        go_meet
        case rel => exact ⟨_, ((a0_3 != 0)), er, H', ⟨by first | omega | exact Nat.le_refl _⟩, ⟨blkd BK256⟩, ⟨belowg1 HB GE256⟩⟩
       ·rw [if_neg c14] at H
        have c14b0 : ((l0_0.length : Int) == 0) = false := beq_eq_false_iff_ne.mpr c14
        have c14b1 : ((l0_0.length : Int) != 0) = true := bne_iff_ne.mpr c14
        have c14b2 : ¬ (l0_0 = []) := fun h_ => c14 (by rw [h_]; rfl)
        (first | rw [c14b0] | (simp only [i64_w, i32_w]; rw [c14b0]) | skip)
        have H' := Aside0.mk H
        clear H; obtain ⟨hcz16_0, hcz16_1, hcz16_2, hcz16_3, hcz16_4, hfz16_0, hfz16_1, hfz16_2, hfz16_3, hfz16_4⟩ := box5 BK256
        go_wp2_with (first | ((with_reducible refine gate_callee (f := 114) rfl ?_); refine goesLa (some 9) rfl Try.func114 #[.slice A0_0 l0_0.length c0_0] rfl ?_; (with_reducible refine (impl_areLetters.calls k _ _ l0_0 true _ ?side1 ?side2 A4.out).mono ?_); (case side1 => exact cd (Kd.C_below HR0_0.out HB.out)); (case side2 => exact HC0_0.out); rintro e w' ⟨rfl, ⟨nd, rfl⟩⟩; refine ⟨_, rfl, ?_⟩) | (go_at_call 177; (with_reducible refine (slices_IsSorted_string_string.calls k _ _ l0_0 true _ ?side1 ?side2 A6.out).mono ?_); (case side1 => exact cd (Kd.C_below HR0_0.out (belowg1 HB GE256))); (case side2 => exact HC0_0.out); rintro e w' ⟨rfl, ⟨nd, rfl⟩⟩) | (go_at_call 125; (with_reducible refine (impl_within.calls a0_1 1 12 true _ A8.out).mono ?_); rintro e w' ⟨rfl, ⟨nd, rfl⟩⟩) | (go_at_call 125; (with_reducible refine (impl_within.calls a0_2 1 10 true _ A10.out).mono ?_); rintro e w' ⟨rfl, ⟨nd, rfl⟩⟩) | (go_at_call 125; (with_reducible refine (impl_within.calls a0_3 0 10 true _ A12.out).mono ?_); rintro e w' ⟨rfl, ⟨nd, rfl⟩⟩))
        go_meet
        case rel => exact ⟨_, (false), er, H', ⟨by first | omega | exact Nat.le_refl _⟩, ⟨blkd BK256⟩, ⟨belowg1 HB GE256⟩⟩
      ·replace c13 := Bool.eq_false_iff.mpr c13
       subst c13
       have H1 : (impl_GoodMix.j0 k true l0_0 a0_1 a0_2 a0_3 l0_4) = some r := by rw [if_neg (show ¬ (false = true) by decide)] at H; exact H
       clear H
       have H := H1
       clear H1
       have H' := Aside0.mk H
       clear H; obtain ⟨hcz17_0, hcz17_1, hcz17_2, hcz17_3, hcz17_4, hfz17_0, hfz17_1, hfz17_2, hfz17_3, hfz17_4⟩ := box5 BK256
       go_wp2_with (first | ((with_reducible refine gate_callee (f := 114) rfl ?_); refine goesLa (some 9) rfl Try.func114 #[.slice A0_0 l0_0.length c0_0] rfl ?_; (with_reducible refine (impl_areLetters.calls k _ _ l0_0 true _ ?side1 ?side2 A4.out).mono ?_); (case side1 => exact cd (Kd.C_below HR0_0.out HB.out)); (case side2 => exact HC0_0.out); rintro e w' ⟨rfl, ⟨nd, rfl⟩⟩; refine ⟨_, rfl, ?_⟩) | (go_at_call 177; (with_reducible refine (slices_IsSorted_string_string.calls k _ _ l0_0 true _ ?side1 ?side2 A6.out).mono ?_); (case side1 => exact cd (Kd.C_below HR0_0.out (belowg1 HB GE256))); (case side2 => exact HC0_0.out); rintro e w' ⟨rfl, ⟨nd, rfl⟩⟩) | (go_at_call 125; (with_reducible refine (impl_within.calls a0_1 1 12 true _ A8.out).mono ?_); rintro e w' ⟨rfl, ⟨nd, rfl⟩⟩) | (go_at_call 125; (with_reducible refine (impl_within.calls a0_2 1 10 true _ A10.out).mono ?_); rintro e w' ⟨rfl, ⟨nd, rfl⟩⟩) | (go_at_call 125; (with_reducible refine (impl_within.calls a0_3 0 10 false _ A12.out).mono ?_); rintro e w' ⟨rfl, ⟨nd, rfl⟩⟩))
       go_meet
       case rel => exact ⟨_, (true), er, H', ⟨by first | omega | exact Nat.le_refl _⟩, ⟨blkd BK256⟩, ⟨belowg1 HB GE256⟩⟩
     ·replace c11 := Bool.eq_false_iff.mpr c11
      subst c11
      have H1 : (impl_GoodMix.j0 k true l0_0 a0_1 a0_2 a0_3 l0_4) = some r := by rw [if_neg (show ¬ (false = true) by decide)] at H; exact H
      clear H
      have H := H1
      clear H1
      have H' := Aside0.mk H
      clear H; obtain ⟨hcz18_0, hcz18_1, hcz18_2, hcz18_3, hcz18_4, hfz18_0, hfz18_1, hfz18_2, hfz18_3, hfz18_4⟩ := box5 BK256
      go_wp2_with (first | ((with_reducible refine gate_callee (f := 114) rfl ?_); refine goesLa (some 9) rfl Try.func114 #[.slice A0_0 l0_0.length c0_0] rfl ?_; (with_reducible refine (impl_areLetters.calls k _ _ l0_0 true _ ?side1 ?side2 A4.out).mono ?_); (case side1 => exact cd (Kd.C_below HR0_0.out HB.out)); (case side2 => exact HC0_0.out); rintro e w' ⟨rfl, ⟨nd, rfl⟩⟩; refine ⟨_, rfl, ?_⟩) | (go_at_call 177; (with_reducible refine (slices_IsSorted_string_string.calls k _ _ l0_0 true _ ?side1 ?side2 A6.out).mono ?_); (case side1 => exact cd (Kd.C_below HR0_0.out (belowg1 HB GE256))); (case side2 => exact HC0_0.out); rintro e w' ⟨rfl, ⟨nd, rfl⟩⟩) | (go_at_call 125; (with_reducible refine (impl_within.calls a0_1 1 12 true _ A8.out).mono ?_); rintro e w' ⟨rfl, ⟨nd, rfl⟩⟩) | (go_at_call 125; (with_reducible refine (impl_within.calls a0_2 1 10 false _ A10.out).mono ?_); rintro e w' ⟨rfl, ⟨nd, rfl⟩⟩))
      go_meet
      case rel => exact ⟨_, (true), er, H', ⟨by first | omega | exact Nat.le_refl _⟩, ⟨blkd BK256⟩, ⟨belowg1 HB GE256⟩⟩
    ·replace c9 := Bool.eq_false_iff.mpr c9
     subst c9
     have H1 : (impl_GoodMix.j0 k true l0_0 a0_1 a0_2 a0_3 l0_4) = some r := by rw [if_neg (show ¬ (false = true) by decide)] at H; exact H
     clear H
     have H := H1
     clear H1
     have H' := Aside0.mk H
     clear H; obtain ⟨hcz19_0, hcz19_1, hcz19_2, hcz19_3, hcz19_4, hfz19_0, hfz19_1, hfz19_2, hfz19_3, hfz19_4⟩ := box5 BK256
     go_wp2_with (first | ((with_reducible refine gate_callee (f := 114) rfl ?_); refine goesLa (some 9) rfl Try.func114 #[.slice A0_0 l0_0.length c0_0] rfl ?_; (with_reducible refine (impl_areLetters.calls k _ _ l0_0 true _ ?side1 ?side2 A4.out).mono ?_); (case side1 => exact cd (Kd.C_below HR0_0.out HB.out)); (case side2 => exact HC0_0.out); rintro e w' ⟨rfl, ⟨nd, rfl⟩⟩; refine ⟨_, rfl, ?_⟩) | (go_at_call 177; (with_reducible refine (slices_IsSorted_string_string.calls k _ _ l0_0 true _ ?side1 ?side2 A6.out).mono ?_); (case side1 => exact cd (Kd.C_below HR0_0.out (belowg1 HB GE256))); (case side2 => exact HC0_0.out); rintro e w' ⟨rfl, ⟨nd, rfl⟩⟩) | (go_at_call 125; (with_reducible refine (impl_within.calls a0_1 1 12 false _ A8.out).mono ?_); rintro e w' ⟨rfl, ⟨nd, rfl⟩⟩))
     go_meet
     case rel => exact ⟨_, (true), er, H', ⟨by first | omega | exact Nat.le_refl _⟩, ⟨blkd BK256⟩, ⟨belowg1 HB GE256⟩⟩
   ·replace c7 := Bool.eq_false_iff.mpr c7
    subst c7
    have H1 : (impl_GoodMix.j0 k true l0_0 a0_1 a0_2 a0_3 l0_4) = some r := by rw [if_neg (show ¬ (false = true) by decide)] at H; exact H
    clear H
    have H := H1
    clear H1
    have H' := Aside0.mk H
    clear H; obtain ⟨hcz20_0, hcz20_1, hcz20_2, hcz20_3, hcz20_4, hfz20_0, hfz20_1, hfz20_2, hfz20_3, hfz20_4⟩ := box5 BK256
    go_wp2_with (first | ((with_reducible refine gate_callee (f := 114) rfl ?_); refine goesLa (some 9) rfl Try.func114 #[.slice A0_0 l0_0.length c0_0] rfl ?_; (with_reducible refine (impl_areLetters.calls k _ _ l0_0 true _ ?side1 ?side2 A4.out).mono ?_); (case side1 => exact cd (Kd.C_below HR0_0.out HB.out)); (case side2 => exact HC0_0.out); rintro e w' ⟨rfl, ⟨nd, rfl⟩⟩; refine ⟨_, rfl, ?_⟩) | (go_at_call 177; (with_reducible refine (slices_IsSorted_string_string.calls k _ _ l0_0 false _ ?side1 ?side2 A6.out).mono ?_); (case side1 => exact cd (Kd.C_below HR0_0.out (belowg1 HB GE256))); (case side2 => exact HC0_0.out); rintro e w' ⟨rfl, ⟨nd, rfl⟩⟩))
    go_meet
    case rel => exact ⟨_, (true), er, H', ⟨by first | omega | exact Nat.le_refl _⟩, ⟨blkd BK256⟩, ⟨belowg1 HB GE256⟩⟩
  ·replace c5 := Bool.eq_false_iff.mpr c5
   subst c5
   have H1 : (impl_GoodMix.j0 k true l0_0 a0_1 a0_2 a0_3 l0_4) = some r := by rw [if_neg (show ¬ (false = true) by decide)] at H; exact H
   clear H
   have H := H1
   clear H1
   have H' := Aside0.mk H
   clear H; obtain ⟨hcz21_0, hcz21_1, hcz21_2, hcz21_3, hcz21_4, hfz21_0, hfz21_1, hfz21_2, hfz21_3, hfz21_4⟩ := box5 BK256
   go_wp2_with (first | ((with_reducible refine gate_callee (f := 114) rfl ?_); refine goesLa (some 9) rfl Try.func114 #[.slice A0_0 l0_0.length c0_0] rfl ?_; (with_reducible refine (impl_areLetters.calls k _ _ l0_0 false _ ?side1 ?side2 A4.out).mono ?_); (case side1 => exact cd (Kd.C_below HR0_0.out HB.out)); (case side2 => exact HC0_0.out); rintro e w' ⟨rfl, ⟨nd, rfl⟩⟩; refine ⟨_, rfl, ?_⟩))
   go_meet
   case rel => exact ⟨_, (true), er, H', ⟨by first | omega | exact Nat.le_refl _⟩, ⟨blkd BK256⟩, ⟨belowg1 HB GE256⟩⟩
 case rest =>
  clear HC2
  obtain ⟨kq, x45_1, rfl, HA, HJ1, BK256, HB⟩ := hcut
  cases kq with
  | zero => exact absurd HA.out (by simp [impl_GoodMix.j0])
  | succ kj1 =>
   have H := HA.out; clear HA
   simp only [impl_GoodMix.j0] at H
   by_cases c22 : x45_1 = true
   ·subst c22
    have H1 : (some false) = some r := by rw [if_pos rfl] at H; exact H
    clear H
    have H := H1
    clear H1
    obtain rfl := Option.some.inj H
    go_wp2
    go_ret
    exact ⟨er2, belowg1 HB GE256⟩
   ·replace c22 := Bool.eq_false_iff.mpr c22
    subst c22
    have H1 : (if (l0_4.length : Int) > 100 then (impl_GoodMix.j1 kj1 true l0_0 a0_1 a0_2 a0_3 l0_4) else ((impl_isRising.f kj1 l0_4 0 4092).bind fun t262 => (impl_GoodMix.j1 kj1 (!t262) l0_0 a0_1 a0_2 a0_3 l0_4))) = some r := by rw [if_neg (show ¬ (false = true) by decide)] at H; exact H
    clear H
    have H := H1
    clear H1; have HC23 := Aside0.mk H; clear H
    go_upto_region 3 with (fail)
    go_cut [55] (fun v55 wc => ∃ (kq : Nat) (x55_22 : Bool), v55 = .bool x55_22 ∧ Aside0 (impl_GoodMix.j1 kq x55_22 l0_0 a0_1 a0_2 a0_3 l0_4 = some r) ∧ Aside0 (kq ≤ kj1) ∧ Aside0 (wc.heap[gb256]? = some (.cells #[(.slice A0_0 l0_0.length c0_0), .int .i64 a0_1, .int .i64 a0_2, .int .i64 a0_3, (.slice A0_4 l0_4.length c0_4)] 27 (0, 0))) ∧ Aside0 (Below w.heap.size w wc))
    case first =>
     have H := HC23.out; clear HC23
     by_cases c24 : (l0_4.length : Int) > 100
     ·rw [if_pos c24] at H
      have c24b0 : decide (100 < (l0_4.length : Int)) = true := decide_eq_true c24
      have c24b1 : decide (100 < l0_4.length) = true := decide_eq_true (by omega)
      clear c24
      (first | rw [c24b0] | (simp only [i64_w, i32_w]; rw [c24b0]) | skip)
      have H' := Aside0.mk H
      clear H; obtain ⟨hcz25_0, hcz25_1, hcz25_2, hcz25_3, hcz25_4, hfz25_0, hfz25_1, hfz25_2, hfz25_3, hfz25_4⟩ := box5 BK256; go_wp2
      go_meet
      case rel => exact ⟨_, (true), er, H', ⟨by have := HJ1.out; first | omega | exact Nat.le_refl _⟩, ⟨blkd BK256⟩, ⟨belowg1 HB GE256⟩⟩
     ·rw [if_neg c24] at H
      have c24b0 : decide (100 < (l0_4.length : Int)) = false := decide_eq_false c24
      have c24b1 : decide (100 < l0_4.length) = false := decide_eq_false (by omega)
      clear c24
      (first | rw [c24b0] | (simp only [i64_w, i32_w]; rw [c24b0]) | skip)
      replace H := bS H; obtain ⟨t262, A26, H⟩ := H
      replace H : (impl_GoodMix.j1 kj1 (!t262) l0_0 a0_1 a0_2 a0_3 l0_4) = some r := H
      have H' := Aside0.mk H
      clear H; obtain ⟨hcz27_0, hcz27_1, hcz27_2, hcz27_3, hcz27_4, hfz27_0, hfz27_1, hfz27_2, hfz27_3, hfz27_4⟩ := box5 BK256
      go_wp2_with (first | (go_at_call 126; (with_reducible refine (impl_isRising.calls kj1 _ _ l0_4 0 4092 t262 _ ?side1 ?side2 A26.out).mono ?_); (case side1 => exact cd (Kd.C_below HR0_4.out HB.out)); (case side2 => exact HC0_4.out); rintro e w' ⟨rfl, ⟨nd, rfl⟩⟩))
      go_meet
      case rel => exact ⟨_, (!t262), er, H', ⟨by have := HJ1.out; first | omega | exact Nat.le_refl _⟩, ⟨blkd BK256⟩, ⟨belowg1 HB GE256⟩⟩
    case rest =>
     clear HC23; (try clear c22)
     obtain ⟨kq, x55_22, rfl, HA, HJ22, BK256, HB⟩ := hcut
     cases kq with
     | zero => exact absurd HA.out (by simp [impl_GoodMix.j1])
     | succ kj22 =>
      have H := HA.out; clear HA
      simp only [impl_GoodMix.j1] at H
      by_cases c28 : x55_22 = true
      ·subst c28
       have H1 : (some false) = some r := by rw [if_pos rfl] at H; exact H
       clear H
       have H := H1
       clear H1
       obtain rfl := Option.some.inj H
       go_wp2
       go_ret
       exact ⟨er2, belowg1 HB GE256⟩
      ·replace c28 := Bool.eq_false_iff.mpr c28
       subst c28
       have H1 : (impl_GoodMix.l0 kj22 (([] : List Int)) l0_0 (l0_0.length : Int) 0 l0_0 a0_1 a0_2 a0_3 l0_4) = some r := by rw [if_neg (show ¬ (false = true) by decide)] at H; exact H
       clear H
       have H := H1
       clear H1
       obtain ⟨y263, hy_⟩ : ∃ y_ : List Int, y_ = (([] : List Int)) := ⟨_, rfl⟩
       replace H : (impl_GoodMix.l0 kj22 y263 l0_0 (l0_0.length : Int) 0 l0_0 a0_1 a0_2 a0_3 l0_4) = some r := yH
       have Ny263 := ak hy_; clear hy_
       have H' := Aside0.mk H
       clear H
       go_wp2_with (first | ((with_reducible refine gate_dst (N := 56) rfl ?_); (try (refine gate_guard (by rfl) ?_; dsimp only)); refine Kd.R_lit (Kd.int .i64) _ 3 ?hg (N := 56) ?hd (xs := ([] : List Int)) (inner := []) (ok := fun _ => True) (okp := fun _ => True) ?hr ?hp (fun _ hk => hk) trivial (Below.refl _ _) (Nat.le_refl _) (by simp) ?_; (case hd => rfl); (case hg => rfl); (case hr => first | (go_simp; done) | (go_simp; rfl)); (case hp => exact (Reps.none _ _)); intro v264 w29 ho30 hb hg_ hnew_; clear hg_ hnew_; (first | rw [← Ny263.out] at ho30 | (simp only [Int.reduceToNat] at ho30; rw [← Ny263.out] at ho30)); have HO265 := ak (Kd.R_lower ho30 (below_size (belowg1 HB GE256))); replace BK256 := ak (blk_below (blkd BK256) hb); replace HB := ak (below_step (belowg1 HB GE256) hb); clear hb ho30; obtain ⟨hcz31_0, hcz31_1, hcz31_2, hcz31_3, hcz31_4, hfz31_0, hfz31_1, hfz31_2, hfz31_3, hfz31_4⟩ := box5 BK256))
       go_loopg [3, 60] kj22 (fun kq v3 v60 w' => ∃ (x3_3 : List Int) (x60_3 : Int), v60 = .int .i64 x60_3 ∧ Aside0 (impl_GoodMix.l0 kq x3_3 l0_0 (l0_0.length : Int) x60_3 l0_0 a0_1 a0_2 a0_3 l0_4 = some r) ∧ Aside0 (kq ≤ kj22) ∧ Aside0 (Kd.R (Kd.int .i64) 3 w' w.heap.size (fun _ => True) v3 x3_3) ∧ Aside0 (w'.heap[gb256]? = some (.cells #[(.slice A0_0 l0_0.length c0_0), .int .i64 a0_1, .int .i64 a0_2, .int .i64 a0_3, (.slice A0_4 l0_4.length c0_4)] 27 (0, 0))) ∧ Aside0 (Below w.heap.size w w'))
       case atStart => exact ⟨(y263), (0), er, H', ⟨Nat.le_refl _⟩, ⟨rdl HO265⟩, ⟨blkd BK256⟩, ⟨belowg1 HB GE256⟩⟩
       case round =>
        clear H'
        (try clear c28); (try clear hcz31_0); (try clear hcz31_1); (try clear hcz31_2); (try clear hcz31_3); (try clear hcz31_4); (try clear hfz31_0); (try clear hfz31_1); (try clear hfz31_2); (try clear hfz31_3); (try clear hfz31_4)
        obtain ⟨x3_3, x60_3, rfl, HA, HK3, HO_3, BK256, HB⟩ := hrel
        cases gk with
        | zero => exact absurd HA.out (by simp [impl_GoodMix.l0])
        | succ k3 =>
         have H := HA.out; clear HA
         simp only [impl_GoodMix.l0] at H
         by_cases c32 : x60_3 < (l0_0.length : Int)
         ·rw [if_pos c32] at H
          have c32b0 : decide (x60_3 < (l0_0.length : Int)) = true := decide_eq_true c32
          clear c32; replace H := ifS H; obtain ⟨c33, H⟩ := H; have c33b0 := decide_eq_true c33; clear c33; replace H := ifS H; obtain ⟨c34, H⟩ := H; have c34b0 := decide_eq_true c34; clear c34; replace H := bS H; obtain ⟨t267, A35, H⟩ := H
          replace H : ((slices_Contains_int_int.f k3 l0_4 t267).bind fun t268 => (if t268 = true then ((slices_Contains_int_int.f k3 x3_3 t267).bind fun t269 => (if t269 = true then (some false) else (if x3_3.length < 17592186044416 then (impl_GoodMix.l0 k3 (x3_3 ++ [t267]) l0_0 (l0_0.length : Int) (wrap64 (x60_3 + 1)) l0_0 a0_1 a0_2 a0_3 l0_4) else (none)))) else (some false))) = some r := H
          replace H := bS H; obtain ⟨t268, A36, H⟩ := H
          replace H : (if t268 = true then ((slices_Contains_int_int.f k3 x3_3 t267).bind fun t269 => (if t269 = true then (some false) else (if x3_3.length < 17592186044416 then (impl_GoodMix.l0 k3 (x3_3 ++ [t267]) l0_0 (l0_0.length : Int) (wrap64 (x60_3 + 1)) l0_0 a0_1 a0_2 a0_3 l0_4) else (none)))) else (some false)) = some r := H
          by_cases c37 : t268 = true
          ·subst c37
           have H1 : ((slices_Contains_int_int.f k3 x3_3 t267).bind fun t269 => (if t269 = true then (some false) else (if x3_3.length < 17592186044416 then (impl_GoodMix.l0 k3 (x3_3 ++ [t267]) l0_0 (l0_0.length : Int) (wrap64 (x60_3 + 1)) l0_0 a0_1 a0_2 a0_3 l0_4) else (none)))) = some r := by rw [if_pos rfl] at H; exact H
           clear H
           have H := H1
           clear H1; replace H := bS H; obtain ⟨t269, A38, H⟩ := H
           replace H : (if t269 = true then (some false) else (if x3_3.length < 17592186044416 then (impl_GoodMix.l0 k3 (x3_3 ++ [t267]) l0_0 (l0_0.length : Int) (wrap64 (x60_3 + 1)) l0_0 a0_1 a0_2 a0_3 l0_4) else (none))) = some r := H
           by_cases c39 : t269 = true
           ·subst c39
            have H1 : (some false) = some r := by rw [if_pos rfl] at H; exact H
            clear H
            have H := H1
            clear H1
            obtain rfl := Option.some.inj H
            have p266 : 0 ≤ (x60_3 : Int) := da
            have q266 : x60_3 < (l0_0.length : Int) := da
            obtain ⟨ad266, e266, hx266_0⟩ := Kd.at_string HR0_0.out x60_3 p266 q266
            cases e266
            replace hx266_0 := (HB.out.cell (World.block_lt_of_cell? w _ hx266_0)).trans hx266_0
            replace p266 := eq_true p266; replace q266 := eq_true q266
            go_wp2_with (first | ((with_reducible refine gate_callee (f := 102) rfl ?_); refine goesLa (some 65) rfl Try.func102 #[.string (rdOf ByteArray.empty l0_0 x60_3)] rfl ?_; (with_reducible refine (impl_tag.calls k3 (rdOf ByteArray.empty l0_0 x60_3) t267 _ A35.out).mono ?_); rintro e w' ⟨rfl, ⟨nd, rfl⟩⟩; refine ⟨_, rfl, ?_⟩; obtain ⟨hcz40_0, hcz40_1, hcz40_2, hcz40_3, hcz40_4, hfz40_0, hfz40_1, hfz40_2, hfz40_3, hfz40_4⟩ := box5 BK256) | ((with_reducible refine gate_callee (f := 103) rfl ?_); refine goesLa (some 69) rfl Try.func103 #[.slice A0_4 l0_4.length c0_4, .int .i64 t267] rfl ?_; (with_reducible refine (slices_Contains_int_int.calls k3 _ _ l0_4 t267 true _ ?side1 ?side2 A36.out).mono ?_); (case side1 => exact cd (Kd.C_below HR0_4.out (belowg1 HB GE256))); (case side2 => exact HC0_4.out); rintro e w' ⟨rfl, ⟨nd, rfl⟩⟩; refine ⟨_, rfl, ?_⟩; obtain ⟨Ao41, co41, eo41⟩ := Kd.R_slice HO_3.out; subst eo41) | (go_at_call 103; (with_reducible refine (slices_Contains_int_int.calls k3 _ _ x3_3 t267 true _ ?side1 ?side2 A38.out).mono ?_); (case side1 => exact cd (Kd.R_reads' HO_3.out).2.2); (case side2 => exact (Kd.R_reads' HO_3.out).2.1); rintro e w' ⟨rfl, ⟨nd, rfl⟩⟩))
            go_ret
            exact ⟨er2, belowg1 HB GE256⟩
           ·replace c39 := Bool.eq_false_iff.mpr c39
            subst c39
            have H1 : (if x3_3.length < 17592186044416 then (impl_GoodMix.l0 k3 (x3_3 ++ [t267]) l0_0 (l0_0.length : Int) (wrap64 (x60_3 + 1)) l0_0 a0_1 a0_2 a0_3 l0_4) else (none)) = some r := by rw [if_neg (show ¬ (false = true) by decide)] at H; exact H
            clear H
            have H := H1
            clear H1; replace H := ifS H; obtain ⟨c42, H⟩ := H; have LMc42 := Aside0.mk c42; clear c42
            obtain ⟨y270, hy_⟩ : ∃ y_ : List Int, y_ = (x3_3 ++ [t267]) := ⟨_, rfl⟩
            replace H : (impl_GoodMix.l0 k3 y270 l0_0 (l0_0.length : Int) (wrap64 (x60_3 + 1)) l0_0 a0_1 a0_2 a0_3 l0_4) = some r := yH
            have Ny270 := ak hy_; clear hy_
            have H' := Aside0.mk H
            clear H
            have p266 : 0 ≤ (x60_3 : Int) := da
            have q266 : x60_3 < (l0_0.length : Int) := da
            obtain ⟨ad266, e266, hx266_0⟩ := Kd.at_string HR0_0.out x60_3 p266 q266
            cases e266
            replace hx266_0 := (HB.out.cell (World.block_lt_of_cell? w _ hx266_0)).trans hx266_0
            replace p266 := eq_true p266; replace q266 := eq_true q266
            go_wp2_with (first | ((with_reducible refine gate_callee (f := 102) rfl ?_); refine goesLa (some 65) rfl Try.func102 #[.string (rdOf ByteArray.empty l0_0 x60_3)] rfl ?_; (with_reducible refine (impl_tag.calls k3 (rdOf ByteArray.empty l0_0 x60_3) t267 _ A35.out).mono ?_); rintro e w' ⟨rfl, ⟨nd, rfl⟩⟩; refine ⟨_, rfl, ?_⟩; obtain ⟨hcz43_0, hcz43_1, hcz43_2, hcz43_3, hcz43_4, hfz43_0, hfz43_1, hfz43_2, hfz43_3, hfz43_4⟩ := box5 BK256) | ((with_reducible refine gate_callee (f := 103) rfl ?_); refine goesLa (some 69) rfl Try.func103 #[.slice A0_4 l0_4.length c0_4, .int .i64 t267] rfl ?_; (with_reducible refine (slices_Contains_int_int.calls k3 _ _ l0_4 t267 true _ ?side1 ?side2 A36.out).mono ?_); (case side1 => exact cd (Kd.C_below HR0_4.out (belowg1 HB GE256))); (case side2 => exact HC0_4.out); rintro e w' ⟨rfl, ⟨nd, rfl⟩⟩; refine ⟨_, rfl, ?_⟩; obtain ⟨Ao44, co44, eo44⟩ := Kd.R_slice HO_3.out; subst eo44) | (go_at_call 103; (with_reducible refine (slices_Contains_int_int.calls k3 _ _ x3_3 t267 false _ ?side1 ?side2 A38.out).mono ?_); (case side1 => exact cd (Kd.R_reads' HO_3.out).2.2); (case side2 => exact (Kd.R_reads' HO_3.out).2.1); rintro e w' ⟨rfl, ⟨nd, rfl⟩⟩) | ((with_reducible refine gate_builtin (b := .append) (xs := #[.tmp 76, .tmp 78]) rfl ?_); (try (refine gate_guard (by rfl) ?_; dsimp only)); at_builtin; refine Kd.R_append (Kd.int .i64) (w0 := w) w.heap.size rfl (.tmp 76) (.tmp 78) 23 3 (.int .i64 0) 8 rfl Try.underlying23 info3 rfl (by decide) (by omega) (.slice Ao44 x3_3.length co44) x3_3 t267 [.int .i64 t267] (fun _ => True) (fun _ => False) rfl rfl ?aP (fun _ hk => hk.elim) ?aF ?aO ?aB ?aS ?aL ?_; (case aP => exact rfl); (case aB => exact (belowg1 HB GE256)); (case aF => exact (fun _ _ => trivial)); (case aO => exact (rdl HO_3)); (case aS => exact (below_size (belowg1 HB GE256))); (case aL => have := LMc42.out; omega); intro v271 w45 ho hb hg hat; rw [← Ny270.out] at ho; replace BK256 := ak (blk_grown (blkd BK256) hg (Kd.R_ne HO_3.out BK256.out (by decide))); replace HB := ak (hb); have HO272 := ak (ho); clear HO_3; clear ho hb hg hat))
            go_roundg k3
            case measure => have := HJ1.out; have := HJ22.out; have := HK3.out; omega
            case rel => exact ⟨(y270), (wrap64 (x60_3 + 1)), er, H', ⟨by have := HJ1.out; have := HJ22.out; have := HK3.out; omega⟩, ⟨rdl HO272⟩, ⟨blkd BK256⟩, ⟨belowg1 HB GE256⟩⟩
          ·replace c37 := Bool.eq_false_iff.mpr c37
           subst c37
           have H1 : (some false) = some r := by rw [if_neg (show ¬ (false = true) by decide)] at H; exact H
           clear H
           have H := H1
           clear H1
           obtain rfl := Option.some.inj H
           have p266 : 0 ≤ (x60_3 : Int) := da
           have q266 : x60_3 < (l0_0.length : Int) := da
           obtain ⟨ad266, e266, hx266_0⟩ := Kd.at_string HR0_0.out x60_3 p266 q266
           cases e266
           replace hx266_0 := (HB.out.cell (World.block_lt_of_cell? w _ hx266_0)).trans hx266_0
           replace p266 := eq_true p266; replace q266 := eq_true q266
           go_wp2_with (first | ((with_reducible refine gate_callee (f := 102) rfl ?_); refine goesLa (some 65) rfl Try.func102 #[.string (rdOf ByteArray.empty l0_0 x60_3)] rfl ?_; (with_reducible refine (impl_tag.calls k3 (rdOf ByteArray.empty l0_0 x60_3) t267 _ A35.out).mono ?_); rintro e w' ⟨rfl, ⟨nd, rfl⟩⟩; refine ⟨_, rfl, ?_⟩; obtain ⟨hcz46_0, hcz46_1, hcz46_2, hcz46_3, hcz46_4, hfz46_0, hfz46_1, hfz46_2, hfz46_3, hfz46_4⟩ := box5 BK256) | ((with_reducible refine gate_callee (f := 103) rfl ?_); refine goesLa (some 69) rfl Try.func103 #[.slice A0_4 l0_4.length c0_4, .int .i64 t267] rfl ?_; (with_reducible refine (slices_Contains_int_int.calls k3 _ _ l0_4 t267 false _ ?side1 ?side2 A36.out).mono ?_); (case side1 => exact cd (Kd.C_below HR0_4.out (belowg1 HB GE256))); (case side2 => exact HC0_4.out); rintro e w' ⟨rfl, ⟨nd, rfl⟩⟩; refine ⟨_, rfl, ?_⟩))
           go_ret
           exact ⟨er2, belowg1 HB GE256⟩
         ·rw [if_neg c32] at H
          have c32b0 : decide (x60_3 < (l0_0.length : Int)) = false := decide_eq_false c32
          clear c32
          obtain rfl := Option.some.inj H
          go_wp2
          go_ret
          exact ⟨er2, belowg1 HB GE256⟩

/-! ### slices_Clone_string_string: function 178 -/
def slices_Clone_string_string.f (l0 : List ByteArray) : Option (List ByteArray) := (some (([] : List ByteArray) : List ByteArray)).bind fun y273 => (if y273.length + l0.length < 8796093022208 then (some (y273 ++ l0)) else (none))
theorem clonenil178 (w : World) (a : Option Addr) (m c m' c' : Nat) : (Go.binOp .eql 22 (.slice a m c) (.slice none m' c')).run Try.prog w = .ok (.bool a.isNone) w := Go.Lib.run_eql_slice_nil w 22 9 a m c m' c' Try.underlying22
attribute [local go_sem high] clonenil178
set_option maxHeartbeats 8000000 in
set_option maxRecDepth 100000 in
theorem slices_Clone_string_string.calls_some (ad0 : Addr) (c0 : Nat) (l0 : List ByteArray) (r : List ByteArray) (w : World) (hr0 : Kd.C Kd.string w (some ad0) l0.length l0) (hc0 : l0.length ≤ c0) (h : slices_Clone_string_string.f l0 = some r) :
  Calls Try.prog 178 #[.slice (some ad0) l0.length c0] w fun e w' => ∃ v0_ : Value, e = .returned (v0_) ∧ Kd.R Kd.string 9 w' w.heap.size (fun _ => True) v0_ r ∧ Below w.heap.size w w' := by
 have HR0 := Aside0.mk hr0; have HC0 := Aside0.mk hc0; clear hr0 hc0
 have HB := Aside0.mk (Below.refl w.heap.size w)
 have H : ((some (([] : List ByteArray) : List ByteArray)).bind fun y273 => (if y273.length + l0.length < 8796093022208 then (some (y273 ++ l0)) else (none))) = some r := h
 clear h
 obtain ⟨y273, hy_⟩ : ∃ y_ : List ByteArray, y_ = (([] : List ByteArray)) := ⟨_, rfl⟩
 replace H : (if y273.length + l0.length < 8796093022208 then (some (y273 ++ l0)) else (none)) = some r := yH
 have Ny273 := ak hy_; clear hy_; replace H := ifS H; obtain ⟨c2, H⟩ := H; have LMc2 := Aside0.mk c2; clear c2
 obtain ⟨y276, hy_⟩ : ∃ y_ : List ByteArray, y_ = (y273 ++ l0) := ⟨_, rfl⟩
 replace H : (some y276) = some r := yH
 have Ny276 := ak hy_; clear hy_
 obtain rfl := Option.some.inj H
 go_enter Try.func178, Try.ntmps178
 go_wp2_with (first | ((with_reducible refine gate_dst (N := 5) rfl ?_); refine Kd.R_lit Kd.string _ 9 ?hg (N := 5) ?hd (xs := ([] : List ByteArray)) (inner := []) (ok := fun _ => True) (okp := fun _ => True) ?hr ?hp (fun _ hk => hk) trivial (Below.refl _ _) (Nat.le_refl _) (by simp) ?_; (case hd => rfl); (case hg => rfl); (case hr => first | (go_simp; done) | (go_simp; rfl)); (case hp => exact (Reps.none _ _)); intro v274 w3 ho4 hb hg_ hnew_; clear hg_ hnew_; (first | rw [← Ny273.out] at ho4 | (simp only [Int.reduceToNat] at ho4; rw [← Ny273.out] at ho4)); have HO275 := ak (Kd.R_lower ho4 (below_size (belowd HB))); replace HB := ak (below_step (belowd HB) hb); clear hb ho4) | ((with_reducible refine gate_builtin (b := .append) (xs := #[.tmp 5, .tmp 6]) rfl ?_); at_builtin; refine Kd.R_append_rows Kd.string (w0 := w) w.heap.size rfl (.tmp 5) (.tmp 6) 22 9 (.string ⟨#[]⟩) 16 rfl Try.underlying22 info9 rfl (by decide) (by omega) v274 y273 l0 _ _ _ (fun _ => True) (fun _ => False) rfl rfl ?aO ?aR (fun _ _ h => h) (fun _ h => h.elim) ?aF ?aB ?aS ?aL ?_; (case aR => exact cd (Kd.C_below HR0.out HB.out)); (case aB => exact (belowd HB)); (case aF => exact (fun _ _ => trivial)); (case aO => exact (rdl HO275)); (case aS => exact (below_size (belowd HB))); (case aL => have := LMc2.out; omega); intro v277 w5 ho hb hg hat; rw [← Ny276.out] at ho; replace HB := ak (hb); have HO278 := ak (ho); clear HO275; clear ho hb hg hat))
 go_ret
 exact ⟨_, er2, by (with_reducible repeat (first | apply Kd.R_alloc | apply Kd.R_drewN | apply Kd.R_drew)); exact HO278.out, belowd HB⟩

set_option maxHeartbeats 8000000 in
set_option maxRecDepth 100000 in
theorem slices_Clone_string_string.calls (A0 : Option Addr) (c0 : Nat) (l0 : List ByteArray) (r : List ByteArray) (w : World) (hr0 : Kd.C Kd.string w A0 l0.length l0) (hc0 : l0.length ≤ c0) (h : slices_Clone_string_string.f l0 = some r) :
  Calls Try.prog 178 #[.slice A0 l0.length c0] w fun e w' => ∃ v0_ : Value, e = .returned (v0_) ∧ Kd.R Kd.string 9 w' w.heap.size (fun _ => True) v0_ r ∧ Below w.heap.size w w' := by
 cases A0 with
 | some ad0 => exact slices_Clone_string_string.calls_some ad0 c0 l0 r w hr0 hc0 h
 | none =>
  have hl : l0 = [] := by
   rcases Nat.eq_zero_or_pos l0.length with h0 | h0
   ·exact List.eq_nil_of_length_eq_zero h0
   ·obtain ⟨ad, he, _⟩ := hr0.2.2 h0
    cases he
  subst hl
  have hr : r = [] := by
   have h' := h
   simp [slices_Clone_string_string.f] at h'
   first | exact h'.symm | exact h'
  subst hr; clear h hr0 hc0
  go_enter Try.func178, Try.ntmps178
  go_wp2
  go_ret
  exact ⟨_, rfl, Kd.R_nil _ _ _ _ _, Below.refl _ _⟩

/-! ### slices_Clone_int_int: function 179 -/
def slices_Clone_int_int.f (l0 : List Int) : Option (List Int) := (some (([] : List Int) : List Int)).bind fun y279 => (if y279.length + l0.length < 17592186044416 then (some (y279 ++ l0)) else (none))
theorem clonenil179 (w : World) (a : Option Addr) (m c m' c' : Nat) : (Go.binOp .eql 23 (.slice a m c) (.slice none m' c')).run Try.prog w = .ok (.bool a.isNone) w := Go.Lib.run_eql_slice_nil w 23 3 a m c m' c' Try.underlying23
attribute [local go_sem high] clonenil179
set_option maxHeartbeats 8000000 in
set_option maxRecDepth 100000 in
theorem slices_Clone_int_int.calls_some (ad0 : Addr) (c0 : Nat) (l0 : List Int) (r : List Int) (w : World) (hr0 : Kd.C (Kd.int .i64) w (some ad0) l0.length l0) (hc0 : l0.length ≤ c0) (h : slices_Clone_int_int.f l0 = some r) :
  Calls Try.prog 179 #[.slice (some ad0) l0.length c0] w fun e w' => ∃ v0_ : Value, e = .returned (v0_) ∧ Kd.R (Kd.int .i64) 3 w' w.heap.size (fun _ => True) v0_ r ∧ Below w.heap.size w w' := by
 have HR0 := Aside0.mk hr0; have HC0 := Aside0.mk hc0; clear hr0 hc0
 have HB := Aside0.mk (Below.refl w.heap.size w)
 have H : ((some (([] : List Int) : List Int)).bind fun y279 => (if y279.length + l0.length < 17592186044416 then (some (y279 ++ l0)) else (none))) = some r := h
 clear h
 obtain ⟨y279, hy_⟩ : ∃ y_ : List Int, y_ = (([] : List Int)) := ⟨_, rfl⟩
 replace H : (if y279.length + l0.length < 17592186044416 then (some (y279 ++ l0)) else (none)) = some r := yH
 have Ny279 := ak hy_; clear hy_; replace H := ifS H; obtain ⟨c2, H⟩ := H; have LMc2 := Aside0.mk c2; clear c2
 obtain ⟨y282, hy_⟩ : ∃ y_ : List Int, y_ = (y279 ++ l0) := ⟨_, rfl⟩
 replace H : (some y282) = some r := yH
 have Ny282 := ak hy_; clear hy_
 obtain rfl := Option.some.inj H
 go_enter Try.func179, Try.ntmps179
 go_wp2_with (first | ((with_reducible refine gate_dst (N := 5) rfl ?_); refine Kd.R_lit (Kd.int .i64) _ 3 ?hg (N := 5) ?hd (xs := ([] : List Int)) (inner := []) (ok := fun _ => True) (okp := fun _ => True) ?hr ?hp (fun _ hk => hk) trivial (Below.refl _ _) (Nat.le_refl _) (by simp) ?_; (case hd => rfl); (case hg => rfl); (case hr => first | (go_simp; done) | (go_simp; rfl)); (case hp => exact (Reps.none _ _)); intro v280 w3 ho4 hb hg_ hnew_; clear hg_ hnew_; (first | rw [← Ny279.out] at ho4 | (simp only [Int.reduceToNat] at ho4; rw [← Ny279.out] at ho4)); have HO281 := ak (Kd.R_lower ho4 (below_size (belowd HB))); replace HB := ak (below_step (belowd HB) hb); clear hb ho4) | ((with_reducible refine gate_builtin (b := .append) (xs := #[.tmp 5, .tmp 6]) rfl ?_); at_builtin; refine Kd.R_append_rows (Kd.int .i64) (w0 := w) w.heap.size rfl (.tmp 5) (.tmp 6) 23 3 (.int .i64 0) 8 rfl Try.underlying23 info3 rfl (by decide) (by omega) v280 y279 l0 _ _ _ (fun _ => True) (fun _ => False) rfl rfl ?aO ?aR (fun _ _ h => h) (fun _ h => h.elim) ?aF ?aB ?aS ?aL ?_; (case aR => exact cd (Kd.C_below HR0.out HB.out)); (case aB => exact (belowd HB)); (case aF => exact (fun _ _ => trivial)); (case aO => exact (rdl HO281)); (case aS => exact (below_size (belowd HB))); (case aL => have := LMc2.out; omega); intro v283 w5 ho hb hg hat; rw [← Ny282.out] at ho; replace HB := ak (hb); have HO284 := ak (ho); clear HO281; clear ho hb hg hat))
 go_ret
 exact ⟨_, er2, by (with_reducible repeat (first | apply Kd.R_alloc | apply Kd.R_drewN | apply Kd.R_drew)); exact HO284.out, belowd HB⟩

set_option maxHeartbeats 8000000 in
set_option maxRecDepth 100000 in
theorem slices_Clone_int_int.calls (A0 : Option Addr) (c0 : Nat) (l0 : List Int) (r : List Int) (w : World) (hr0 : Kd.C (Kd.int .i64) w A0 l0.length l0) (hc0 : l0.length ≤ c0) (h : slices_Clone_int_int.f l0 = some r) :
  Calls Try.prog 179 #[.slice A0 l0.length c0] w fun e w' => ∃ v0_ : Value, e = .returned (v0_) ∧ Kd.R (Kd.int .i64) 3 w' w.heap.size (fun _ => True) v0_ r ∧ Below w.heap.size w w' := by
 cases A0 with
 | some ad0 => exact slices_Clone_int_int.calls_some ad0 c0 l0 r w hr0 hc0 h
 | none =>
  have hl : l0 = [] := by
   rcases Nat.eq_zero_or_pos l0.length with h0 | h0
   ·exact List.eq_nil_of_length_eq_zero h0
   ·obtain ⟨ad, he, _⟩ := hr0.2.2 h0
    cases he
  subst hl
  have hr : r = [] := by
   have h' := h
   simp [slices_Clone_int_int.f] at h'
   first | exact h'.symm | exact h'
  subst hr; clear h hr0 hc0
  go_enter Try.func179, Try.ntmps179
  go_wp2
  go_ret
  exact ⟨_, rfl, Kd.R_nil _ _ _ _ _, Below.refl _ _⟩

/-! ### impl_Mix_own: function 101 -/
def impl_Mix_own.f (l0_0 : List ByteArray) (a0_1 : Int) (a0_2 : Int) (a0_3 : Int) (l0_4 : List Int) : Option (List ByteArray × Int × Int × Int × List Int) := (slices_Clone_string_string.f l0_0).bind fun t287 => ((slices_Clone_int_int.f l0_4).bind fun t290 => (some (t287, a0_1, a0_2, a0_3, t290)))
def impl_Mix_own.T1 : Bool × List (List Nat × List Nat) := (true, [([], []), ([0], [0]), ([1], [1]), ([], []), ([3], [3]), ([4, 2], [4]), ([0, 1, 2, 3, 4], []), ([6, 2, 5, 0, 1, 2, 3, 4], [2, 6]), ([0, 1, 2, 3, 4, 5, 6, 7], []), ([8, 5, 7, 0, 1, 2, 3, 4, 5, 6, 7], [5, 8])])
def impl_Mix_own.B1 : List Nat := [0, 1, 3, 0, 8, 31, 31, 127, 255, 511]
theorem impl_Mix_own.tab1 : rtab .any (opsOf Try.f101 1) = impl_Mix_own.T1 := by kernel_rfl
theorem impl_Mix_own.bits1 : waitsOk impl_Mix_own.T1.2 impl_Mix_own.B1 = true := by kernel_rfl
set_option maxHeartbeats 8000000 in
set_option maxRecDepth 100000 in
theorem impl_Mix_own.calls (A0_0 : Option Addr) (c0_0 : Nat) (l0_0 : List ByteArray) (a0_1 : Int) (a0_2 : Int) (a0_3 : Int) (A0_4 : Option Addr) (c0_4 : Nat) (l0_4 : List Int) (r1 : List ByteArray) (r2 : Int) (r3 : Int) (r4 : Int) (r5 : List Int) (w : World) (hr0_0 : Kd.C Kd.string w A0_0 l0_0.length l0_0) (hc0_0 : l0_0.length ≤ c0_0) (hr0_4 : Kd.C (Kd.int .i64) w A0_4 l0_4.length l0_4) (hc0_4 : l0_4.length ≤ c0_4) (h : impl_Mix_own.f l0_0 a0_1 a0_2 a0_3 l0_4 = some (r1, r2, r3, r4, r5)) :
  Calls Try.prog 101 #[.agg #[.slice A0_0 l0_0.length c0_0, .int .i64 a0_1, .int .i64 a0_2, .int .i64 a0_3, .slice A0_4 l0_4.length c0_4]] w fun e w' => ∃ v0_ v4_ : Value, e = .returned (.agg #[v0_, .int .i64 r2, .int .i64 r3, .int .i64 r4, v4_]) ∧ Kd.R Kd.string 9 w' w.heap.size (fun _ => True) v0_ r1 ∧ Kd.R (Kd.int .i64) 3 w' w.heap.size (fun _ => True) v4_ r5 ∧ Below w.heap.size w w' := by
 have hu27 := Try.underlying27
 have HR0_0 := Aside0.mk hr0_0; have HC0_0 := Aside0.mk hc0_0; clear hr0_0 hc0_0; have HR0_4 := Aside0.mk hr0_4; have HC0_4 := Aside0.mk hc0_4; clear hr0_4 hc0_4
 have HB := Aside0.mk (Below.refl w.heap.size w)
 have H : ((slices_Clone_string_string.f l0_0).bind fun t287 => ((slices_Clone_int_int.f l0_4).bind fun t290 => (some (t287, a0_1, a0_2, a0_3, t290)))) = some (r1, r2, r3, r4, r5) := h
 clear h; replace H := bS H; obtain ⟨t287, A2, H⟩ := H
 replace H : ((slices_Clone_int_int.f l0_4).bind fun t290 => (some (t287, a0_1, a0_2, a0_3, t290))) = some (r1, r2, r3, r4, r5) := H
 replace H := bS H; obtain ⟨t290, A3, H⟩ := H
 replace H : (some (t287, a0_1, a0_2, a0_3, t290)) = some (r1, r2, r3, r4, r5) := H
 simp only [Option.some.injEq, Prod.mk.injEq] at H
 obtain ⟨rfl, rfl, rfl, rfl, rfl⟩ := H
 go_enter Try.func101, Try.ntmps101
 try go_wp2_with (first | ((with_reducible refine gate_dst (N := 1) rfl ?_); refine boxev 1 #[.slice A0_0 l0_0.length c0_0, .int .i64 a0_1, .int .i64 a0_2, .int .i64 a0_3, .slice A0_4 l0_4.length c0_4] 27 ?_; intro gb285 hg w4 hbox hb; have BK285 := ak (hbox); have GW285 := ak (hgl hg (belowd HB)); have GE285 := ak (hgl hg (belowd HB)); replace HB := ak (below_step (belowd HB) hb); clear hb hbox hg) | ((with_reducible refine gate_dst (N := 2) rfl ?_); refine boxev 2 #[.slice none 0 0, .int .i64 0, .int .i64 0, .int .i64 0, .slice none 0 0] 27 ?_; intro gb286 hg w5 hbox hb; have BK286 := ak (hbox); have GW286 := ak (hgl hg (belowg1 HB GE285)); have GE286 := ak (hgl hg (belowg1 HB GE285)); replace HB := ak (below_step (belowg1 HB GE285) hb); have NB285_286 := ak ((by rw [hg]; exact Nat.ne_of_lt (blk_lt (blkd BK285)) : gb285 ≠ gb286)); have NB286_285 := ak ((by rw [hg]; exact Nat.ne_of_gt (blk_lt (blkd BK285)) : gb286 ≠ gb285)); replace BK285 := ak (blk_below (blkd BK285) hb); clear hb hbox hg))
 replace BK285 := ak (blk_drew BK285.out)
 replace BK286 := ak (blk_drew BK286.out)
 replace HB := ak (below_drew1 HB.out)
 refine start_ (n := 10) (S := fun w' => w'.cell? ⟨gb285, 0, none⟩ = some (.slice A0_0 l0_0.length c0_0) ∧ w'.cell? ⟨gb285, 1, none⟩ = some (.int .i64 a0_1) ∧ w'.cell? ⟨gb285, 2, none⟩ = some (.int .i64 a0_2) ∧ w'.cell? ⟨gb285, 3, none⟩ = some (.int .i64 a0_3) ∧ w'.cell? ⟨gb285, 4, none⟩ = some (.slice A0_4 l0_4.length c0_4)) (ds := [7, 9]) (bl 10 0) (by kernel_rfl) rfl rfl ⟨bq BK285 0, bq BK285 1, bq BK285 2, bq BK285 3, bq BK285 4⟩ (fun hHeld => ?_); refine with_tabW impl_Mix_own.tab1 impl_Mix_own.bits1 (fun HT_ HW_ => ?_)
 generalize w5.drew = w6 at BK285 BK286 HB hHeld ⊢
 refine pureA 0 (some 3) 10 1 HT_ ?_
 refine pureA 3 (some 6) 10 9 HT_ ?_
 refine takeA 1 (some 4) 10 11 HT_ HW_ hHeld ?_ (hy := by rintro w' ⟨s0, s1, s2, s3, s4⟩; go_simp; with_reducible rfl)
 refine takeA 4 (some 7) 10 27 HT_ HW_ hHeld ?_ (hy := by rintro w' ⟨s0, s1, s2, s3, s4⟩; go_simp; with_reducible rfl)
 refine oneA 2 (some 5) 10 31 HT_ (fun K hK => ?_)
 refine goes_ Try.func178 (by kernel_rfl) rfl #[.slice A0_0 l0_0.length c0_0] (by rfl) rfl rfl (by (try simp only [List.map_toArray, List.map_cons, List.map_nil]); first | done | rfl | (simp only [List.length_drop, List.length_take]; rfl)) ?_
 with_reducible refine (slices_Clone_string_string.calls _ _ l0_0 t287 _ ?side1 ?side2 A2.out).mono ?_
 (case side1 => exact cd (Kd.C_below HR0_0.out HB.out))
 (case side2 => exact HC0_0.out)
 rintro e w7 ⟨v288, rfl, ho0, hb⟩
 refine ⟨_, rfl, ?_⟩
 have HO289 := ak (Kd.R_lower ho0 (below_size (belowg2 HB GE285 GE286)))
 replace BK285 := ak (blk_below (blkd BK285) hb)
 replace BK286 := ak (blk_below (blkd BK286) hb)
 replace HB := ak (below_step (belowg2 HB GE285 GE286) hb)
 (try clear hb); (try clear hb2); (try clear hk); (try clear hi); (try clear ho0)
 refine hK.out _ _ ⟨bq BK285 0, bq BK285 1, bq BK285 2, bq BK285 3, bq BK285 4⟩ (fun hHeld => ?_)
 clear hK K
 refine norm_ (a' := ?_) ?_ ?_
 rotate_left
 ·show Act.put _ (some 5) _ = _
  simp only [Act.put, List.setIfInBounds_toArray, List.set_cons_zero, List.set_cons_succ, i64_w, i32_w]
  rfl
 refine pureA 6 (some 9) 10 95 HT_ ?_
 refine oneA 5 (some 8) 10 127 HT_ (fun K hK => ?_)
 refine goes_ Try.func179 (by kernel_rfl) rfl #[.slice A0_4 l0_4.length c0_4] (by rfl) rfl rfl (by (try simp only [List.map_toArray, List.map_cons, List.map_nil]); first | done | rfl | (simp only [List.length_drop, List.length_take]; rfl)) ?_
 with_reducible refine (slices_Clone_int_int.calls _ _ l0_4 t290 _ ?side1 ?side2 A3.out).mono ?_
 (case side1 => exact cd (Kd.C_below HR0_4.out HB.out))
 (case side2 => exact HC0_4.out)
 rintro e w8 ⟨v291, rfl, ho0, hb⟩
 refine ⟨_, rfl, ?_⟩
 replace HO289 := ak (Kd.R_below (rdl HO289) hb)
 have HO292 := ak (Kd.R_lower ho0 (below_size (belowg2 HB GE285 GE286)))
 replace BK285 := ak (blk_below (blkd BK285) hb)
 replace BK286 := ak (blk_below (blkd BK286) hb)
 replace HB := ak (below_step (belowg2 HB GE285 GE286) hb)
 (try clear hb); (try clear hb2); (try clear hk); (try clear hi); (try clear ho0)
 obtain ⟨Ao9, co9, eo9⟩ := Kd.R_slice HO289.out
 (first | subst eo9 | (injection eo9 with f1_ f2_ f3_; have f4_ := f1_.symm; have f5_ := f3_.symm; clear f1_ f2_ f3_; subst f4_; subst f5_))
 obtain ⟨Ao11, co11, eo11⟩ := Kd.R_slice HO292.out
 (first | subst eo11 | (injection eo11 with f1_ f2_ f3_; have f4_ := f1_.symm; have f5_ := f3_.symm; clear f1_ f2_ f3_; subst f4_; subst f5_))
 refine hK.out _ _ ⟨bq BK285 0, bq BK285 1, bq BK285 2, bq BK285 3, bq BK285 4⟩ (fun hHeld => ?_)
 clear hK K
 refine norm_ (a' := ?_) ?_ ?_
 rotate_left
 ·show Act.put _ (some 8) _ = _
  simp only [Act.put, List.setIfInBounds_toArray, List.set_cons_zero, List.set_cons_succ, i64_w, i32_w]
  rfl
 refine last_ (i := 7) (N := none) (bl 10 255) rfl rfl (one_of HT_.out (by kernel_rfl)) (by decide) (fun K hK => ?_)
 have hs10 : w8.cell? ⟨gb285, 0, none⟩ = some (.slice A0_0 l0_0.length c0_0) := bq BK285 0
 have hfs10 := blk_frozen BK285.out 0
 have hns10_1 := NB286_285.out; have hms10_1 := NB285_286.out
 refine skip_ (w1 := ?_) (by rfl) rfl ?_ ?_
 rotate_left
 ·go_simp
  rfl
 refine hK.out _ _ ?_
 clear hK K
 refine pureA 8 (some 10) 10 511 HT_ ?_
 refine last_ (i := 9) (N := none) (bl 10 1023) rfl rfl (one_of HT_.out (by kernel_rfl)) (by decide) (fun K hK => ?_)
 have hs12 : w8.cell? ⟨gb285, 4, none⟩ = some (.slice A0_4 l0_4.length c0_4) := bq BK285 4
 have hfs12 := blk_frozen BK285.out 4
 have hns12_1 := NB286_285.out; have hms12_1 := NB285_286.out
 refine skip_ (w1 := ?_) (by rfl) rfl ?_ ?_
 rotate_left
 ·go_simp
  rfl
 refine hK.out _ _ ?_
 clear hK K
 refine done_ (done_of HT_.out (by kernel_rfl)) ?_
 have hnb13 := NB285_286.out; have hnc13 := NB286_285.out; obtain ⟨hcz14_0, hcz14_1, hcz14_2, hcz14_3, hcz14_4, hfz14_0, hfz14_1, hfz14_2, hfz14_3, hfz14_4⟩ := box5 BK285; obtain ⟨hcz15_0, hcz15_1, hcz15_2, hcz15_3, hcz15_4, hfz15_0, hfz15_1, hfz15_2, hfz15_3, hfz15_4⟩ := box5 BK286
 try go_wp2
 refine bodyPost_ret (results_cell_row rfl _ _ gb286 27 #[.slice Ao9 t287.length co9, .int .i64 a0_1, .int .i64 a0_2, .int .i64 a0_3, .slice Ao11 t290.length co11] (0, 0) _ rfl (by (with_reducible repeat (first | refine blk_drewN ?_ _ | refine blk_drew ?_ | refine blk_alloc ?_ _)); refine blk_put (cs := #[.slice Ao9 t287.length co9, .int .i64 a0_1, .int .i64 a0_2, .int .i64 a0_3, .slice none 0 0]) ?_ 4 _ rfl; (with_reducible repeat (first | refine blk_drewN ?_ _ | refine blk_drew ?_ | refine blk_alloc ?_ _)); refine blk_put (cs := #[.slice Ao9 t287.length co9, .int .i64 a0_1, .int .i64 a0_2, .int .i64 0, .slice none 0 0]) ?_ 3 _ rfl; (with_reducible repeat (first | refine blk_drewN ?_ _ | refine blk_drew ?_ | refine blk_alloc ?_ _)); refine blk_put (cs := #[.slice Ao9 t287.length co9, .int .i64 a0_1, .int .i64 0, .int .i64 0, .slice none 0 0]) ?_ 2 _ rfl; (with_reducible repeat (first | refine blk_drewN ?_ _ | refine blk_drew ?_ | refine blk_alloc ?_ _)); refine blk_put (cs := #[.slice Ao9 t287.length co9, .int .i64 0, .int .i64 0, .int .i64 0, .slice none 0 0]) ?_ 1 _ rfl; (with_reducible repeat (first | refine blk_drewN ?_ _ | refine blk_drew ?_ | refine blk_alloc ?_ _)); refine blk_put (cs := #[.slice none 0 0, .int .i64 0, .int .i64 0, .int .i64 0, .slice none 0 0]) ?_ 0 _ rfl; (with_reducible repeat (first | refine blk_drewN ?_ _ | refine blk_drew ?_ | refine blk_alloc ?_ _)); refine blk_far ?_ NB286_285.out _; (with_reducible repeat (first | refine blk_drewN ?_ _ | refine blk_drew ?_ | refine blk_alloc ?_ _)); refine blk_far ?_ NB286_285.out _; (with_reducible repeat (first | refine blk_drewN ?_ _ | refine blk_drew ?_ | refine blk_alloc ?_ _)); exact BK286.out) Try.underlying27 rfl (by kernel_rfl)) rfl ?_
 exact ⟨_, _, er2, by (with_reducible repeat (first | apply Kd.R_alloc | apply Kd.R_drewN | apply Kd.R_drew)); exact Kd.R_mono (farsR (Kd.R_types (Kd.R_types HO289.out BK285.out (by decide)) BK286.out (by decide))) (fun _ hk => trivial), by (with_reducible repeat (first | apply Kd.R_alloc | apply Kd.R_drewN | apply Kd.R_drew)); exact Kd.R_mono (farsR (Kd.R_types (Kd.R_types HO292.out BK285.out (by decide)) BK286.out (by decide))) (fun _ hk => trivial), belowg2 HB GE285 GE286⟩

/-! ### slices_isNaN_string: function 217 -/
def slices_isNaN_string.f (a0 : ByteArray) : Option (Bool) := some (a0.toList != a0.toList)
set_option maxHeartbeats 8000000 in
set_option maxRecDepth 100000 in
theorem slices_isNaN_string.calls (a0 : ByteArray) (r : Bool) (w : World) (h : slices_isNaN_string.f a0 = some r) :
  Calls Try.prog 217 #[.string a0] w fun e w' => e = .returned (.bool r) ∧ Drawn0 w w' := by
 have H : (some (a0.toList != a0.toList)) = some r := h
 clear h
 obtain rfl := Option.some.inj H
 go_enter Try.func217, Try.ntmps217
 go_wp2
 go_ret
 exact ⟨er, drw⟩

end Go.Proofs.Ytkgogglnipdcfaa.QFnMixes
