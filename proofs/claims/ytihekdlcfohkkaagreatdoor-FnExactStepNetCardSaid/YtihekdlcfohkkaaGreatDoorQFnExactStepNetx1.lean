-- printed by this session's own program (wip/tools/pp.py: the kit's print.py with changes); Lean checks it
import Derived.Test.YtihekdlcfohkkaaGreatDoorQFnExactStepNetx0
namespace Go.Proofs.YtihekdlcfohkkaaGreatDoor.QFnExactStepNet
open Go.RowKit Go.Proofs.YtihekdlcfohkkaaGreatDoorW.PrintWords Go.Proofs.YtihekdlcfohkkaaGreatDoorW.PrintLast Go.Proofs.YtihekdlcfohkkaaGreatDoorW.PrintMore
attribute [local go_sem] max2_int min2_int max_two min_two max_three min_three max_four min_four strLss strGtr strLeq strGeq   -- for this text's walks alone
set_option linter.unusedVariables false
set_option linter.unusedSimpArgs false

/-! ### laws_szIntS: function 50 -/
def laws_szIntS.f (l0 : List Int) (a1 : Int) : Option (Int) := if (wrap64 (a1 - (l0.length : Int))) < 0 then (some (-1)) else (some (wrap64 (a1 - (l0.length : Int))))
set_option maxHeartbeats 8000000 in
set_option maxRecDepth 100000 in
theorem laws_szIntS.calls (A0 : Option Addr) (c0 : Nat) (l0 : List Int) (a1 : Int) (r : Int) (w : World) (hr0 : Kd.C (Kd.int .i64) w A0 l0.length l0) (hc0 : l0.length ≤ c0) (h : laws_szIntS.f l0 a1 = some r) :
  Calls Tryz.prog 50 #[.slice A0 l0.length c0, .int .i64 a1] w fun e w' => e = .returned (.int .i64 r) ∧ Drawn0 w w' := by
 have HR0 := Aside0.mk hr0; have HC0 := Aside0.mk hc0; clear hr0 hc0
 have H : (if (wrap64 (a1 - (l0.length : Int))) < 0 then (some (-1)) else (some (wrap64 (a1 - (l0.length : Int))))) = some r := h
 clear h
 by_cases c3 : (wrap64 (a1 - (l0.length : Int))) < 0
 ·rw [if_pos c3] at H
  have c3b0 : decide ((wrap64 (a1 - (l0.length : Int))) < 0) = true := decide_eq_true c3
  clear c3
  obtain rfl := Option.some.inj H
  go_enter Tryz.func50, Tryz.ntmps50
  go_wp2
  go_ret
  exact ⟨er, drw⟩
 ·rw [if_neg c3] at H
  have c3b0 : decide ((wrap64 (a1 - (l0.length : Int))) < 0) = false := decide_eq_false c3
  clear c3
  obtain rfl := Option.some.inj H
  go_enter Tryz.func50, Tryz.ntmps50
  go_wp2
  go_ret
  exact ⟨er, drw⟩

/-! ### laws_szStringS: function 86 -/
def laws_szStringS.l0 : Nat → List ByteArray → Int → Int → Option (Int)
  | 0, _, _, _ => none
  | k + 1, x0, x1, x5 => if x5 < (x0.length : Int) then (if 0 ≤ x5 then (if (wrap64 (x1 - ((rdOf ByteArray.empty x0 x5).size : Int))) < 0 then (some (-1)) else (laws_szStringS.l0 k x0 (wrap64 (x1 - ((rdOf ByteArray.empty x0 x5).size : Int))) (wrap64 (x5 + 1)))) else (none)) else (some x1)
def laws_szStringS.f (k : Nat) (l0 : List ByteArray) (a1 : Int) : Option (Int) := if (wrap64 (a1 - (l0.length : Int))) < 0 then (some (-1)) else (laws_szStringS.l0 k l0 (wrap64 (a1 - (l0.length : Int))) 0)
theorem laws_szStringS.mono_l : ∀ k, (∀ y0 y1 y2, LeO (laws_szStringS.l0 k y0 y1 y2) (laws_szStringS.l0 (k + 1) y0 y1 y2))
 | 0 => fun _ _ _ r h => by simp [laws_szStringS.l0] at h
 | k + 1 => by
  have ih0 := laws_szStringS.mono_l k
  ·intro y0 y1 y2
   unfold laws_szStringS.l0
   repeat' (first | (with_reducible first | exact ih0 _ _ _ | exact LeO.refl _ | exact LeO.none _ | refine LeO.ite ?_ ?_ | refine LeO.bind ?_ (fun _ => ?_)) | exact ih0 _ _ _ | exact LeO.none _ | refine LeO.ite ?_ ?_ | refine LeO.bind ?_ (fun _ => ?_))
theorem laws_szStringS.mono : ∀ a0 a1 k, LeO (laws_szStringS.f k a0 a1) (laws_szStringS.f (k + 1) a0 a1) := by
 intro a0 a1 k
 have ih0 := laws_szStringS.mono_l k
 unfold laws_szStringS.f
 repeat' (first | (with_reducible first | exact ih0 _ _ _ | exact LeO.refl _ | exact LeO.none _ | refine LeO.ite ?_ ?_ | refine LeO.bind ?_ (fun _ => ?_)) | exact ih0 _ _ _ | exact LeO.none _ | refine LeO.ite ?_ ?_ | refine LeO.bind ?_ (fun _ => ?_))
set_option maxHeartbeats 8000000 in
set_option maxRecDepth 100000 in
theorem laws_szStringS.calls (k : Nat) (A0 : Option Addr) (c0 : Nat) (l0 : List ByteArray) (a1 : Int) (r : Int) (w : World) (hr0 : Kd.C Kd.string w A0 l0.length l0) (hc0 : l0.length ≤ c0) (h : laws_szStringS.f k l0 a1 = some r) :
  Calls Tryz.prog 86 #[.slice A0 l0.length c0, .int .i64 a1] w fun e w' => e = .returned (.int .i64 r) ∧ Drawn0 w w' := by
 have HR0 := Aside0.mk hr0; have HC0 := Aside0.mk hc0; clear hr0 hc0
 have H : (if (wrap64 (a1 - (l0.length : Int))) < 0 then (some (-1)) else (laws_szStringS.l0 k l0 (wrap64 (a1 - (l0.length : Int))) 0)) = some r := h
 clear h
 by_cases c3 : (wrap64 (a1 - (l0.length : Int))) < 0
 ·rw [if_pos c3] at H
  have c3b0 : decide ((wrap64 (a1 - (l0.length : Int))) < 0) = true := decide_eq_true c3
  clear c3
  obtain rfl := Option.some.inj H
  go_enter Tryz.func86, Tryz.ntmps86
  go_wp2
  go_ret
  exact ⟨er, drw⟩
 ·rw [if_neg c3] at H
  have c3b0 : decide ((wrap64 (a1 - (l0.length : Int))) < 0) = false := decide_eq_false c3
  clear c3
  have H' := Aside0.mk H
  clear H
  go_enter Tryz.func86, Tryz.ntmps86
  go_wp2
  go_loopg [1, 5] k (fun kq v1 v5 w' => ∃ (x1_1 : Int) (x5_1 : Int), v1 = .int .i64 x1_1 ∧ v5 = .int .i64 x5_1 ∧ Aside0 (laws_szStringS.l0 kq l0 x1_1 x5_1 = some r) ∧ Aside0 (kq ≤ k) ∧ Drawn0 w w')
  case atStart => exact ⟨(wrap64 (a1 - (l0.length : Int))), (0), er, er, H', ⟨Nat.le_refl _⟩, drw⟩
  case round =>
   clear H'
   (try clear c3b0)
   obtain ⟨x1_1, x5_1, rfl, rfl, HA, HK1, ⟨m1, rfl⟩⟩ := hrel
   cases gk with
   | zero => exact absurd HA.out (by simp [laws_szStringS.l0])
   | succ k1 =>
    have H := HA.out; clear HA
    simp only [laws_szStringS.l0] at H
    by_cases c4 : x5_1 < (l0.length : Int)
    ·rw [if_pos c4] at H
     have c4b0 : decide (x5_1 < (l0.length : Int)) = true := decide_eq_true c4
     clear c4; replace H := ifS H; obtain ⟨c5, H⟩ := H; have c5b0 := decide_eq_true c5; clear c5
     by_cases c6 : (wrap64 (x1_1 - ((rdOf ByteArray.empty l0 x5_1).size : Int))) < 0
     ·rw [if_pos c6] at H
      have c6b0 : decide ((wrap64 (x1_1 - ((rdOf ByteArray.empty l0 x5_1).size : Int))) < 0) = true := decide_eq_true c6
      clear c6
      obtain rfl := Option.some.inj H
      have p101 : 0 ≤ (x5_1 : Int) := da
      have q101 : x5_1 < (l0.length : Int) := da
      obtain ⟨ad101, e101, hx101_0⟩ := Kd.at_string HR0.out x5_1 p101 q101
      cases e101
      replace p101 := eq_true p101; replace q101 := eq_true q101; go_wp2
      go_ret
      exact ⟨er, drw⟩
     ·rw [if_neg c6] at H
      have c6b0 : decide ((wrap64 (x1_1 - ((rdOf ByteArray.empty l0 x5_1).size : Int))) < 0) = false := decide_eq_false c6
      clear c6
      have H' := Aside0.mk H
      clear H
      have p101 : 0 ≤ (x5_1 : Int) := da
      have q101 : x5_1 < (l0.length : Int) := da
      obtain ⟨ad101, e101, hx101_0⟩ := Kd.at_string HR0.out x5_1 p101 q101
      cases e101
      replace p101 := eq_true p101; replace q101 := eq_true q101; go_wp2
      go_roundg k1
      case measure => have := HK1.out; omega
      case rel => exact ⟨(wrap64 (x1_1 - ((rdOf ByteArray.empty l0 x5_1).size : Int))), (wrap64 (x5_1 + 1)), er, er, H', ⟨by have := HK1.out; omega⟩, drw⟩
    ·rw [if_neg c4] at H
     have c4b0 : decide (x5_1 < (l0.length : Int)) = false := decide_eq_false c4
     clear c4
     obtain rfl := Option.some.inj H
     go_wp2
     go_ret
     exact ⟨er, drw⟩

/-! ### laws_szStringSS: function 51 -/
def laws_szStringSS.l0 : Nat → List (List ByteArray) → Int → Int → Option (Int)
  | 0, _, _, _ => none
  | k + 1, x0, x1, x5 => if x5 < (x0.length : Int) then (if 0 ≤ x5 then ((laws_szStringS.f k (rd_L2 x0 x5) x1).bind fun t103 => (if t103 < 0 then (some (-1)) else (laws_szStringSS.l0 k x0 t103 (wrap64 (x5 + 1))))) else (none)) else (some x1)
def laws_szStringSS.f (k : Nat) (l0 : List (List ByteArray)) (a1 : Int) : Option (Int) := if (wrap64 (a1 - (l0.length : Int))) < 0 then (some (-1)) else (laws_szStringSS.l0 k l0 (wrap64 (a1 - (l0.length : Int))) 0)
theorem laws_szStringSS.mono_l : ∀ k, (∀ y0 y1 y2, LeO (laws_szStringSS.l0 k y0 y1 y2) (laws_szStringSS.l0 (k + 1) y0 y1 y2))
 | 0 => fun _ _ _ r h => by simp [laws_szStringSS.l0] at h
 | k + 1 => by
  have ih0 := laws_szStringSS.mono_l k
  ·intro y0 y1 y2
   unfold laws_szStringSS.l0
   repeat' (first | (with_reducible first | exact ih0 _ _ _ | exact laws_szStringS.mono _ _ _ | exact LeO.refl _ | exact LeO.none _ | refine LeO.ite ?_ ?_ | refine LeO.bind ?_ (fun _ => ?_)) | exact ih0 _ _ _ | exact laws_szStringS.mono _ _ _ | exact LeO.none _ | refine LeO.ite ?_ ?_ | refine LeO.bind ?_ (fun _ => ?_))
theorem laws_szStringSS.mono : ∀ a0 a1 k, LeO (laws_szStringSS.f k a0 a1) (laws_szStringSS.f (k + 1) a0 a1) := by
 intro a0 a1 k
 have ih0 := laws_szStringSS.mono_l k
 unfold laws_szStringSS.f
 repeat' (first | (with_reducible first | exact ih0 _ _ _ | exact laws_szStringS.mono _ _ _ | exact LeO.refl _ | exact LeO.none _ | refine LeO.ite ?_ ?_ | refine LeO.bind ?_ (fun _ => ?_)) | exact ih0 _ _ _ | exact laws_szStringS.mono _ _ _ | exact LeO.none _ | refine LeO.ite ?_ ?_ | refine LeO.bind ?_ (fun _ => ?_))
set_option maxHeartbeats 8000000 in
set_option maxRecDepth 100000 in
theorem laws_szStringSS.calls (k : Nat) (A0 : Option Addr) (c0 : Nat) (l0 : List (List ByteArray)) (a1 : Int) (r : Int) (w : World) (hr0 : Kd.C (Kd.slice 9 Kd.string) w A0 l0.length l0) (hc0 : l0.length ≤ c0) (h : laws_szStringSS.f k l0 a1 = some r) :
  Calls Tryz.prog 51 #[.slice A0 l0.length c0, .int .i64 a1] w fun e w' => e = .returned (.int .i64 r) ∧ Drawn0 w w' := by
 have HR0 := Aside0.mk hr0; have HC0 := Aside0.mk hc0; clear hr0 hc0
 have H : (if (wrap64 (a1 - (l0.length : Int))) < 0 then (some (-1)) else (laws_szStringSS.l0 k l0 (wrap64 (a1 - (l0.length : Int))) 0)) = some r := h
 clear h
 by_cases c3 : (wrap64 (a1 - (l0.length : Int))) < 0
 ·rw [if_pos c3] at H
  have c3b0 : decide ((wrap64 (a1 - (l0.length : Int))) < 0) = true := decide_eq_true c3
  clear c3
  obtain rfl := Option.some.inj H
  go_enter Tryz.func51, Tryz.ntmps51
  go_wp2
  go_ret
  exact ⟨er, drw⟩
 ·rw [if_neg c3] at H
  have c3b0 : decide ((wrap64 (a1 - (l0.length : Int))) < 0) = false := decide_eq_false c3
  clear c3
  have H' := Aside0.mk H
  clear H
  go_enter Tryz.func51, Tryz.ntmps51
  go_wp2
  go_loopg [1, 5] k (fun kq v1 v5 w' => ∃ (x1_1 : Int) (x5_1 : Int), v1 = .int .i64 x1_1 ∧ v5 = .int .i64 x5_1 ∧ Aside0 (laws_szStringSS.l0 kq l0 x1_1 x5_1 = some r) ∧ Aside0 (kq ≤ k) ∧ Drawn0 w w')
  case atStart => exact ⟨(wrap64 (a1 - (l0.length : Int))), (0), er, er, H', ⟨Nat.le_refl _⟩, drw⟩
  case round =>
   clear H'
   (try clear c3b0)
   obtain ⟨x1_1, x5_1, rfl, rfl, HA, HK1, ⟨m1, rfl⟩⟩ := hrel
   cases gk with
   | zero => exact absurd HA.out (by simp [laws_szStringSS.l0])
   | succ k1 =>
    have H := HA.out; clear HA
    simp only [laws_szStringSS.l0] at H
    by_cases c4 : x5_1 < (l0.length : Int)
    ·rw [if_pos c4] at H
     have c4b0 : decide (x5_1 < (l0.length : Int)) = true := decide_eq_true c4
     clear c4; replace H := ifS H; obtain ⟨c5, H⟩ := H; have c5b0 := decide_eq_true c5; clear c5; replace H := bS H; obtain ⟨t103, A6, H⟩ := H
     replace H : (if t103 < 0 then (some (-1)) else (laws_szStringSS.l0 k1 l0 t103 (wrap64 (x5_1 + 1)))) = some r := H
     by_cases c7 : t103 < 0
     ·rw [if_pos c7] at H
      have c7b0 : decide (t103 < 0) = true := decide_eq_true c7
      clear c7
      obtain rfl := Option.some.inj H
      have p102 : 0 ≤ (x5_1 : Int) := da
      have q102 : x5_1 < (l0.length : Int) := da
      obtain ⟨ad102, A102_0, c102_0, e102, hx102_0, hl102_0, hi102_0⟩ := at_L2 HR0.out x5_1 p102 q102
      cases e102
      have HR102_0 := Aside0.mk hi102_0; have HC102_0 := Aside0.mk hl102_0; clear hi102_0 hl102_0; replace p102 := eq_true p102; replace q102 := eq_true q102
      go_wp2_with (first | ((with_reducible refine gate_callee (f := 86) rfl ?_); refine goesLa (some 23) rfl Tryz.func86 #[.slice A102_0 (rd_L2 l0 x5_1).length c102_0, .int .i64 x1_1] rfl ?_; (with_reducible refine (laws_szStringS.calls k1 _ _ (rd_L2 l0 x5_1) x1_1 t103 _ ?side1 ?side2 A6.out).mono ?_); (case side1 => exact cd HR102_0.out); (case side2 => exact HC102_0.out); rintro e w' ⟨rfl, ⟨nd, rfl⟩⟩; refine ⟨_, rfl, ?_⟩))
      go_ret
      exact ⟨er, drw⟩
     ·rw [if_neg c7] at H
      have c7b0 : decide (t103 < 0) = false := decide_eq_false c7
      clear c7
      have H' := Aside0.mk H
      clear H
      have p102 : 0 ≤ (x5_1 : Int) := da
      have q102 : x5_1 < (l0.length : Int) := da
      obtain ⟨ad102, A102_0, c102_0, e102, hx102_0, hl102_0, hi102_0⟩ := at_L2 HR0.out x5_1 p102 q102
      cases e102
      have HR102_0 := Aside0.mk hi102_0; have HC102_0 := Aside0.mk hl102_0; clear hi102_0 hl102_0; replace p102 := eq_true p102; replace q102 := eq_true q102
      go_wp2_with (first | ((with_reducible refine gate_callee (f := 86) rfl ?_); refine goesLa (some 23) rfl Tryz.func86 #[.slice A102_0 (rd_L2 l0 x5_1).length c102_0, .int .i64 x1_1] rfl ?_; (with_reducible refine (laws_szStringS.calls k1 _ _ (rd_L2 l0 x5_1) x1_1 t103 _ ?side1 ?side2 A6.out).mono ?_); (case side1 => exact cd HR102_0.out); (case side2 => exact HC102_0.out); rintro e w' ⟨rfl, ⟨nd, rfl⟩⟩; refine ⟨_, rfl, ?_⟩))
      go_roundg k1
      case measure => have := HK1.out; omega
      case rel => exact ⟨(t103), (wrap64 (x5_1 + 1)), er, er, H', ⟨by have := HK1.out; omega⟩, drw⟩
    ·rw [if_neg c4] at H
     have c4b0 : decide (x5_1 < (l0.length : Int)) = false := decide_eq_false c4
     clear c4
     obtain rfl := Option.some.inj H
     go_wp2
     go_ret
     exact ⟨er, drw⟩

/-! ### laws_szNet: function 8 -/
def laws_szNet.f (k : Nat) (l0_0 : List Int) (l0_1 : List (List ByteArray)) (l0_2 : List (List ByteArray)) (l0_3 : List (List ByteArray)) (a0_4 : Int) (a1 : Int) : Option (Int) := (laws_szIntS.f l0_0 a1).bind fun t105 => (if t105 < 0 then (some (-1)) else ((laws_szStringSS.f k l0_1 t105).bind fun t106 => (if t106 < 0 then (some (-1)) else ((laws_szStringSS.f k l0_2 t106).bind fun t107 => (if t107 < 0 then (some (-1)) else ((laws_szStringSS.f k l0_3 t107).bind fun t108 => (if t108 < 0 then (some (-1)) else (some t108))))))))
theorem laws_szNet.mono : ∀ a0 a1 a2 a3 a4 a5 k, LeO (laws_szNet.f k a0 a1 a2 a3 a4 a5) (laws_szNet.f (k + 1) a0 a1 a2 a3 a4 a5) := by
 intro a0 a1 a2 a3 a4 a5 k
 unfold laws_szNet.f
 repeat' (first | (with_reducible first | exact laws_szStringSS.mono _ _ _ | exact LeO.refl _ | exact LeO.none _ | refine LeO.ite ?_ ?_ | refine LeO.bind ?_ (fun _ => ?_)) | exact laws_szStringSS.mono _ _ _ | exact LeO.none _ | refine LeO.ite ?_ ?_ | refine LeO.bind ?_ (fun _ => ?_))
set_option maxHeartbeats 8000000 in
set_option maxRecDepth 100000 in
theorem laws_szNet.calls (k : Nat) (A0_0 : Option Addr) (c0_0 : Nat) (l0_0 : List Int) (A0_1 : Option Addr) (c0_1 : Nat) (l0_1 : List (List ByteArray)) (A0_2 : Option Addr) (c0_2 : Nat) (l0_2 : List (List ByteArray)) (A0_3 : Option Addr) (c0_3 : Nat) (l0_3 : List (List ByteArray)) (a0_4 : Int) (a1 : Int) (r : Int) (w : World) (hr0_0 : Kd.C (Kd.int .i64) w A0_0 l0_0.length l0_0) (hc0_0 : l0_0.length ≤ c0_0) (hr0_1 : Kd.C (Kd.slice 9 Kd.string) w A0_1 l0_1.length l0_1) (hc0_1 : l0_1.length ≤ c0_1) (hr0_2 : Kd.C (Kd.slice 9 Kd.string) w A0_2 l0_2.length l0_2) (hc0_2 : l0_2.length ≤ c0_2) (hr0_3 : Kd.C (Kd.slice 9 Kd.string) w A0_3 l0_3.length l0_3) (hc0_3 : l0_3.length ≤ c0_3) (h : laws_szNet.f k l0_0 l0_1 l0_2 l0_3 a0_4 a1 = some r) :
  Calls Tryz.prog 8 #[.agg #[.slice A0_0 l0_0.length c0_0, .slice A0_1 l0_1.length c0_1, .slice A0_2 l0_2.length c0_2, .slice A0_3 l0_3.length c0_3, .int .i64 a0_4], .int .i64 a1] w fun e w' => e = .returned (.int .i64 r) ∧ Below w.heap.size w w' := by
 have hu25 := Tryz.underlying25
 have HR0_0 := Aside0.mk hr0_0; have HC0_0 := Aside0.mk hc0_0; clear hr0_0 hc0_0; have HR0_1 := Aside0.mk hr0_1; have HC0_1 := Aside0.mk hc0_1; clear hr0_1 hc0_1; have HR0_2 := Aside0.mk hr0_2; have HC0_2 := Aside0.mk hc0_2; clear hr0_2 hc0_2; have HR0_3 := Aside0.mk hr0_3; have HC0_3 := Aside0.mk hc0_3; clear hr0_3 hc0_3
 have HB := Aside0.mk (Below.refl w.heap.size w)
 have H : ((laws_szIntS.f l0_0 a1).bind fun t105 => (if t105 < 0 then (some (-1)) else ((laws_szStringSS.f k l0_1 t105).bind fun t106 => (if t106 < 0 then (some (-1)) else ((laws_szStringSS.f k l0_2 t106).bind fun t107 => (if t107 < 0 then (some (-1)) else ((laws_szStringSS.f k l0_3 t107).bind fun t108 => (if t108 < 0 then (some (-1)) else (some t108))))))))) = some r := h
 clear h; replace H := bS H; obtain ⟨t105, A3, H⟩ := H
 replace H : (if t105 < 0 then (some (-1)) else ((laws_szStringSS.f k l0_1 t105).bind fun t106 => (if t106 < 0 then (some (-1)) else ((laws_szStringSS.f k l0_2 t106).bind fun t107 => (if t107 < 0 then (some (-1)) else ((laws_szStringSS.f k l0_3 t107).bind fun t108 => (if t108 < 0 then (some (-1)) else (some t108)))))))) = some r := H
 by_cases c4 : t105 < 0
 ·rw [if_pos c4] at H
  have c4b0 : decide (t105 < 0) = true := decide_eq_true c4
  clear c4
  obtain rfl := Option.some.inj H
  go_enter Tryz.func8, Tryz.ntmps8
  go_wp2_with (first | ((with_reducible refine gate_dst (N := 2) rfl ?_); refine boxev 2 #[.slice A0_0 l0_0.length c0_0, .slice A0_1 l0_1.length c0_1, .slice A0_2 l0_2.length c0_2, .slice A0_3 l0_3.length c0_3, .int .i64 a0_4] 25 ?_; intro gb104 hg w5 hbox hb; have BK104 := ak (hbox); have GW104 := ak (hgl hg (belowd HB)); have GE104 := ak (hgl hg (belowd HB)); replace HB := ak (below_step (belowd HB) hb); clear hb hbox hg; obtain ⟨hcz6_0, hcz6_1, hcz6_2, hcz6_3, hcz6_4, hfz6_0, hfz6_1, hfz6_2, hfz6_3, hfz6_4⟩ := box5 BK104) | ((with_reducible refine gate_callee (f := 50) rfl ?_); refine goesLa (some 8) rfl Tryz.func50 #[.slice A0_0 l0_0.length c0_0, .int .i64 a1] rfl ?_; (with_reducible refine (laws_szIntS.calls _ _ l0_0 a1 t105 _ ?side1 ?side2 A3.out).mono ?_); (case side1 => exact cd (Kd.C_below HR0_0.out HB.out)); (case side2 => exact HC0_0.out); rintro e w' ⟨rfl, ⟨nd, rfl⟩⟩; refine ⟨_, rfl, ?_⟩))
  go_ret
  exact ⟨er2, belowg1 HB GE104⟩
 ·rw [if_neg c4] at H
  have c4b0 : decide (t105 < 0) = false := decide_eq_false c4
  clear c4; replace H := bS H; obtain ⟨t106, A7, H⟩ := H
  replace H : (if t106 < 0 then (some (-1)) else ((laws_szStringSS.f k l0_2 t106).bind fun t107 => (if t107 < 0 then (some (-1)) else ((laws_szStringSS.f k l0_3 t107).bind fun t108 => (if t108 < 0 then (some (-1)) else (some t108)))))) = some r := H
  by_cases c8 : t106 < 0
  ·rw [if_pos c8] at H
   have c8b0 : decide (t106 < 0) = true := decide_eq_true c8
   clear c8
   obtain rfl := Option.some.inj H
   go_enter Tryz.func8, Tryz.ntmps8
   go_wp2_with (first | ((with_reducible refine gate_dst (N := 2) rfl ?_); refine boxev 2 #[.slice A0_0 l0_0.length c0_0, .slice A0_1 l0_1.length c0_1, .slice A0_2 l0_2.length c0_2, .slice A0_3 l0_3.length c0_3, .int .i64 a0_4] 25 ?_; intro gb104 hg w9 hbox hb; have BK104 := ak (hbox); have GW104 := ak (hgl hg (belowd HB)); have GE104 := ak (hgl hg (belowd HB)); replace HB := ak (below_step (belowd HB) hb); clear hb hbox hg; obtain ⟨hcz10_0, hcz10_1, hcz10_2, hcz10_3, hcz10_4, hfz10_0, hfz10_1, hfz10_2, hfz10_3, hfz10_4⟩ := box5 BK104) | ((with_reducible refine gate_callee (f := 50) rfl ?_); refine goesLa (some 8) rfl Tryz.func50 #[.slice A0_0 l0_0.length c0_0, .int .i64 a1] rfl ?_; (with_reducible refine (laws_szIntS.calls _ _ l0_0 a1 t105 _ ?side1 ?side2 A3.out).mono ?_); (case side1 => exact cd (Kd.C_below HR0_0.out HB.out)); (case side2 => exact HC0_0.out); rintro e w' ⟨rfl, ⟨nd, rfl⟩⟩; refine ⟨_, rfl, ?_⟩) | ((with_reducible refine gate_callee (f := 51) rfl ?_); refine goesLa (some 14) rfl Tryz.func51 #[.slice A0_1 l0_1.length c0_1, .int .i64 t105] rfl ?_; (with_reducible refine (laws_szStringSS.calls k _ _ l0_1 t105 t106 _ ?side1 ?side2 A7.out).mono ?_); (case side1 => exact cd (Kd.C_below HR0_1.out (belowg1 HB GE104))); (case side2 => exact HC0_1.out); rintro e w' ⟨rfl, ⟨nd, rfl⟩⟩; refine ⟨_, rfl, ?_⟩))
   go_ret
   exact ⟨er2, belowg1 HB GE104⟩
  ·rw [if_neg c8] at H
   have c8b0 : decide (t106 < 0) = false := decide_eq_false c8
   clear c8; replace H := bS H; obtain ⟨t107, A11, H⟩ := H
   replace H : (if t107 < 0 then (some (-1)) else ((laws_szStringSS.f k l0_3 t107).bind fun t108 => (if t108 < 0 then (some (-1)) else (some t108)))) = some r := H
   by_cases c12 : t107 < 0
   ·rw [if_pos c12] at H
    have c12b0 : decide (t107 < 0) = true := decide_eq_true c12
    clear c12
    obtain rfl := Option.some.inj H
    go_enter Tryz.func8, Tryz.ntmps8
    go_wp2_with (first | ((with_reducible refine gate_dst (N := 2) rfl ?_); refine boxev 2 #[.slice A0_0 l0_0.length c0_0, .slice A0_1 l0_1.length c0_1, .slice A0_2 l0_2.length c0_2, .slice A0_3 l0_3.length c0_3, .int .i64 a0_4] 25 ?_; intro gb104 hg w13 hbox hb; have BK104 := ak (hbox); have GW104 := ak (hgl hg (belowd HB)); have GE104 := ak (hgl hg (belowd HB)); replace HB := ak (below_step (belowd HB) hb); clear hb hbox hg; obtain ⟨hcz14_0, hcz14_1, hcz14_2, hcz14_3, hcz14_4, hfz14_0, hfz14_1, hfz14_2, hfz14_3, hfz14_4⟩ := box5 BK104) | ((with_reducible refine gate_callee (f := 50) rfl ?_); refine goesLa (some 8) rfl Tryz.func50 #[.slice A0_0 l0_0.length c0_0, .int .i64 a1] rfl ?_; (with_reducible refine (laws_szIntS.calls _ _ l0_0 a1 t105 _ ?side1 ?side2 A3.out).mono ?_); (case side1 => exact cd (Kd.C_below HR0_0.out HB.out)); (case side2 => exact HC0_0.out); rintro e w' ⟨rfl, ⟨nd, rfl⟩⟩; refine ⟨_, rfl, ?_⟩) | ((with_reducible refine gate_callee (f := 51) rfl ?_); refine goesLa (some 14) rfl Tryz.func51 #[.slice A0_1 l0_1.length c0_1, .int .i64 t105] rfl ?_; (with_reducible refine (laws_szStringSS.calls k _ _ l0_1 t105 t106 _ ?side1 ?side2 A7.out).mono ?_); (case side1 => exact cd (Kd.C_below HR0_1.out (belowg1 HB GE104))); (case side2 => exact HC0_1.out); rintro e w' ⟨rfl, ⟨nd, rfl⟩⟩; refine ⟨_, rfl, ?_⟩) | ((with_reducible refine gate_callee (f := 51) rfl ?_); refine goesLa (some 20) rfl Tryz.func51 #[.slice A0_2 l0_2.length c0_2, .int .i64 t106] rfl ?_; (with_reducible refine (laws_szStringSS.calls k _ _ l0_2 t106 t107 _ ?side1 ?side2 A11.out).mono ?_); (case side1 => exact cd (Kd.C_below HR0_2.out (belowg1 HB GE104))); (case side2 => exact HC0_2.out); rintro e w' ⟨rfl, ⟨nd, rfl⟩⟩; refine ⟨_, rfl, ?_⟩))
    go_ret
    exact ⟨er2, belowg1 HB GE104⟩
   ·rw [if_neg c12] at H
    have c12b0 : decide (t107 < 0) = false := decide_eq_false c12
    clear c12; replace H := bS H; obtain ⟨t108, A15, H⟩ := H
    replace H : (if t108 < 0 then (some (-1)) else (some t108)) = some r := H
    by_cases c16 : t108 < 0
    ·rw [if_pos c16] at H
     have c16b0 : decide (t108 < 0) = true := decide_eq_true c16
     clear c16
     obtain rfl := Option.some.inj H
     go_enter Tryz.func8, Tryz.ntmps8
     go_wp2_with (first | ((with_reducible refine gate_dst (N := 2) rfl ?_); refine boxev 2 #[.slice A0_0 l0_0.length c0_0, .slice A0_1 l0_1.length c0_1, .slice A0_2 l0_2.length c0_2, .slice A0_3 l0_3.length c0_3, .int .i64 a0_4] 25 ?_; intro gb104 hg w17 hbox hb; have BK104 := ak (hbox); have GW104 := ak (hgl hg (belowd HB)); have GE104 := ak (hgl hg (belowd HB)); replace HB := ak (below_step (belowd HB) hb); clear hb hbox hg; obtain ⟨hcz18_0, hcz18_1, hcz18_2, hcz18_3, hcz18_4, hfz18_0, hfz18_1, hfz18_2, hfz18_3, hfz18_4⟩ := box5 BK104) | ((with_reducible refine gate_callee (f := 50) rfl ?_); refine goesLa (some 8) rfl Tryz.func50 #[.slice A0_0 l0_0.length c0_0, .int .i64 a1] rfl ?_; (with_reducible refine (laws_szIntS.calls _ _ l0_0 a1 t105 _ ?side1 ?side2 A3.out).mono ?_); (case side1 => exact cd (Kd.C_below HR0_0.out HB.out)); (case side2 => exact HC0_0.out); rintro e w' ⟨rfl, ⟨nd, rfl⟩⟩; refine ⟨_, rfl, ?_⟩) | ((with_reducible refine gate_callee (f := 51) rfl ?_); refine goesLa (some 14) rfl Tryz.func51 #[.slice A0_1 l0_1.length c0_1, .int .i64 t105] rfl ?_; (with_reducible refine (laws_szStringSS.calls k _ _ l0_1 t105 t106 _ ?side1 ?side2 A7.out).mono ?_); (case side1 => exact cd (Kd.C_below HR0_1.out (belowg1 HB GE104))); (case side2 => exact HC0_1.out); rintro e w' ⟨rfl, ⟨nd, rfl⟩⟩; refine ⟨_, rfl, ?_⟩) | ((with_reducible refine gate_callee (f := 51) rfl ?_); refine goesLa (some 20) rfl Tryz.func51 #[.slice A0_2 l0_2.length c0_2, .int .i64 t106] rfl ?_; (with_reducible refine (laws_szStringSS.calls k _ _ l0_2 t106 t107 _ ?side1 ?side2 A11.out).mono ?_); (case side1 => exact cd (Kd.C_below HR0_2.out (belowg1 HB GE104))); (case side2 => exact HC0_2.out); rintro e w' ⟨rfl, ⟨nd, rfl⟩⟩; refine ⟨_, rfl, ?_⟩) | ((with_reducible refine gate_callee (f := 51) rfl ?_); refine goesLa (some 26) rfl Tryz.func51 #[.slice A0_3 l0_3.length c0_3, .int .i64 t107] rfl ?_; (with_reducible refine (laws_szStringSS.calls k _ _ l0_3 t107 t108 _ ?side1 ?side2 A15.out).mono ?_); (case side1 => exact cd (Kd.C_below HR0_3.out (belowg1 HB GE104))); (case side2 => exact HC0_3.out); rintro e w' ⟨rfl, ⟨nd, rfl⟩⟩; refine ⟨_, rfl, ?_⟩))
     go_ret
     exact ⟨er2, belowg1 HB GE104⟩
    ·rw [if_neg c16] at H
     have c16b0 : decide (t108 < 0) = false := decide_eq_false c16
     clear c16
     obtain rfl := Option.some.inj H
     go_enter Tryz.func8, Tryz.ntmps8
     go_wp2_with (first | ((with_reducible refine gate_dst (N := 2) rfl ?_); refine boxev 2 #[.slice A0_0 l0_0.length c0_0, .slice A0_1 l0_1.length c0_1, .slice A0_2 l0_2.length c0_2, .slice A0_3 l0_3.length c0_3, .int .i64 a0_4] 25 ?_; intro gb104 hg w19 hbox hb; have BK104 := ak (hbox); have GW104 := ak (hgl hg (belowd HB)); have GE104 := ak (hgl hg (belowd HB)); replace HB := ak (below_step (belowd HB) hb); clear hb hbox hg; obtain ⟨hcz20_0, hcz20_1, hcz20_2, hcz20_3, hcz20_4, hfz20_0, hfz20_1, hfz20_2, hfz20_3, hfz20_4⟩ := box5 BK104) | ((with_reducible refine gate_callee (f := 50) rfl ?_); refine goesLa (some 8) rfl Tryz.func50 #[.slice A0_0 l0_0.length c0_0, .int .i64 a1] rfl ?_; (with_reducible refine (laws_szIntS.calls _ _ l0_0 a1 t105 _ ?side1 ?side2 A3.out).mono ?_); (case side1 => exact cd (Kd.C_below HR0_0.out HB.out)); (case side2 => exact HC0_0.out); rintro e w' ⟨rfl, ⟨nd, rfl⟩⟩; refine ⟨_, rfl, ?_⟩) | ((with_reducible refine gate_callee (f := 51) rfl ?_); refine goesLa (some 14) rfl Tryz.func51 #[.slice A0_1 l0_1.length c0_1, .int .i64 t105] rfl ?_; (with_reducible refine (laws_szStringSS.calls k _ _ l0_1 t105 t106 _ ?side1 ?side2 A7.out).mono ?_); (case side1 => exact cd (Kd.C_below HR0_1.out (belowg1 HB GE104))); (case side2 => exact HC0_1.out); rintro e w' ⟨rfl, ⟨nd, rfl⟩⟩; refine ⟨_, rfl, ?_⟩) | ((with_reducible refine gate_callee (f := 51) rfl ?_); refine goesLa (some 20) rfl Tryz.func51 #[.slice A0_2 l0_2.length c0_2, .int .i64 t106] rfl ?_; (with_reducible refine (laws_szStringSS.calls k _ _ l0_2 t106 t107 _ ?side1 ?side2 A11.out).mono ?_); (case side1 => exact cd (Kd.C_below HR0_2.out (belowg1 HB GE104))); (case side2 => exact HC0_2.out); rintro e w' ⟨rfl, ⟨nd, rfl⟩⟩; refine ⟨_, rfl, ?_⟩) | ((with_reducible refine gate_callee (f := 51) rfl ?_); refine goesLa (some 26) rfl Tryz.func51 #[.slice A0_3 l0_3.length c0_3, .int .i64 t107] rfl ?_; (with_reducible refine (laws_szStringSS.calls k _ _ l0_3 t107 t108 _ ?side1 ?side2 A15.out).mono ?_); (case side1 => exact cd (Kd.C_below HR0_3.out (belowg1 HB GE104))); (case side2 => exact HC0_3.out); rintro e w' ⟨rfl, ⟨nd, rfl⟩⟩; refine ⟨_, rfl, ?_⟩))
     go_ret
     exact ⟨er2, belowg1 HB GE104⟩

/-! ### laws_toIntS: function 17 -/
def laws_toIntS.l0 : Nat → List Int → List Int → Int → Option (List Int)
  | 0, _, _, _ => none
  | k + 1, x0, x3, x4 => if x4 < (x0.length : Int) then (if 0 ≤ x4 then (if x4 < (x3.length : Int) then (laws_toIntS.l0 k x0 (x3.set (x4 : Int).toNat (rd x0 x4)) (wrap64 (x4 + 1))) else (none)) else (none)) else (some x3)
def laws_toIntS.f (k : Nat) (l0 : List Int) : Option (List Int) := if 0 ≤ (l0.length : Int) then (if ((l0.length : Int) : Int).toNat ≤ 35184372088832 then (laws_toIntS.l0 k l0 (List.replicate ((l0.length : Int) : Int).toNat 0) 0) else (none)) else (none)
theorem laws_toIntS.mono_l : ∀ k, (∀ y0 y1 y2, LeO (laws_toIntS.l0 k y0 y1 y2) (laws_toIntS.l0 (k + 1) y0 y1 y2))
 | 0 => fun _ _ _ r h => by simp [laws_toIntS.l0] at h
 | k + 1 => by
  have ih0 := laws_toIntS.mono_l k
  ·intro y0 y1 y2
   unfold laws_toIntS.l0
   repeat' (first | (with_reducible first | exact ih0 _ _ _ | exact LeO.refl _ | exact LeO.none _ | refine LeO.ite ?_ ?_ | refine LeO.bind ?_ (fun _ => ?_)) | exact ih0 _ _ _ | exact LeO.none _ | refine LeO.ite ?_ ?_ | refine LeO.bind ?_ (fun _ => ?_))
theorem laws_toIntS.mono : ∀ a0 k, LeO (laws_toIntS.f k a0) (laws_toIntS.f (k + 1) a0) := by
 intro a0 k
 have ih0 := laws_toIntS.mono_l k
 unfold laws_toIntS.f
 repeat' (first | (with_reducible first | exact ih0 _ _ _ | exact LeO.refl _ | exact LeO.none _ | refine LeO.ite ?_ ?_ | refine LeO.bind ?_ (fun _ => ?_)) | exact ih0 _ _ _ | exact LeO.none _ | refine LeO.ite ?_ ?_ | refine LeO.bind ?_ (fun _ => ?_))
set_option maxHeartbeats 8000000 in
set_option maxRecDepth 100000 in
theorem laws_toIntS.calls (k : Nat) (A0 : Option Addr) (c0 : Nat) (l0 : List Int) (r : List Int) (w : World) (hr0 : Kd.C (Kd.int .i64) w A0 l0.length l0) (hc0 : l0.length ≤ c0) (h : laws_toIntS.f k l0 = some r) :
  Calls Tryz.prog 17 #[.slice A0 l0.length c0] w fun e w' => ∃ v0_ : Value, e = .returned (v0_) ∧ Kd.R (Kd.int .i64) 3 w' w.heap.size (fun _ => True) v0_ r ∧ Below w.heap.size w w' := by
 have HR0 := Aside0.mk hr0; have HC0 := Aside0.mk hc0; clear hr0 hc0
 have HB := Aside0.mk (Below.refl w.heap.size w)
 have H : (if 0 ≤ (l0.length : Int) then (if ((l0.length : Int) : Int).toNat ≤ 35184372088832 then (laws_toIntS.l0 k l0 (List.replicate ((l0.length : Int) : Int).toNat 0) 0) else (none)) else (none)) = some r := h
 clear h; replace H := ifS H; obtain ⟨c2, H⟩ := H; have c2b0 := eq_true c2
 have c2b1 : decide (0 ≤ (l0.length : Int)) = true := decide_eq_true c2
 clear c2; replace H := ifS H; obtain ⟨c3, H⟩ := H; have c3b0 := eq_true c3
 have c3b1 : decide (((l0.length : Int) : Int).toNat ≤ 35184372088832) = true := decide_eq_true c3
 clear c3
 obtain ⟨y109, hy_⟩ : ∃ y_ : List Int, y_ = (List.replicate ((l0.length : Int) : Int).toNat 0) := ⟨_, rfl⟩
 replace H : (laws_toIntS.l0 k l0 y109 0) = some r := yH
 have Ny109 := ak hy_; clear hy_
 have H' := Aside0.mk H
 clear H
 go_enter Tryz.func17, Tryz.ntmps17
 go_wp2_with (first | ((with_reducible refine gate_dst (N := 7) rfl ?_); refine Kd.R_make (Kd.int .i64) _ 3 rfl (N := 7) rfl 22 _ _ rfl (l0.length : Int) rfl rfl Tryz.underlying22 (.int .i64 0) 8 info3 rfl (by decide) (by omega) 0 (ok := fun _ => True) (okp := fun _ => True) rfl (fun _ hk => hk) trivial (da) (Nat.le_trans (Nat.mul_le_mul_right _ (da : (l0.length : Int).toNat ≤ 35184372088832)) (by omega)) (Below.refl _ _) (Nat.le_refl _) ?_; intro v110 w4 ho5 hb hg_ hnew_; clear hg_ hnew_; (first | rw [← Ny109.out] at ho5 | (simp only [Int.reduceToNat] at ho5; rw [← Ny109.out] at ho5)); have HO111 := ak (Kd.R_lower ho5 (below_size (belowd HB))); replace HB := ak (below_step (belowd HB) hb); clear hb ho5))
 go_loopg [4] k (fun kq v4 w' => ∃ (x3_1 : List Int) (x4_1 : Int), v4 = .int .i64 x4_1 ∧ Aside0 (laws_toIntS.l0 kq l0 x3_1 x4_1 = some r) ∧ Aside0 (kq ≤ k) ∧ Aside0 (Kd.R (Kd.int .i64) 3 w' w.heap.size (fun _ => True) v110 x3_1) ∧ Aside0 (Below w.heap.size w w'))
 case atStart => exact ⟨(y109), (0), er, H', ⟨Nat.le_refl _⟩, ⟨rdl HO111⟩, ⟨belowd HB⟩⟩
 case round =>
  clear H'
  (try clear c2b0); (try clear c2b1); (try clear c3b0); (try clear c3b1)
  obtain ⟨x3_1, x4_1, rfl, HA, HK1, HO_3, HB⟩ := hrel
  cases gk with
  | zero => exact absurd HA.out (by simp [laws_toIntS.l0])
  | succ k1 =>
   have H := HA.out; clear HA
   simp only [laws_toIntS.l0] at H
   by_cases c6 : x4_1 < (l0.length : Int)
   ·rw [if_pos c6] at H
    have c6b0 : decide (x4_1 < (l0.length : Int)) = true := decide_eq_true c6
    clear c6; replace H := ifS H; obtain ⟨c7, H⟩ := H; have c7b0 := decide_eq_true c7; clear c7; replace H := ifS H; obtain ⟨c8, H⟩ := H; have c8b0 := decide_eq_true c8; clear c8
    obtain ⟨y113, hy_⟩ : ∃ y_ : List Int, y_ = (x3_1.set (x4_1 : Int).toNat (rd l0 x4_1)) := ⟨_, rfl⟩
    replace H : (laws_toIntS.l0 k1 l0 y113 (wrap64 (x4_1 + 1))) = some r := yH
    have Ny113 := ak hy_; clear hy_
    have H' := Aside0.mk H
    clear H
    have p112 : 0 ≤ (x4_1 : Int) := da
    have q112 : x4_1 < (l0.length : Int) := da
    obtain ⟨ad112, e112, hx112_0⟩ := Kd.at_int HR0.out x4_1 p112 q112
    cases e112
    replace hx112_0 := (HB.out.cell (World.block_lt_of_cell? w _ hx112_0)).trans hx112_0
    replace p112 := eq_true p112; replace q112 := eq_true q112
    have p9 : 0 ≤ (x4_1 : Int) := da
    have q9 : (x4_1 : Int) < ((x3_1.length : Int) : Int) := da
    obtain ⟨go9, co9, eo9, gb9, gl9, cl9, HG9⟩ := Kd.R_form HO_3.out (by omega)
    (first | cases eo9 | (injection eo9 with ea_ en_ ec_; (first | subst ea_ | (injection ea_ with ea_; subst ea_)); subst ec_; clear en_))
    have GB9 := Aside0.mk gb9; have GG9 := Aside0.mk HG9; clear gb9 gl9 HG9
    obtain ⟨hx9_0, hf9_0⟩ := Kd.R_celln 0 HO_3.out (x4_1 : Int) p9 q9
    replace p9 := eq_true p9; replace q9 := eq_true q9
    have HP10 := Kd.R_putg HO_3.out (x4_1 : Int) (rd l0 x4_1)
    go_wp2_with (first | ((with_reducible refine gate_store (t := 3) (p := 20) rfl ?_); refine store_event (t := 3) (p := 20) (v := ?vo_w11) (w1 := (wr.setCell ⟨go9, (x4_1 : Int).toNat, none⟩ (.int .i64 (rd l0 x4_1)))) ?hg ?ho ?hn ?hr ?_; (case ho => rfl); (case hg => rfl); (case hn => rfl); (case hr => first | (go_simp; done) | (go_simp; rfl)); intro w11 hw; have hg : wr.grownBy w11 (some go9) := (by rw [hw]; exact HP10.2); have hp_ : Kd.R (Kd.int .i64) 3 w11 w.heap.size (fun _ => True) (.slice (some ⟨go9, 0, none⟩) x3_1.length co9) y113 := (by rw [hw, Ny113.out]; exact HP10.1); clear HP10; replace HO_3 := ak (hp_); replace HB := ak ((by rw [hw]; exact below_set (HB.out) GB9.out : Below w.heap.size w w11)); clear hg hw hp_))
    go_roundg k1
    case measure => have := HK1.out; omega
    case rel => exact ⟨(y113), (wrap64 (x4_1 + 1)), er, H', ⟨by have := HK1.out; omega⟩, ⟨rdl HO_3⟩, ⟨belowd HB⟩⟩
   ·rw [if_neg c6] at H
    have c6b0 : decide (x4_1 < (l0.length : Int)) = false := decide_eq_false c6
    clear c6
    obtain rfl := Option.some.inj H
    go_wp2
    go_ret
    exact ⟨_, er2, by (with_reducible repeat (first | apply Kd.R_alloc | apply Kd.R_drewN | apply Kd.R_drew)); exact HO_3.out, belowd HB⟩

/-! ### laws_toStringS: function 90 -/
def laws_toStringS.l0 : Nat → List ByteArray → List ByteArray → Int → Option (List ByteArray)
  | 0, _, _, _ => none
  | k + 1, x0, x3, x4 => if x4 < (x0.length : Int) then (if 0 ≤ x4 then (if x4 < (x3.length : Int) then (laws_toStringS.l0 k x0 (x3.set (x4 : Int).toNat (rdOf ByteArray.empty x0 x4)) (wrap64 (x4 + 1))) else (none)) else (none)) else (some x3)
def laws_toStringS.f (k : Nat) (l0 : List ByteArray) : Option (List ByteArray) := if 0 ≤ (l0.length : Int) then (if ((l0.length : Int) : Int).toNat ≤ 17592186044416 then (laws_toStringS.l0 k l0 (List.replicate ((l0.length : Int) : Int).toNat (⟨#[]⟩ : ByteArray)) 0) else (none)) else (none)
theorem laws_toStringS.mono_l : ∀ k, (∀ y0 y1 y2, LeO (laws_toStringS.l0 k y0 y1 y2) (laws_toStringS.l0 (k + 1) y0 y1 y2))
 | 0 => fun _ _ _ r h => by simp [laws_toStringS.l0] at h
 | k + 1 => by
  have ih0 := laws_toStringS.mono_l k
  ·intro y0 y1 y2
   unfold laws_toStringS.l0
   repeat' (first | (with_reducible first | exact ih0 _ _ _ | exact LeO.refl _ | exact LeO.none _ | refine LeO.ite ?_ ?_ | refine LeO.bind ?_ (fun _ => ?_)) | exact ih0 _ _ _ | exact LeO.none _ | refine LeO.ite ?_ ?_ | refine LeO.bind ?_ (fun _ => ?_))
theorem laws_toStringS.mono : ∀ a0 k, LeO (laws_toStringS.f k a0) (laws_toStringS.f (k + 1) a0) := by
 intro a0 k
 have ih0 := laws_toStringS.mono_l k
 unfold laws_toStringS.f
 repeat' (first | (with_reducible first | exact ih0 _ _ _ | exact LeO.refl _ | exact LeO.none _ | refine LeO.ite ?_ ?_ | refine LeO.bind ?_ (fun _ => ?_)) | exact ih0 _ _ _ | exact LeO.none _ | refine LeO.ite ?_ ?_ | refine LeO.bind ?_ (fun _ => ?_))
set_option maxHeartbeats 8000000 in
set_option maxRecDepth 100000 in
theorem laws_toStringS.calls (k : Nat) (A0 : Option Addr) (c0 : Nat) (l0 : List ByteArray) (r : List ByteArray) (w : World) (hr0 : Kd.C Kd.string w A0 l0.length l0) (hc0 : l0.length ≤ c0) (h : laws_toStringS.f k l0 = some r) :
  Calls Tryz.prog 90 #[.slice A0 l0.length c0] w fun e w' => ∃ v0_ : Value, e = .returned (v0_) ∧ Kd.R Kd.string 9 w' w.heap.size (fun _ => True) v0_ r ∧ Below w.heap.size w w' := by
 have HR0 := Aside0.mk hr0; have HC0 := Aside0.mk hc0; clear hr0 hc0
 have HB := Aside0.mk (Below.refl w.heap.size w)
 have H : (if 0 ≤ (l0.length : Int) then (if ((l0.length : Int) : Int).toNat ≤ 17592186044416 then (laws_toStringS.l0 k l0 (List.replicate ((l0.length : Int) : Int).toNat (⟨#[]⟩ : ByteArray)) 0) else (none)) else (none)) = some r := h
 clear h; replace H := ifS H; obtain ⟨c2, H⟩ := H; have c2b0 := eq_true c2
 have c2b1 : decide (0 ≤ (l0.length : Int)) = true := decide_eq_true c2
 clear c2; replace H := ifS H; obtain ⟨c3, H⟩ := H; have c3b0 := eq_true c3
 have c3b1 : decide (((l0.length : Int) : Int).toNat ≤ 17592186044416) = true := decide_eq_true c3
 clear c3
 obtain ⟨y114, hy_⟩ : ∃ y_ : List ByteArray, y_ = (List.replicate ((l0.length : Int) : Int).toNat (⟨#[]⟩ : ByteArray)) := ⟨_, rfl⟩
 replace H : (laws_toStringS.l0 k l0 y114 0) = some r := yH
 have Ny114 := ak hy_; clear hy_
 have H' := Aside0.mk H
 clear H
 go_enter Tryz.func90, Tryz.ntmps90
 go_wp2_with (first | ((with_reducible refine gate_dst (N := 7) rfl ?_); refine Kd.R_make Kd.string _ 9 rfl (N := 7) rfl 62 _ _ rfl (l0.length : Int) rfl rfl Tryz.underlying62 (.string ⟨#[]⟩) 16 info9 rfl (by decide) (by omega) (⟨#[]⟩ : ByteArray) (ok := fun _ => True) (okp := fun _ => True) rfl (fun _ hk => hk) trivial (da) (Nat.le_trans (Nat.mul_le_mul_right _ (da : (l0.length : Int).toNat ≤ 17592186044416)) (by omega)) (Below.refl _ _) (Nat.le_refl _) ?_; intro v115 w4 ho5 hb hg_ hnew_; clear hg_ hnew_; (first | rw [← Ny114.out] at ho5 | (simp only [Int.reduceToNat] at ho5; rw [← Ny114.out] at ho5)); have HO116 := ak (Kd.R_lower ho5 (below_size (belowd HB))); replace HB := ak (below_step (belowd HB) hb); clear hb ho5))
 go_loopg [4] k (fun kq v4 w' => ∃ (x3_1 : List ByteArray) (x4_1 : Int), v4 = .int .i64 x4_1 ∧ Aside0 (laws_toStringS.l0 kq l0 x3_1 x4_1 = some r) ∧ Aside0 (kq ≤ k) ∧ Aside0 (Kd.R Kd.string 9 w' w.heap.size (fun _ => True) v115 x3_1) ∧ Aside0 (Below w.heap.size w w'))
 case atStart => exact ⟨(y114), (0), er, H', ⟨Nat.le_refl _⟩, ⟨rdl HO116⟩, ⟨belowd HB⟩⟩
 case round =>
  clear H'
  (try clear c2b0); (try clear c2b1); (try clear c3b0); (try clear c3b1)
  obtain ⟨x3_1, x4_1, rfl, HA, HK1, HO_3, HB⟩ := hrel
  cases gk with
  | zero => exact absurd HA.out (by simp [laws_toStringS.l0])
  | succ k1 =>
   have H := HA.out; clear HA
   simp only [laws_toStringS.l0] at H
   by_cases c6 : x4_1 < (l0.length : Int)
   ·rw [if_pos c6] at H
    have c6b0 : decide (x4_1 < (l0.length : Int)) = true := decide_eq_true c6
    clear c6; replace H := ifS H; obtain ⟨c7, H⟩ := H; have c7b0 := decide_eq_true c7; clear c7; replace H := ifS H; obtain ⟨c8, H⟩ := H; have c8b0 := decide_eq_true c8; clear c8
    obtain ⟨y118, hy_⟩ : ∃ y_ : List ByteArray, y_ = (x3_1.set (x4_1 : Int).toNat (rdOf ByteArray.empty l0 x4_1)) := ⟨_, rfl⟩
    replace H : (laws_toStringS.l0 k1 l0 y118 (wrap64 (x4_1 + 1))) = some r := yH
    have Ny118 := ak hy_; clear hy_
    have H' := Aside0.mk H
    clear H
    have p117 : 0 ≤ (x4_1 : Int) := da
    have q117 : x4_1 < (l0.length : Int) := da
    obtain ⟨ad117, e117, hx117_0⟩ := Kd.at_string HR0.out x4_1 p117 q117
    cases e117
    replace hx117_0 := (HB.out.cell (World.block_lt_of_cell? w _ hx117_0)).trans hx117_0
    replace p117 := eq_true p117; replace q117 := eq_true q117
    have p9 : 0 ≤ (x4_1 : Int) := da
    have q9 : (x4_1 : Int) < ((x3_1.length : Int) : Int) := da
    obtain ⟨go9, co9, eo9, gb9, gl9, cl9, HG9⟩ := Kd.R_form HO_3.out (by omega)
    (first | cases eo9 | (injection eo9 with ea_ en_ ec_; (first | subst ea_ | (injection ea_ with ea_; subst ea_)); subst ec_; clear en_))
    have GB9 := Aside0.mk gb9; have GG9 := Aside0.mk HG9; clear gb9 gl9 HG9
    obtain ⟨hx9_0, hf9_0⟩ := Kd.R_celln (⟨#[]⟩ : ByteArray) HO_3.out (x4_1 : Int) p9 q9
    replace p9 := eq_true p9; replace q9 := eq_true q9
    have HP10 := Kd.R_putg HO_3.out (x4_1 : Int) (rdOf ByteArray.empty l0 x4_1)
    go_wp2_with (first | ((with_reducible refine gate_store (t := 9) (p := 20) rfl ?_); refine store_event (t := 9) (p := 20) (v := ?vo_w11) (w1 := (wr.setCell ⟨go9, (x4_1 : Int).toNat, none⟩ (.string (rdOf ByteArray.empty l0 x4_1)))) ?hg ?ho ?hn ?hr ?_; (case ho => rfl); (case hg => rfl); (case hn => rfl); (case hr => first | (go_simp; done) | (go_simp; rfl)); intro w11 hw; have hg : wr.grownBy w11 (some go9) := (by rw [hw]; exact HP10.2); have hp_ : Kd.R Kd.string 9 w11 w.heap.size (fun _ => True) (.slice (some ⟨go9, 0, none⟩) x3_1.length co9) y118 := (by rw [hw, Ny118.out]; exact HP10.1); clear HP10; replace HO_3 := ak (hp_); replace HB := ak ((by rw [hw]; exact below_set (HB.out) GB9.out : Below w.heap.size w w11)); clear hg hw hp_))
    go_roundg k1
    case measure => have := HK1.out; omega
    case rel => exact ⟨(y118), (wrap64 (x4_1 + 1)), er, H', ⟨by have := HK1.out; omega⟩, ⟨rdl HO_3⟩, ⟨belowd HB⟩⟩
   ·rw [if_neg c6] at H
    have c6b0 : decide (x4_1 < (l0.length : Int)) = false := decide_eq_false c6
    clear c6
    obtain rfl := Option.some.inj H
    go_wp2
    go_ret
    exact ⟨_, er2, by (with_reducible repeat (first | apply Kd.R_alloc | apply Kd.R_drewN | apply Kd.R_drew)); exact HO_3.out, belowd HB⟩

/-! ### laws_toStringSS: function 54 -/
def laws_toStringSS.l0 : Nat → List (List ByteArray) → List (List ByteArray) → Int → Option ((List (List ByteArray)))
  | 0, _, _, _ => none
  | k + 1, x0, x3, x4 => if x4 < (x0.length : Int) then (if 0 ≤ x4 then ((laws_toStringS.f k (rd_L2 x0 x4)).bind fun t123 => (if x4 < (x3.length : Int) then (laws_toStringSS.l0 k x0 (x3.set (x4 : Int).toNat t123) (wrap64 (x4 + 1))) else (none))) else (none)) else (some x3)
def laws_toStringSS.f (k : Nat) (l0 : List (List ByteArray)) : Option ((List (List ByteArray))) := if 0 ≤ (l0.length : Int) then (if ((l0.length : Int) : Int).toNat ≤ 11728124029610 then (laws_toStringSS.l0 k l0 (List.replicate ((l0.length : Int) : Int).toNat []) 0) else (none)) else (none)
theorem laws_toStringSS.mono_l : ∀ k, (∀ y0 y1 y2, LeO (laws_toStringSS.l0 k y0 y1 y2) (laws_toStringSS.l0 (k + 1) y0 y1 y2))
 | 0 => fun _ _ _ r h => by simp [laws_toStringSS.l0] at h
 | k + 1 => by
  have ih0 := laws_toStringSS.mono_l k
  ·intro y0 y1 y2
   unfold laws_toStringSS.l0
   repeat' (first | (with_reducible first | exact ih0 _ _ _ | exact laws_toStringS.mono _ _ | exact LeO.refl _ | exact LeO.none _ | refine LeO.ite ?_ ?_ | refine LeO.bind ?_ (fun _ => ?_)) | exact ih0 _ _ _ | exact laws_toStringS.mono _ _ | exact LeO.none _ | refine LeO.ite ?_ ?_ | refine LeO.bind ?_ (fun _ => ?_))
theorem laws_toStringSS.mono : ∀ a0 k, LeO (laws_toStringSS.f k a0) (laws_toStringSS.f (k + 1) a0) := by
 intro a0 k
 have ih0 := laws_toStringSS.mono_l k
 unfold laws_toStringSS.f
 repeat' (first | (with_reducible first | exact ih0 _ _ _ | exact laws_toStringS.mono _ _ | exact LeO.refl _ | exact LeO.none _ | refine LeO.ite ?_ ?_ | refine LeO.bind ?_ (fun _ => ?_)) | exact ih0 _ _ _ | exact laws_toStringS.mono _ _ | exact LeO.none _ | refine LeO.ite ?_ ?_ | refine LeO.bind ?_ (fun _ => ?_))
set_option maxHeartbeats 8000000 in
set_option maxRecDepth 100000 in
theorem laws_toStringSS.calls (k : Nat) (A0 : Option Addr) (c0 : Nat) (l0 : List (List ByteArray)) (r : List (List ByteArray)) (w : World) (hr0 : Kd.C (Kd.slice 9 Kd.string) w A0 l0.length l0) (hc0 : l0.length ≤ c0) (h : laws_toStringSS.f k l0 = some r) :
  Calls Tryz.prog 54 #[.slice A0 l0.length c0] w fun e w' => ∃ v0_ : Value, e = .returned (v0_) ∧ Kd.S (Kd.slice 9 Kd.string) 62 w' w.heap.size (fun _ => True) v0_ r ∧ Below w.heap.size w w' := by
 have HR0 := Aside0.mk hr0; have HC0 := Aside0.mk hc0; clear hr0 hc0
 have HB := Aside0.mk (Below.refl w.heap.size w)
 have H : (if 0 ≤ (l0.length : Int) then (if ((l0.length : Int) : Int).toNat ≤ 11728124029610 then (laws_toStringSS.l0 k l0 (List.replicate ((l0.length : Int) : Int).toNat []) 0) else (none)) else (none)) = some r := h
 clear h; replace H := ifS H; obtain ⟨c2, H⟩ := H; have c2b0 := eq_true c2
 have c2b1 : decide (0 ≤ (l0.length : Int)) = true := decide_eq_true c2
 clear c2; replace H := ifS H; obtain ⟨c3, H⟩ := H; have c3b0 := eq_true c3
 have c3b1 : decide (((l0.length : Int) : Int).toNat ≤ 11728124029610) = true := decide_eq_true c3
 clear c3
 obtain ⟨y119, hy_⟩ : ∃ y_ : List (List ByteArray), y_ = (List.replicate ((l0.length : Int) : Int).toNat []) := ⟨_, rfl⟩
 replace H : (laws_toStringSS.l0 k l0 y119 0) = some r := yH
 have Ny119 := ak hy_; clear hy_
 have H' := Aside0.mk H
 clear H
 go_enter Tryz.func54, Tryz.ntmps54
 go_wp2_with (first | ((with_reducible refine gate_dst (N := 7) rfl ?_); refine Kd.S_make (Kd.slice 9 Kd.string) _ 62 rfl (N := 7) rfl 23 _ _ rfl (l0.length : Int) rfl rfl Tryz.underlying23 (.slice none 0 0) 24 info62 rfl (by decide) (by omega) [] (ok := fun _ => True) (okp := fun _ => True) ⟨_, rfl, Kd.R_nil _ _ _ _ _⟩ (fun _ hk => hk) trivial (da) (Nat.le_trans (Nat.mul_le_mul_right _ (da : (l0.length : Int).toNat ≤ 11728124029610)) (by omega)) (Below.refl _ _) (Nat.le_refl _) ?_; intro v120 w4 ho5 hb hg_ hnew_; clear hg_ hnew_; (first | rw [← Ny119.out] at ho5 | (simp only [Int.reduceToNat] at ho5; rw [← Ny119.out] at ho5)); have HO121 := ak (Kd.S_lower ho5 (below_size (belowd HB))); replace HB := ak (below_step (belowd HB) hb); clear hb ho5))
 go_loopg [4] k (fun kq v4 w' => ∃ (x3_1 : List (List ByteArray)) (x4_1 : Int), v4 = .int .i64 x4_1 ∧ Aside0 (laws_toStringSS.l0 kq l0 x3_1 x4_1 = some r) ∧ Aside0 (kq ≤ k) ∧ Aside0 (Kd.S (Kd.slice 9 Kd.string) 62 w' w.heap.size (fun _ => True) v120 x3_1) ∧ Aside0 (Below w.heap.size w w'))
 case atStart => exact ⟨(y119), (0), er, H', ⟨Nat.le_refl _⟩, ⟨sd HO121⟩, ⟨belowd HB⟩⟩
 case round =>
  clear H'
  (try clear c2b0); (try clear c2b1); (try clear c3b0); (try clear c3b1)
  obtain ⟨x3_1, x4_1, rfl, HA, HK1, HO_3, HB⟩ := hrel
  cases gk with
  | zero => exact absurd HA.out (by simp [laws_toStringSS.l0])
  | succ k1 =>
   have H := HA.out; clear HA
   simp only [laws_toStringSS.l0] at H
   by_cases c6 : x4_1 < (l0.length : Int)
   ·rw [if_pos c6] at H
    have c6b0 : decide (x4_1 < (l0.length : Int)) = true := decide_eq_true c6
    clear c6; replace H := ifS H; obtain ⟨c7, H⟩ := H; have c7b0 := decide_eq_true c7; clear c7; replace H := bS H; obtain ⟨t123, A8, H⟩ := H
    replace H : (if x4_1 < (x3_1.length : Int) then (laws_toStringSS.l0 k1 l0 (x3_1.set (x4_1 : Int).toNat t123) (wrap64 (x4_1 + 1))) else (none)) = some r := H
    replace H := ifS H; obtain ⟨c9, H⟩ := H; have c9b0 := decide_eq_true c9; clear c9
    obtain ⟨y126, hy_⟩ : ∃ y_ : List (List ByteArray), y_ = (x3_1.set (x4_1 : Int).toNat t123) := ⟨_, rfl⟩
    replace H : (laws_toStringSS.l0 k1 l0 y126 (wrap64 (x4_1 + 1))) = some r := yH
    have Ny126 := ak hy_; clear hy_
    have H' := Aside0.mk H
    clear H
    have p122 : 0 ≤ (x4_1 : Int) := da
    have q122 : x4_1 < (l0.length : Int) := da
    obtain ⟨ad122, A122_0, c122_0, e122, hx122_0, hl122_0, hi122_0⟩ := at_L2 HR0.out x4_1 p122 q122
    cases e122
    replace hx122_0 := (HB.out.cell (World.block_lt_of_cell? w _ hx122_0)).trans hx122_0
    have HR122_0 := Aside0.mk hi122_0; have HC122_0 := Aside0.mk hl122_0; clear hi122_0 hl122_0; replace p122 := eq_true p122; replace q122 := eq_true q122
    go_wp2_with (first | ((with_reducible refine gate_callee (f := 90) rfl ?_); refine goesLa (some 20) rfl Tryz.func90 #[.slice A122_0 (rd_L2 l0 x4_1).length c122_0] rfl ?_; (with_reducible refine (laws_toStringS.calls k1 _ _ (rd_L2 l0 x4_1) t123 _ ?side1 ?side2 A8.out).mono ?_); (case side1 => exact cd (Kd.C_below HR122_0.out HB.out)); (case side2 => exact HC122_0.out); rintro e w11 ⟨v124, rfl, ho0, hb⟩; refine ⟨_, rfl, ?_⟩; replace HO_3 := ak (Kd.S_elder' (sd HO_3) (Kd.R_base ho0) hb); have HO125 := ak (Kd.R_lower ho0 (below_size (belowd HB))); replace HB := ak (below_step (belowd HB) hb); (try clear hb); (try clear ho0); have p10 : 0 ≤ (x4_1 : Int) := da; have q10 : (x4_1 : Int) < ((x3_1.length : Int) : Int) := da; obtain ⟨go10, co10, eo10, gb10, gl10, cl10, HG10⟩ := Kd.S_form HO_3.out (by omega); (first | cases eo10 | (injection eo10 with ea_ en_ ec_; (first | subst ea_ | (injection ea_ with ea_; subst ea_)); subst ec_; clear en_)); have GB10 := Aside0.mk gb10; have GG10 := Aside0.mk HG10; clear gb10 gl10 HG10; obtain ⟨_, ce10, hcl10, hM10, hcc10, hfr10, _, _⟩ := Kd.S_elem HO_3.out [] (x4_1 : Int) p10 q10; obtain ⟨ve10_0, rfl, ge10_0⟩ := (id hM10); have hx10_0 := hcc10 0 _ rfl; have hf10_0 := hfr10 0; (try simp only [show ((Kd.slice 9 Kd.string)).sz = 1 from rfl, Nat.mul_one, Nat.add_zero] at hx10_0); (try simp only [show ((Kd.slice 9 Kd.string)).sz = 1 from rfl, Nat.mul_one, Nat.add_zero] at hf10_0); clear hcl10 hcc10 hfr10 hM10; replace p10 := eq_true p10; replace q10 := eq_true q10; have n_ := Aside0.mk (Kd.S_mono (ok' := (fun k_ => some k_ ≠ (v124 : Value).ownBlock)) HO_3.out (fun k_ hk => hk.2)); clear HO_3; have HO_3 := n_; clear n_; have HX12 := Aside0.mk (show Kd.S (Kd.slice 9 Kd.string) 62 w11 w.heap.size (fun k_ => ((fun _ => True)) k_ ∧ ¬ ((fun k_ => some k_ = (v124 : Value).ownBlock)) k_) (.slice (some ⟨go10, 0, none⟩) x3_1.length co10) x3_1 from (by (with_reducible repeat (first | apply Kd.S_alloc | apply Kd.S_drewN | apply Kd.S_drew)); exact Kd.S_mono HO_3.out (fun k_ hk => ⟨trivial, fun e_ => hk e_⟩))); obtain ⟨oki12, ce12, hcl12, hM12, hcc12, hfr12, hoki12, hH12⟩ := Kd.S_elem HX12.out [] (x4_1 : Int) (da) (by have h_ : (x4_1 : Int) < ((x3_1.length : Int) : Int) := da; first | exact h_ | (have e_ := (Kd.S_reads' HO_3.out).1; omega) | simpa using h_); obtain ⟨ve12_0, rfl, ge12_0⟩ := (id hM12); have HP12 := Kd.S_seg hH12 (da) (by have h_ : (x4_1 : Int) < ((x3_1.length : Int) : Int) := da; first | exact h_ | (have e_ := (Kd.S_reads' HO_3.out).1; omega) | simpa using h_) (seg := [v124]) (j := 0) (show 1 ≤ 1 from by decide) (x' := t123) (Kd.M_row (Kd.R_mono (Kd.R_tight rfl (Kd.R_mono (ok' := fun k_ => ((fun _ => True)) k_ ∧ k_ ≠ go10) (Kd.R_apart' (HO125.out) (Kd.S_typed HO_3.out) (by decide)) (fun k_ hk => ⟨trivial, fun e_ => (hk.2) (by rw [e_]; rfl)⟩))) (fun _ h_ => Or.inr (h_)))) (fun _ hk => hk) (fun k_ hk_ => ((Kd.R_mono (ok' := fun k_ => ((fun _ => True)) k_ ∧ k_ ≠ go10) (Kd.R_apart' (HO125.out) (Kd.S_typed HO_3.out) (by decide)) (fun k_ hk => ⟨trivial, fun e_ => (hk.2) (by rw [e_]; rfl)⟩))).1 k_ hk_.symm); have hx12_0 := hcc12 0 _ rfl; (try simp only [show ((Kd.slice 9 Kd.string)).sz = 1 from rfl, Nat.mul_one, Nat.add_zero] at hx12_0); have hf12_0 := hfr12 0; (try simp only [show ((Kd.slice 9 Kd.string)).sz = 1 from rfl, Nat.mul_one, Nat.add_zero] at hf12_0); clear hcl12 hcc12 hfr12 hM12 hoki12 hH12; (try simp only [show ((Kd.slice 9 Kd.string)).sz = 1 from rfl, Nat.mul_one, Nat.add_zero] at HP12)) | ((with_reducible refine gate_store (t := 62) (p := 21) rfl ?_); refine store_event (t := 62) (p := 21) (v := ?vo_w13) (w1 := (w11.setCell ⟨go10, (x4_1 : Int).toNat, none⟩ (v124))) ?hg ?ho ?hn ?hr ?_; (case ho => rfl); (case hg => rfl); (case hn => rfl); (case hr => first | (go_simp; done) | (go_simp; rfl) | (obtain ⟨_, _, e_, _, _⟩ := Kd.R_reads (HO125.out); subst e_; first | (go_simp; done) | (go_simp; rfl))); intro w13 hw; have hg : w11.grownBy w13 (some go10) := (by rw [hw]; exact HP12.2); have hp_ : Kd.S (Kd.slice 9 Kd.string) 62 w13 w.heap.size (fun _ => True) (.slice (some ⟨go10, 0, none⟩) x3_1.length co10) y126 := (by rw [hw, Ny126.out]; exact HP12.1); clear HP12; replace HO_3 := ak (hp_); replace HB := ak ((by rw [hw]; exact below_set (HB.out) GB10.out : Below w.heap.size w w13)); clear HO125; clear hg hw hp_))
    go_roundg k1
    case measure => have := HK1.out; omega
    case rel => exact ⟨(y126), (wrap64 (x4_1 + 1)), er, H', ⟨by have := HK1.out; omega⟩, ⟨sd HO_3⟩, ⟨belowd HB⟩⟩
   ·rw [if_neg c6] at H
    have c6b0 : decide (x4_1 < (l0.length : Int)) = false := decide_eq_false c6
    clear c6
    obtain rfl := Option.some.inj H
    go_wp2
    go_ret
    exact ⟨_, er2, by (with_reducible repeat (first | apply Kd.S_alloc | apply Kd.S_drewN | apply Kd.S_drew)); exact HO_3.out, belowd HB⟩

/-! ### nets: what is read of one, what one is made of -/
structure Nt where
  ks : List Int
  ps : List (List ByteArray)
  ss : List (List ByteArray)
  ib : List (List ByteArray)
  sd : Int
abbrev KI : Kd Int := Kd.int .i64
abbrev KT : Kd (List ByteArray) := Kd.slice 9 Kd.string
/-- A net that is read. -/
def NC (W : World) (v0 v1 v2 v3 : Value) (n : Nt) : Prop := ∃ A0 c0 A1 c1 A2 c2 A3 c3, (v0 = .slice A0 n.ks.length c0 ∧ v1 = .slice A1 n.ps.length c1 ∧ v2 = .slice A2 n.ss.length c2 ∧ v3 = .slice A3 n.ib.length c3) ∧ (KI.C W A0 n.ks.length n.ks ∧ n.ks.length ≤ c0) ∧ (KT.C W A1 n.ps.length n.ps ∧ n.ps.length ≤ c1) ∧ (KT.C W A2 n.ss.length n.ss ∧ n.ss.length ≤ c2) ∧ (KT.C W A3 n.ib.length n.ib ∧ n.ib.length ≤ c3)
/-- A net of the call's own: four things. -/
def netA (v0 v1 v2 v3 : Value) (n : Nt) : List SA := [rA KI 3 v0 n.ks, sA KT 62 v1 n.ps, sA KT 62 v2 n.ss, sA KT 62 v3 n.ib]
theorem netA_at (v0 v1 v2 v3 : Value) (n : Nt) (L0 L : List SA) (j : Nat) (hj : j < 4) : (L0 ++ (netA v0 v1 v2 v3 n ++ L)).getD (L0.length + j) nA = (netA v0 v1 v2 v3 n).getD j nA := by
  rw [getD_app_r (by omega), Nat.add_sub_cancel_left, getD_app_l (by simpa [netA] using hj)]
theorem NC.of {W : World} {b : Nat} {c : Nat → Nat} {i : Nat} {v0 v1 v2 v3 : Value} {n : Nt} (h : SepAt c b W i (netA v0 v1 v2 v3 n)) : NC W v0 v1 v2 v3 n := by
  obtain ⟨h0, h1, h2, h3, -⟩ := h
  obtain ⟨A0, c0, e0, l0, r0⟩ := Kd.R_reads h0
  obtain ⟨A1, c1, e1, l1, r1⟩ := Kd.S_reads h1
  obtain ⟨A2, c2, e2, l2, r2⟩ := Kd.S_reads h2
  obtain ⟨A3, c3, e3, l3, r3⟩ := Kd.S_reads h3
  exact ⟨A0, c0, A1, c1, A2, c2, A3, c3, ⟨e0, e1, e2, e3⟩, ⟨r0, l0⟩, ⟨r1, l1⟩, ⟨r2, l2⟩, ⟨r3, l3⟩⟩
theorem SepAt.mid {c : Nat → Nat} {b : Nat} {W : World} : ∀ (L0 : List SA) {L : List SA} {i : Nat}, SepAt c b W i (L0 ++ L) → SepAt c b W (i + L0.length) L
  | [], _, _, h => h
  | _ :: L0, _, i, h => by
    have := SepAt.mid L0 (i := i + 1) h.2
    rw [List.length_cons, show i + (L0.length + 1) = i + 1 + L0.length from by omega]
    exact this
theorem SepAt.left {c : Nat → Nat} {b : Nat} {W : World} : ∀ (L0 : List SA) {L : List SA} {i : Nat}, SepAt c b W i (L0 ++ L) → SepAt c b W i L0
  | [], _, _, _ => trivial
  | _ :: L0, _, _, h => ⟨h.1, SepAt.left L0 h.2⟩
/-- The net behind L0. -/
theorem sepNc {w0 W : World} {L : List SA} {v0 v1 v2 v3 : Value} {n : Nt} (h : Sep w0 W L) (m : Nat) (e : (L.drop m).take 4 = netA v0 v1 v2 v3 n := by rfl) : NC W v0 v1 v2 v3 n := by
  obtain ⟨_, c, h⟩ := h
  have h' : SepAt c w0.heap.size W 0 (L.take m ++ ((L.drop m).take 4 ++ (L.drop m).drop 4)) := by rw [List.take_append_drop, List.take_append_drop]; exact h
  have := SepAt.left _ (SepAt.mid _ h')
  rw [e] at this
  exact NC.of this
theorem NC.slices {W : World} {v0 v1 v2 v3 : Value} {n : Nt} (h : NC W v0 v1 v2 v3 n) : (∃ A c, v0 = .slice A n.ks.length c) ∧ (∃ A c, v1 = .slice A n.ps.length c) ∧ (∃ A c, v2 = .slice A n.ss.length c) ∧ (∃ A c, v3 = .slice A n.ib.length c) := by
  obtain ⟨A0, c0, A1, c1, A2, c2, A3, c3, ⟨e0, e1, e2, e3⟩, _⟩ := h
  exact ⟨⟨_, _, e0⟩, ⟨_, _, e1⟩, ⟨_, _, e2⟩, ⟨_, _, e3⟩⟩
theorem NC.below {W W1 : World} {v0 v1 v2 v3 : Value} {n : Nt} (h : NC W v0 v1 v2 v3 n) (hb : Below W.heap.size W W1) : NC W1 v0 v1 v2 v3 n := by
  obtain ⟨A0, c0, A1, c1, A2, c2, A3, c3, e, ⟨r0, l0⟩, ⟨r1, l1⟩, ⟨r2, l2⟩, ⟨r3, l3⟩⟩ := h
  exact ⟨A0, c0, A1, c1, A2, c2, A3, c3, e, ⟨Kd.C_below r0 hb, l0⟩, ⟨Kd.C_below r1 hb, l1⟩, ⟨Kd.C_below r2 hb, l2⟩, ⟨Kd.C_below r3 hb, l3⟩⟩
/-- A net that has just been made. -/
def MadeNet (w : World) (n : Nt) (b : Bool) (e : Ending) (w' : World) : Prop := ∃ v0 v1 v2 v3 : Value, e = .returned (.tuple #[.agg #[v0, v1, v2, v3, .int .i64 n.sd], .bool b]) ∧ (∃ c, SepAt c w.heap.size w' 0 (netA v0 v1 v2 v3 n)) ∧ Below w.heap.size w w'
def MadeNet1 (w : World) (n : Nt) (e : Ending) (w' : World) : Prop := ∃ v0 v1 v2 v3 : Value, e = .returned (.agg #[v0, v1, v2, v3, .int .i64 n.sd]) ∧ (∃ c, SepAt c w.heap.size w' 0 (netA v0 v1 v2 v3 n)) ∧ Below w.heap.size w w'
theorem made_of {w w' : World} {v0 v1 v2 v3 : Value} {r1 : List Int} {r2 r3 r4 : List (List ByteArray)} {g1 g2 g3 : Nat} {sd : Int} (h0 : KI.R 3 w' w.heap.size (fun _ => True) v0 r1) (h1 : Kd.S KT 62 w' w.heap.size (fun k_ => k_ = g1) v1 r2) (h2 : Kd.S KT 62 w' w.heap.size (fun k_ => k_ = g2) v2 r3) (h3 : Kd.S KT 62 w' w.heap.size (fun k_ => k_ = g3) v3 r4) (hn : g1 ≠ g2 ∧ g1 ≠ g3 ∧ g2 ≠ g3) : ∃ c, SepAt c w.heap.size w' 0 (netA v0 v1 v2 v3 ⟨r1, r2, r3, r4, sd⟩) := by
  classical
  obtain ⟨n1, n2, n3⟩ := hn
  refine ⟨fun k => if (∃ cells, w'.heap[k]? = some (.cells cells 3 (0, 0))) then 0 else if k = g1 then 1 else if k = g2 then 2 else if k = g3 then 3 else 4, ?_, ?_, ?_, ?_, trivial⟩
  · refine Kd.R_mono (Kd.R_bound h0) (fun k hk => if_pos ?_)
    obtain ⟨_, _, _, q, hq, hc⟩ := hk
    have : q = 3 := by simpa [Kd.int, Kd.scalar] using hq
    subst this
    exact hc
  all_goals
    first
    | refine Kd.S_mono (Kd.S_bound h1) (fun k hk => ?_)
    | refine Kd.S_mono (Kd.S_bound h2) (fun k hk => ?_)
    | refine Kd.S_mono (Kd.S_bound h3) (fun k hk => ?_)
    obtain ⟨hk, _, _, q, hq, cells, hc⟩ := hk
    have hne : ¬ ∃ cells, w'.heap[k]? = some (.cells cells 3 (0, 0)) := by
      rintro ⟨cells', hc'⟩
      rw [hc] at hc'
      injection hc' with hc'
      injection hc' with _ hc'
      subst hc'
      simp [Kd.slice, Kd.string, Kd.scalar] at hq
    simp only [if_neg hne]
    subst hk
  · rw [if_pos rfl]
  · rw [if_neg (Ne.symm n1), if_pos rfl]
  · rw [if_neg (Ne.symm n2), if_neg (Ne.symm n3), if_pos rfl]
theorem nw_next {j n : Nat} (h : j < n) (hn : n ≤ 1048576) : Value.int .i64 (wrap64 ((j : Int) + 1)) = Value.int .i64 ((j + 1 : Nat) : Int) := by
  rw [IntWalk.wrap64_in _ (by omega)]
  rfl
theorem nw_nonempty {b : ByteArray} (h : ¬ b = (⟨#[]⟩ : ByteArray)) : b.toList.isEmpty = false := by
  rw [List.isEmpty_eq_false_iff]
  intro e
  rw [ByteArray.toList_eq] at e
  exact h (congrArg ByteArray.mk (Array.toList_inj.1 e))
/-- The net that stands first has been made. -/
theorem nw_apart {w W : World} {L : List SA} {v0 v1 v2 v3 : Value} {n : Nt} (h : Sep w W (netA v0 v1 v2 v3 n ++ L)) : ∃ c, SepAt c w.heap.size W 0 (netA v0 v1 v2 v3 n) := by
  obtain ⟨_, c, h⟩ := h
  exact ⟨c, SepAt.left _ h⟩
/-- A net of nothing. -/
theorem nw_none {w W : World} {L : List SA} (h : Sep w W L) : ∃ c, SepAt c w.heap.size W 0 (netA (.slice none 0 0) (.slice none 0 0) (.slice none 0 0) (.slice none 0 0) ⟨[], [], [], [], 0⟩) :=
  nw_apart ((((h.nilS KT 62).nilS KT 62).nilS KT 62).nilrow KI 3)
/-! ### laws_toNet: function 10 -/
def laws_toNet.f (k : Nat) (l0_0 : List Int) (l0_1 : List (List ByteArray)) (l0_2 : List (List ByteArray)) (l0_3 : List (List ByteArray)) (a0_4 : Int) : Option (List Int × (List (List ByteArray)) × (List (List ByteArray)) × (List (List ByteArray)) × Int) := (laws_toIntS.f k l0_0).bind fun t199 => ((laws_toStringSS.f k l0_1).bind fun t202 => ((laws_toStringSS.f k l0_2).bind fun t205 => ((laws_toStringSS.f k l0_3).bind fun t208 => (some (t199, t202, t205, t208, a0_4)))))
set_option maxHeartbeats 16000000 in
set_option maxRecDepth 100000 in
theorem nw_to {k : Nat} {v0 v1 v2 v3 : Value} {n : Nt} {r1 : List Int} {r2 r3 r4 : List (List ByteArray)} {r5 : Int} {w : World} (hn : NC w v0 v1 v2 v3 n) (h : laws_toNet.f k n.ks n.ps n.ss n.ib n.sd = some (r1, r2, r3, r4, r5)) :
    Calls Tryz.prog 10 #[.agg #[v0, v1, v2, v3, .int .i64 n.sd]] w (MadeNet1 w ⟨r1, r2, r3, r4, r5⟩) := by
 obtain ⟨A0, c0, A1, c1, A2, c2, A3, c3, ⟨rfl, rfl, rfl, rfl⟩, ⟨x0, y0⟩, ⟨x1, y1⟩, ⟨x2, y2⟩, ⟨x3, y3⟩⟩ := hn
 have X0 := ak x0; have X1 := ak x1; have X2 := ak x2; have X3 := ak x3; have Y0 := ak y0; have Y1 := ak y1; have Y2 := ak y2; have Y3 := ak y3
 clear x0 x1 x2 x3 y0 y1 y2 y3
 obtain ⟨ks, ps, ss, ib, sd⟩ := n
 dsimp only at X0 X1 X2 X3 Y0 Y1 Y2 Y3 h ⊢
 have hu25 := Tryz.underlying25
 have hu27 := Tryz.underlying27
 have HS := Sep.nil w
 unfold laws_toNet.f at h
 replace h := bS h; obtain ⟨t0, T0, h⟩ := h
 replace h := bS h; obtain ⟨t1, T1, h⟩ := h
 replace h := bS h; obtain ⟨t2, T2, h⟩ := h
 replace h := bS h; obtain ⟨t3, T3, h⟩ := h
 obtain ⟨rfl, rfl, rfl, rfl, rfl⟩ : t0 = r1 ∧ t1 = r2 ∧ t2 = r3 ∧ t3 = r4 ∧ sd = r5 := by simpa using h
 clear h
 go_enter Tryz.func10, Tryz.ntmps10
 go_upto_region 3 with (first | ((with_reducible refine gate_dst (N := 1) rfl ?_); refine boxev 1 #[.slice A0 ks.length c0, .slice A1 ps.length c1, .slice A2 ss.length c2, .slice A3 ib.length c3, .int .i64 sd] 25 ?_; intro b1 hg_ W_ ho_ hb_; replace HS := HS.box hg_ ho_ hb_; clear hg_ ho_ hb_; obtain ⟨z10, z11, z12, z13, z14, f10, f11, f12, f13, f14⟩ := box5 (HS.blk 0)) | ((with_reducible refine gate_dst (N := 2) rfl ?_); refine boxev 2 #[.slice none 0 0, .slice none 0 0, .slice none 0 0, .slice none 0 0, .int .i64 0] 27 ?_; intro b2 hg_ W_ ho_ hb_; replace HS := HS.box hg_ ho_ hb_; clear hg_ ho_ hb_; clear z10 z11 z12 z13 z14 f10 f11 f12 f13 f14; obtain ⟨z20, z21, z22, z23, z24, f20, f21, f22, f23, f24⟩ := box5 (HS.blk 0)) | ((with_reducible refine gate_dst (N := 3) rfl ?_); refine boxev 3 #[.slice none 0 0, .slice none 0 0, .slice none 0 0, .slice none 0 0, .int .i64 0] 27 ?_; intro b3 hg_ W_ ho_ hb_; replace HS := HS.box hg_ ho_ hb_; clear hg_ ho_ hb_; clear z20 z21 z22 z23 z24 f20 f21 f22 f23 f24; obtain ⟨z30, z31, z32, z33, z34, f30, f31, f32, f33, f34⟩ := box5 (HS.blk 0); clear z30 z31 z32 z33 z34 f30 f31 f32 f33 f34; obtain ⟨z30, z31, z32, z33, z34, f30, f31, f32, f33, f34⟩ := box5 (HS.blk 0); obtain ⟨z20, z21, z22, z23, z24, f20, f21, f22, f23, f24⟩ := box5 (HS.blk 1); obtain ⟨z10, z11, z12, z13, z14, f10, f11, f12, f13, f14⟩ := box5 (HS.blk 2)) | ((with_reducible refine gate_callee (f := 17) rfl ?_); refine goesLa (some 6) rfl Tryz.func17 #[.slice A0 ks.length c0] rfl ?_; have HC_ := laws_toIntS.calls k _ _ ks t0 _ (Kd.C_below X0.out HS.base) Y0.out T0.out; refine HC_.mono ?_; clear HC_; rintro e W_ ⟨u0, rfl, ho_, hb_⟩; refine ⟨_, rfl, ?_⟩; replace HS := HS.new (A := rA KI 3 u0 t0) hb_ ho_; obtain ⟨B0, d0, rfl⟩ := HS.slR 0; clear ho_ hb_; clear z30 z31 z32 z33 z34 f30 f31 f32 f33 f34 z20 z21 z22 z23 z24 f20 f21 f22 f23 f24 z10 z11 z12 z13 z14 f10 f11 f12 f13 f14; obtain ⟨z30, z31, z32, z33, z34, f30, f31, f32, f33, f34⟩ := box5 (HS.blk 1); obtain ⟨z20, z21, z22, z23, z24, f20, f21, f22, f23, f24⟩ := box5 (HS.blk 2); obtain ⟨z10, z11, z12, z13, z14, f10, f11, f12, f13, f14⟩ := box5 (HS.blk 3)))
 clear z30 z31 z32 z33 z34 f30 f31 f32 f33 f34 z20 z21 z22 z23 z24 f20 f21 f22 f23 f24 z10 z11 z12 z13 z14 f10 f11 f12 f13 f14
 obtain ⟨W5_, e5_, H5_⟩ := (HS.putI 1 0 (.slice B0 t0.length d0) #[.slice B0 t0.length d0, .slice none 0 0, .slice none 0 0, .slice none 0 0, .int .i64 0]).gen
 rw [e5_]
 clear HS e5_
 have HS := H5_
 clear H5_
 obtain ⟨z30, z31, z32, z33, z34, f30, f31, f32, f33, f34⟩ := box5 (HS.blk 1)
 obtain ⟨z20, z21, z22, z23, z24, f20, f21, f22, f23, f24⟩ := box5 (HS.blk 2)
 obtain ⟨z10, z11, z12, z13, z14, f10, f11, f12, f13, f14⟩ := box5 (HS.blk 3)
 go_upto_region 4 with (first | ((with_reducible refine gate_callee (f := 54) rfl ?_); refine goesLa (some 10) rfl Tryz.func54 #[.slice A1 ps.length c1] rfl ?_; have HC_ := laws_toStringSS.calls k _ _ ps t1 _ (Kd.C_below X1.out HS.base) Y1.out T1.out; refine HC_.mono ?_; clear HC_; rintro e W_ ⟨u1, rfl, ho_, hb_⟩; refine ⟨_, rfl, ?_⟩; replace HS := HS.new (A := sA KT 62 u1 t1) hb_ ho_; obtain ⟨B1, d1, rfl⟩ := HS.slS 0; clear ho_ hb_; clear z30 z31 z32 z33 z34 f30 f31 f32 f33 f34 z20 z21 z22 z23 z24 f20 f21 f22 f23 f24 z10 z11 z12 z13 z14 f10 f11 f12 f13 f14; obtain ⟨z30, z31, z32, z33, z34, f30, f31, f32, f33, f34⟩ := box5 (HS.blk 2); obtain ⟨z20, z21, z22, z23, z24, f20, f21, f22, f23, f24⟩ := box5 (HS.blk 3); obtain ⟨z10, z11, z12, z13, z14, f10, f11, f12, f13, f14⟩ := box5 (HS.blk 4)))
 clear z30 z31 z32 z33 z34 f30 f31 f32 f33 f34 z20 z21 z22 z23 z24 f20 f21 f22 f23 f24 z10 z11 z12 z13 z14 f10 f11 f12 f13 f14
 obtain ⟨W5_, e5_, H5_⟩ := (HS.putI 2 1 (.slice B1 t1.length d1) #[.slice B0 t0.length d0, .slice B1 t1.length d1, .slice none 0 0, .slice none 0 0, .int .i64 0]).gen
 rw [e5_]
 clear HS e5_
 have HS := H5_
 clear H5_
 obtain ⟨z30, z31, z32, z33, z34, f30, f31, f32, f33, f34⟩ := box5 (HS.blk 2)
 obtain ⟨z20, z21, z22, z23, z24, f20, f21, f22, f23, f24⟩ := box5 (HS.blk 3)
 obtain ⟨z10, z11, z12, z13, z14, f10, f11, f12, f13, f14⟩ := box5 (HS.blk 4)
 go_upto_region 5 with (first | ((with_reducible refine gate_callee (f := 54) rfl ?_); refine goesLa (some 14) rfl Tryz.func54 #[.slice A2 ss.length c2] rfl ?_; have HC_ := laws_toStringSS.calls k _ _ ss t2 _ (Kd.C_below X2.out HS.base) Y2.out T2.out; refine HC_.mono ?_; clear HC_; rintro e W_ ⟨u2, rfl, ho_, hb_⟩; refine ⟨_, rfl, ?_⟩; replace HS := HS.new (A := sA KT 62 u2 t2) hb_ ho_; obtain ⟨B2, d2, rfl⟩ := HS.slS 0; clear ho_ hb_; clear z30 z31 z32 z33 z34 f30 f31 f32 f33 f34 z20 z21 z22 z23 z24 f20 f21 f22 f23 f24 z10 z11 z12 z13 z14 f10 f11 f12 f13 f14; obtain ⟨z30, z31, z32, z33, z34, f30, f31, f32, f33, f34⟩ := box5 (HS.blk 3); obtain ⟨z20, z21, z22, z23, z24, f20, f21, f22, f23, f24⟩ := box5 (HS.blk 4); obtain ⟨z10, z11, z12, z13, z14, f10, f11, f12, f13, f14⟩ := box5 (HS.blk 5)))
 clear z30 z31 z32 z33 z34 f30 f31 f32 f33 f34 z20 z21 z22 z23 z24 f20 f21 f22 f23 f24 z10 z11 z12 z13 z14 f10 f11 f12 f13 f14
 obtain ⟨W5_, e5_, H5_⟩ := (HS.putI 3 2 (.slice B2 t2.length d2) #[.slice B0 t0.length d0, .slice B1 t1.length d1, .slice B2 t2.length d2, .slice none 0 0, .int .i64 0]).gen
 rw [e5_]
 clear HS e5_
 have HS := H5_
 clear H5_
 obtain ⟨z30, z31, z32, z33, z34, f30, f31, f32, f33, f34⟩ := box5 (HS.blk 3)
 obtain ⟨z20, z21, z22, z23, z24, f20, f21, f22, f23, f24⟩ := box5 (HS.blk 4)
 obtain ⟨z10, z11, z12, z13, z14, f10, f11, f12, f13, f14⟩ := box5 (HS.blk 5)
 go_upto_region 6 with (first | ((with_reducible refine gate_callee (f := 54) rfl ?_); refine goesLa (some 18) rfl Tryz.func54 #[.slice A3 ib.length c3] rfl ?_; have HC_ := laws_toStringSS.calls k _ _ ib t3 _ (Kd.C_below X3.out HS.base) Y3.out T3.out; refine HC_.mono ?_; clear HC_; rintro e W_ ⟨u3, rfl, ho_, hb_⟩; refine ⟨_, rfl, ?_⟩; replace HS := HS.new (A := sA KT 62 u3 t3) hb_ ho_; obtain ⟨B3, d3, rfl⟩ := HS.slS 0; clear ho_ hb_; clear z30 z31 z32 z33 z34 f30 f31 f32 f33 f34 z20 z21 z22 z23 z24 f20 f21 f22 f23 f24 z10 z11 z12 z13 z14 f10 f11 f12 f13 f14; obtain ⟨z30, z31, z32, z33, z34, f30, f31, f32, f33, f34⟩ := box5 (HS.blk 4); obtain ⟨z20, z21, z22, z23, z24, f20, f21, f22, f23, f24⟩ := box5 (HS.blk 5); obtain ⟨z10, z11, z12, z13, z14, f10, f11, f12, f13, f14⟩ := box5 (HS.blk 6)))
 clear z30 z31 z32 z33 z34 f30 f31 f32 f33 f34 z20 z21 z22 z23 z24 f20 f21 f22 f23 f24 z10 z11 z12 z13 z14 f10 f11 f12 f13 f14
 obtain ⟨W5_, e5_, H5_⟩ := (HS.putI 4 3 (.slice B3 t3.length d3) #[.slice B0 t0.length d0, .slice B1 t1.length d1, .slice B2 t2.length d2, .slice B3 t3.length d3, .int .i64 0]).gen
 rw [e5_]
 clear HS e5_
 have HS := H5_
 clear H5_
 obtain ⟨z30, z31, z32, z33, z34, f30, f31, f32, f33, f34⟩ := box5 (HS.blk 4)
 obtain ⟨z20, z21, z22, z23, z24, f20, f21, f22, f23, f24⟩ := box5 (HS.blk 5)
 obtain ⟨z10, z11, z12, z13, z14, f10, f11, f12, f13, f14⟩ := box5 (HS.blk 6)
 go_upto_region 7 with (first | (fail))
 clear z30 z31 z32 z33 z34 f30 f31 f32 f33 f34 z20 z21 z22 z23 z24 f20 f21 f22 f23 f24 z10 z11 z12 z13 z14 f10 f11 f12 f13 f14
 obtain ⟨W5_, e5_, H5_⟩ := (HS.putI 4 4 (.int .i64 sd) #[.slice B0 t0.length d0, .slice B1 t1.length d1, .slice B2 t2.length d2, .slice B3 t3.length d3, .int .i64 sd]).gen
 rw [e5_]
 clear HS e5_
 have HS := H5_
 clear H5_
 obtain ⟨z30, z31, z32, z33, z34, f30, f31, f32, f33, f34⟩ := box5 (HS.blk 4)
 obtain ⟨z20, z21, z22, z23, z24, f20, f21, f22, f23, f24⟩ := box5 (HS.blk 5)
 go_wp2
 clear z30 z31 z32 z33 z34 f30 f31 f32 f33 f34 z20 z21 z22 z23 z24 f20 f21 f22 f23 f24
 have HF := HS.put5I 5 (.slice B0 t0.length d0) (.slice B1 t1.length d1) (.slice B2 t2.length d2) (.slice B3 t3.length d3) (.int .i64 sd)
 refine bodyPost_ret (results_cell_row rfl _ _ b2 27 #[.slice B0 t0.length d0, .slice B1 t1.length d1, .slice B2 t2.length d2, .slice B3 t3.length d3, .int .i64 sd] (0, 0) _ rfl (by exact (HF.blk 5).out) Tryz.underlying27 rfl (by kernel_rfl)) rfl ?_
 exact ⟨_, _, _, _, rfl, (HF.sel [3, 2, 1, 0]).cols, HF.base⟩

/-! ### laws_eqIntS: function 21 -/
def laws_eqIntS.l0 : Nat → List Int → List Int → Int → Option (Bool)
  | 0, _, _, _ => none
  | k + 1, x0, x1, x5 => if x5 < (x0.length : Int) then (if 0 ≤ x5 then (if x5 < (x1.length : Int) then (if (rd x0 x5) = (rd x1 x5) then (laws_eqIntS.l0 k x0 x1 (wrap64 (x5 + 1))) else (some false)) else (none)) else (none)) else (some true)
def laws_eqIntS.f (k : Nat) (l0 : List Int) (l1 : List Int) : Option (Bool) := if (l0.length : Int) = (l1.length : Int) then (laws_eqIntS.l0 k l0 l1 0) else (some false)
theorem laws_eqIntS.mono_l : ∀ k, (∀ y0 y1 y2, LeO (laws_eqIntS.l0 k y0 y1 y2) (laws_eqIntS.l0 (k + 1) y0 y1 y2))
 | 0 => fun _ _ _ r h => by simp [laws_eqIntS.l0] at h
 | k + 1 => by
  have ih0 := laws_eqIntS.mono_l k
  ·intro y0 y1 y2
   unfold laws_eqIntS.l0
   repeat' (first | (with_reducible first | exact ih0 _ _ _ | exact LeO.refl _ | exact LeO.none _ | refine LeO.ite ?_ ?_ | refine LeO.bind ?_ (fun _ => ?_)) | exact ih0 _ _ _ | exact LeO.none _ | refine LeO.ite ?_ ?_ | refine LeO.bind ?_ (fun _ => ?_))
theorem laws_eqIntS.mono : ∀ a0 a1 k, LeO (laws_eqIntS.f k a0 a1) (laws_eqIntS.f (k + 1) a0 a1) := by
 intro a0 a1 k
 have ih0 := laws_eqIntS.mono_l k
 unfold laws_eqIntS.f
 repeat' (first | (with_reducible first | exact ih0 _ _ _ | exact LeO.refl _ | exact LeO.none _ | refine LeO.ite ?_ ?_ | refine LeO.bind ?_ (fun _ => ?_)) | exact ih0 _ _ _ | exact LeO.none _ | refine LeO.ite ?_ ?_ | refine LeO.bind ?_ (fun _ => ?_))
set_option maxHeartbeats 8000000 in
set_option maxRecDepth 100000 in
theorem laws_eqIntS.calls (k : Nat) (A0 : Option Addr) (c0 : Nat) (l0 : List Int) (A1 : Option Addr) (c1 : Nat) (l1 : List Int) (r : Bool) (w : World) (hr0 : Kd.C (Kd.int .i64) w A0 l0.length l0) (hc0 : l0.length ≤ c0) (hr1 : Kd.C (Kd.int .i64) w A1 l1.length l1) (hc1 : l1.length ≤ c1) (h : laws_eqIntS.f k l0 l1 = some r) :
  Calls Tryz.prog 21 #[.slice A0 l0.length c0, .slice A1 l1.length c1] w fun e w' => e = .returned (.bool r) ∧ Drawn0 w w' := by
 have HR0 := Aside0.mk hr0; have HC0 := Aside0.mk hc0; clear hr0 hc0; have HR1 := Aside0.mk hr1; have HC1 := Aside0.mk hc1; clear hr1 hc1
 have H : (if (l0.length : Int) = (l1.length : Int) then (laws_eqIntS.l0 k l0 l1 0) else (some false)) = some r := h
 clear h
 by_cases c3 : (l0.length : Int) = (l1.length : Int)
 ·rw [if_pos c3] at H
  have c3b0 : ((l0.length : Int) == (l1.length : Int)) = true := beq_iff_eq.mpr c3
  have c3b1 : ((l0.length : Int) != (l1.length : Int)) = false := bne_eq_false_iff_eq.mpr c3
  have c3b2 : (l0.length == l1.length) = true := by first | simpa using c3 | (simp at c3 ⊢; omega)
  clear c3
  have H' := Aside0.mk H
  clear H
  go_enter Tryz.func21, Tryz.ntmps21
  go_wp2
  repeat (go_quiet (fail); try go_wp2)
  go_loopg [5] k (fun kq v5 w' => ∃ (x5_1 : Int), v5 = .int .i64 x5_1 ∧ Aside0 (laws_eqIntS.l0 kq l0 l1 x5_1 = some r) ∧ Aside0 (kq ≤ k) ∧ Drawn0 w w')
  case atStart => exact ⟨(0), er, H', ⟨Nat.le_refl _⟩, drw⟩
  case round =>
   clear H'
   (try clear c1); (try clear c3b0); (try clear c3b1); (try clear c3b2)
   obtain ⟨x5_1, rfl, HA, HK1, ⟨m1, rfl⟩⟩ := hrel
   cases gk with
   | zero => exact absurd HA.out (by simp [laws_eqIntS.l0])
   | succ k1 =>
    have H := HA.out; clear HA
    simp only [laws_eqIntS.l0] at H
    by_cases c4 : x5_1 < (l0.length : Int)
    ·rw [if_pos c4] at H
     have c4b0 : decide (x5_1 < (l0.length : Int)) = true := decide_eq_true c4
     clear c4; replace H := ifS H; obtain ⟨c5, H⟩ := H; have c5b0 := decide_eq_true c5; clear c5; replace H := ifS H; obtain ⟨c6, H⟩ := H; have c6b0 := decide_eq_true c6; clear c6
     by_cases c7 : (rd l0 x5_1) = (rd l1 x5_1)
     ·rw [if_pos c7] at H
      have c7b0 : ((rd l0 x5_1) == (rd l1 x5_1)) = true := beq_iff_eq.mpr c7
      have c7b1 : ((rd l0 x5_1) != (rd l1 x5_1)) = false := bne_eq_false_iff_eq.mpr c7
      clear c7
      have H' := Aside0.mk H
      clear H
      have p127 : 0 ≤ (x5_1 : Int) := da
      have q127 : x5_1 < (l0.length : Int) := da
      obtain ⟨ad127, e127, hx127_0⟩ := Kd.at_int HR0.out x5_1 p127 q127
      cases e127
      replace p127 := eq_true p127; replace q127 := eq_true q127
      have p128 : 0 ≤ (x5_1 : Int) := da
      have q128 : x5_1 < (l1.length : Int) := da
      obtain ⟨ad128, e128, hx128_0⟩ := Kd.at_int HR1.out x5_1 p128 q128
      cases e128
      replace p128 := eq_true p128; replace q128 := eq_true q128; go_wp2
      repeat (go_quiet (fail); try go_wp2)
      go_roundg k1
      case measure => have := HK1.out; omega
      case rel => exact ⟨(wrap64 (x5_1 + 1)), er, H', ⟨by have := HK1.out; omega⟩, drw⟩
     ·rw [if_neg c7] at H
      have c7b0 : ((rd l0 x5_1) == (rd l1 x5_1)) = false := beq_eq_false_iff_ne.mpr c7
      have c7b1 : ((rd l0 x5_1) != (rd l1 x5_1)) = true := bne_iff_ne.mpr c7
      obtain rfl := Option.some.inj H
      have p127 : 0 ≤ (x5_1 : Int) := da
      have q127 : x5_1 < (l0.length : Int) := da
      obtain ⟨ad127, e127, hx127_0⟩ := Kd.at_int HR0.out x5_1 p127 q127
      cases e127
      replace p127 := eq_true p127; replace q127 := eq_true q127
      have p128 : 0 ≤ (x5_1 : Int) := da
      have q128 : x5_1 < (l1.length : Int) := da
      obtain ⟨ad128, e128, hx128_0⟩ := Kd.at_int HR1.out x5_1 p128 q128
      cases e128
      replace p128 := eq_true p128; replace q128 := eq_true q128; go_wp2
      repeat (go_quiet (fail); try go_wp2)
      go_ret
      exact ⟨er, drw⟩
    ·rw [if_neg c4] at H
     have c4b0 : decide (x5_1 < (l0.length : Int)) = false := decide_eq_false c4
     clear c4
     obtain rfl := Option.some.inj H
     go_wp2
     repeat (go_quiet (fail); try go_wp2)
     go_ret
     exact ⟨er, drw⟩
 ·rw [if_neg c3] at H
  have c3b0 : ((l0.length : Int) == (l1.length : Int)) = false := beq_eq_false_iff_ne.mpr c3
  have c3b1 : ((l0.length : Int) != (l1.length : Int)) = true := bne_iff_ne.mpr c3
  have c3b2 : (l0.length == l1.length) = false := by first | simpa using c3 | (simp at c3 ⊢; omega)
  obtain rfl := Option.some.inj H
  go_enter Tryz.func21, Tryz.ntmps21
  go_wp2
  repeat (go_quiet (fail); try go_wp2)
  go_ret
  exact ⟨er, drw⟩

/-! ### laws_eqStringS: function 93 -/
def laws_eqStringS.l0 : Nat → List ByteArray → List ByteArray → Int → Option (Bool)
  | 0, _, _, _ => none
  | k + 1, x0, x1, x5 => if x5 < (x0.length : Int) then (if 0 ≤ x5 then (if x5 < (x1.length : Int) then (if (rdOf ByteArray.empty x0 x5).toList = (rdOf ByteArray.empty x1 x5).toList then (laws_eqStringS.l0 k x0 x1 (wrap64 (x5 + 1))) else (some false)) else (none)) else (none)) else (some true)
def laws_eqStringS.f (k : Nat) (l0 : List ByteArray) (l1 : List ByteArray) : Option (Bool) := if (l0.length : Int) = (l1.length : Int) then (laws_eqStringS.l0 k l0 l1 0) else (some false)
theorem laws_eqStringS.mono_l : ∀ k, (∀ y0 y1 y2, LeO (laws_eqStringS.l0 k y0 y1 y2) (laws_eqStringS.l0 (k + 1) y0 y1 y2))
 | 0 => fun _ _ _ r h => by simp [laws_eqStringS.l0] at h
 | k + 1 => by
  have ih0 := laws_eqStringS.mono_l k
  ·intro y0 y1 y2
   unfold laws_eqStringS.l0
   repeat' (first | (with_reducible first | exact ih0 _ _ _ | exact LeO.refl _ | exact LeO.none _ | refine LeO.ite ?_ ?_ | refine LeO.bind ?_ (fun _ => ?_)) | exact ih0 _ _ _ | exact LeO.none _ | refine LeO.ite ?_ ?_ | refine LeO.bind ?_ (fun _ => ?_))
theorem laws_eqStringS.mono : ∀ a0 a1 k, LeO (laws_eqStringS.f k a0 a1) (laws_eqStringS.f (k + 1) a0 a1) := by
 intro a0 a1 k
 have ih0 := laws_eqStringS.mono_l k
 unfold laws_eqStringS.f
 repeat' (first | (with_reducible first | exact ih0 _ _ _ | exact LeO.refl _ | exact LeO.none _ | refine LeO.ite ?_ ?_ | refine LeO.bind ?_ (fun _ => ?_)) | exact ih0 _ _ _ | exact LeO.none _ | refine LeO.ite ?_ ?_ | refine LeO.bind ?_ (fun _ => ?_))
set_option maxHeartbeats 8000000 in
set_option maxRecDepth 100000 in
theorem laws_eqStringS.calls (k : Nat) (A0 : Option Addr) (c0 : Nat) (l0 : List ByteArray) (A1 : Option Addr) (c1 : Nat) (l1 : List ByteArray) (r : Bool) (w : World) (hr0 : Kd.C Kd.string w A0 l0.length l0) (hc0 : l0.length ≤ c0) (hr1 : Kd.C Kd.string w A1 l1.length l1) (hc1 : l1.length ≤ c1) (h : laws_eqStringS.f k l0 l1 = some r) :
  Calls Tryz.prog 93 #[.slice A0 l0.length c0, .slice A1 l1.length c1] w fun e w' => e = .returned (.bool r) ∧ Drawn0 w w' := by
 have HR0 := Aside0.mk hr0; have HC0 := Aside0.mk hc0; clear hr0 hc0; have HR1 := Aside0.mk hr1; have HC1 := Aside0.mk hc1; clear hr1 hc1
 have H : (if (l0.length : Int) = (l1.length : Int) then (laws_eqStringS.l0 k l0 l1 0) else (some false)) = some r := h
 clear h
 by_cases c3 : (l0.length : Int) = (l1.length : Int)
 ·rw [if_pos c3] at H
  have c3b0 : ((l0.length : Int) == (l1.length : Int)) = true := beq_iff_eq.mpr c3
  have c3b1 : ((l0.length : Int) != (l1.length : Int)) = false := bne_eq_false_iff_eq.mpr c3
  have c3b2 : (l0.length == l1.length) = true := by first | simpa using c3 | (simp at c3 ⊢; omega)
  clear c3
  have H' := Aside0.mk H
  clear H
  go_enter Tryz.func93, Tryz.ntmps93
  go_wp2
  repeat (go_quiet (fail); try go_wp2)
  go_loopg [5] k (fun kq v5 w' => ∃ (x5_1 : Int), v5 = .int .i64 x5_1 ∧ Aside0 (laws_eqStringS.l0 kq l0 l1 x5_1 = some r) ∧ Aside0 (kq ≤ k) ∧ Drawn0 w w')
  case atStart => exact ⟨(0), er, H', ⟨Nat.le_refl _⟩, drw⟩
  case round =>
   clear H'
   (try clear c1); (try clear c3b0); (try clear c3b1); (try clear c3b2)
   obtain ⟨x5_1, rfl, HA, HK1, ⟨m1, rfl⟩⟩ := hrel
   cases gk with
   | zero => exact absurd HA.out (by simp [laws_eqStringS.l0])
   | succ k1 =>
    have H := HA.out; clear HA
    simp only [laws_eqStringS.l0] at H
    by_cases c4 : x5_1 < (l0.length : Int)
    ·rw [if_pos c4] at H
     have c4b0 : decide (x5_1 < (l0.length : Int)) = true := decide_eq_true c4
     clear c4; replace H := ifS H; obtain ⟨c5, H⟩ := H; have c5b0 := decide_eq_true c5; clear c5; replace H := ifS H; obtain ⟨c6, H⟩ := H; have c6b0 := decide_eq_true c6; clear c6
     by_cases c7 : (rdOf ByteArray.empty l0 x5_1).toList = (rdOf ByteArray.empty l1 x5_1).toList
     ·rw [if_pos c7] at H
      have c7b0 : ((rdOf ByteArray.empty l0 x5_1).toList == (rdOf ByteArray.empty l1 x5_1).toList) = true := beq_iff_eq.mpr c7
      have c7b1 : ((rdOf ByteArray.empty l0 x5_1).toList != (rdOf ByteArray.empty l1 x5_1).toList) = false := bne_eq_false_iff_eq.mpr c7
      clear c7
      have H' := Aside0.mk H
      clear H
      have p129 : 0 ≤ (x5_1 : Int) := da
      have q129 : x5_1 < (l0.length : Int) := da
      obtain ⟨ad129, e129, hx129_0⟩ := Kd.at_string HR0.out x5_1 p129 q129
      cases e129
      replace p129 := eq_true p129; replace q129 := eq_true q129
      have p130 : 0 ≤ (x5_1 : Int) := da
      have q130 : x5_1 < (l1.length : Int) := da
      obtain ⟨ad130, e130, hx130_0⟩ := Kd.at_string HR1.out x5_1 p130 q130
      cases e130
      replace p130 := eq_true p130; replace q130 := eq_true q130; go_wp2
      repeat (go_quiet (fail); try go_wp2)
      go_roundg k1
      case measure => have := HK1.out; omega
      case rel => exact ⟨(wrap64 (x5_1 + 1)), er, H', ⟨by have := HK1.out; omega⟩, drw⟩
     ·rw [if_neg c7] at H
      have c7b0 : ((rdOf ByteArray.empty l0 x5_1).toList == (rdOf ByteArray.empty l1 x5_1).toList) = false := beq_eq_false_iff_ne.mpr c7
      have c7b1 : ((rdOf ByteArray.empty l0 x5_1).toList != (rdOf ByteArray.empty l1 x5_1).toList) = true := bne_iff_ne.mpr c7
      obtain rfl := Option.some.inj H
      have p129 : 0 ≤ (x5_1 : Int) := da
      have q129 : x5_1 < (l0.length : Int) := da
      obtain ⟨ad129, e129, hx129_0⟩ := Kd.at_string HR0.out x5_1 p129 q129
      cases e129
      replace p129 := eq_true p129; replace q129 := eq_true q129
      have p130 : 0 ≤ (x5_1 : Int) := da
      have q130 : x5_1 < (l1.length : Int) := da
      obtain ⟨ad130, e130, hx130_0⟩ := Kd.at_string HR1.out x5_1 p130 q130
      cases e130
      replace p130 := eq_true p130; replace q130 := eq_true q130; go_wp2
      repeat (go_quiet (fail); try go_wp2)
      go_ret
      exact ⟨er, drw⟩
    ·rw [if_neg c4] at H
     have c4b0 : decide (x5_1 < (l0.length : Int)) = false := decide_eq_false c4
     clear c4
     obtain rfl := Option.some.inj H
     go_wp2
     repeat (go_quiet (fail); try go_wp2)
     go_ret
     exact ⟨er, drw⟩
 ·rw [if_neg c3] at H
  have c3b0 : ((l0.length : Int) == (l1.length : Int)) = false := beq_eq_false_iff_ne.mpr c3
  have c3b1 : ((l0.length : Int) != (l1.length : Int)) = true := bne_iff_ne.mpr c3
  have c3b2 : (l0.length == l1.length) = false := by first | simpa using c3 | (simp at c3 ⊢; omega)
  obtain rfl := Option.some.inj H
  go_enter Tryz.func93, Tryz.ntmps93
  go_wp2
  repeat (go_quiet (fail); try go_wp2)
  go_ret
  exact ⟨er, drw⟩

end Go.Proofs.YtihekdlcfohkkaaGreatDoor.QFnExactStepNet
