-- printed by this session's own program (wip/tools/pp.py: the kit's print.py with changes); Lean checks it
import Derived.Test.YtkgogglnipdcfaaQFnExactPutMixx0
namespace Go.Proofs.Ytkgogglnipdcfaa.QFnExactPutMix
open Go.RowKit Go.Proofs.YtkgogglnipdcfaaW.PrintWords Go.Proofs.YtkgogglnipdcfaaW.PrintLast Go.Proofs.YtkgogglnipdcfaaW.PrintMore
attribute [local go_sem] max2_int min2_int max_two min_two max_three min_three max_four min_four strLss strGtr strLeq strGeq   -- for this text's walks alone
set_option linter.unusedVariables false
set_option linter.unusedSimpArgs false

/-! ### laws_szStringS: function 92 -/
def laws_szStringS.l0 : Nat → List ByteArray → Int → Int → Option (Int)
  | 0, _, _, _ => none
  | k + 1, x0, x1, x5 => if x5 < (x0.length : Int) then (if 0 ≤ x5 then (if (wrap64 (x1 - ((rdOf ByteArray.empty x0 x5).size : Int))) < 0 then (some (-1)) else (laws_szStringS.l0 k x0 (wrap64 (x1 - ((rdOf ByteArray.empty x0 x5).size : Int))) (wrap64 (x5 + 1)))) else (none)) else (some x1)
def laws_szStringS.f (k : Nat) (l0 : List ByteArray) (a1 : Int) : Option (Int) := if (wrap64 (a1 - (l0.length : Int))) < 0 then (some (-1)) else (laws_szStringS.l0 k l0 (wrap64 (a1 - (l0.length : Int))) 0)
theorem laws_szStringS.mono_l : ∀ k, (∀ y0 y1 y2, LeO (laws_szStringS.l0 k y0 y1 y2) (laws_szStringS.l0 (k + 1) y0 y1 y2))
 | 0 => fun _ _ _ r h => by simp [laws_szStringS.l0] at h
 | k + 1 => by
  have ih0 := laws_szStringS.mono_l k
  ·intro y0 y1 y2
   unfold laws_szStringS.l0
   repeat' (first | (with_reducible first | exact ih0 _ _ _ | exact LeO.refl _ | exact LeO.none _ | refine LeO.ite ?_ ?_ | refine LeO.bind ?_ (fun _ => ?_)) | exact ih0 _ _ _ | exact LeO.none _ | refine LeO.ite ?_ ?_ | refine LeO.bind ?_ (fun _ => ?_))
theorem laws_szStringS.mono : ∀ a0 a1 k, LeO (laws_szStringS.f k a0 a1) (laws_szStringS.f (k + 1) a0 a1) := by
 intro a0 a1 k
 have ih0 := laws_szStringS.mono_l k
 unfold laws_szStringS.f
 repeat' (first | (with_reducible first | exact ih0 _ _ _ | exact LeO.refl _ | exact LeO.none _ | refine LeO.ite ?_ ?_ | refine LeO.bind ?_ (fun _ => ?_)) | exact ih0 _ _ _ | exact LeO.none _ | refine LeO.ite ?_ ?_ | refine LeO.bind ?_ (fun _ => ?_))
set_option maxHeartbeats 8000000 in
set_option maxRecDepth 100000 in
theorem laws_szStringS.calls (k : Nat) (A0 : Option Addr) (c0 : Nat) (l0 : List ByteArray) (a1 : Int) (r : Int) (w : World) (hr0 : Kd.C Kd.string w A0 l0.length l0) (hc0 : l0.length ≤ c0) (h : laws_szStringS.f k l0 a1 = some r) :
  Calls Try.prog 92 #[.slice A0 l0.length c0, .int .i64 a1] w fun e w' => e = .returned (.int .i64 r) ∧ Drawn0 w w' := by
 have HR0 := Aside0.mk hr0; have HC0 := Aside0.mk hc0; clear hr0 hc0
 have H : (if (wrap64 (a1 - (l0.length : Int))) < 0 then (some (-1)) else (laws_szStringS.l0 k l0 (wrap64 (a1 - (l0.length : Int))) 0)) = some r := h
 clear h
 by_cases c3 : (wrap64 (a1 - (l0.length : Int))) < 0
 ·rw [if_pos c3] at H
  have c3b0 : decide ((wrap64 (a1 - (l0.length : Int))) < 0) = true := decide_eq_true c3
  clear c3
  obtain rfl := Option.some.inj H
  go_enter Try.func92, Try.ntmps92
  go_wp2
  go_ret
  exact ⟨er, drw⟩
 ·rw [if_neg c3] at H
  have c3b0 : decide ((wrap64 (a1 - (l0.length : Int))) < 0) = false := decide_eq_false c3
  clear c3
  have H' := Aside0.mk H
  clear H
  go_enter Try.func92, Try.ntmps92
  go_wp2
  go_loopg [1, 5] k (fun kq v1 v5 w' => ∃ (x1_1 : Int) (x5_1 : Int), v1 = .int .i64 x1_1 ∧ v5 = .int .i64 x5_1 ∧ Aside0 (laws_szStringS.l0 kq l0 x1_1 x5_1 = some r) ∧ Aside0 (kq ≤ k) ∧ Drawn0 w w')
  case atStart => exact ⟨(wrap64 (a1 - (l0.length : Int))), (0), er, er, H', ⟨Nat.le_refl _⟩, drw⟩
  case round =>
   clear H'
   (try clear c3b0)
   obtain ⟨x1_1, x5_1, rfl, rfl, HA, HK1, ⟨m1, rfl⟩⟩ := hrel
   cases gk with
   | zero => exact absurd HA.out (by simp [laws_szStringS.l0])
   | succ k1 =>
    have H := HA.out; clear HA
    simp only [laws_szStringS.l0] at H
    by_cases c4 : x5_1 < (l0.length : Int)
    ·rw [if_pos c4] at H
     have c4b0 : decide (x5_1 < (l0.length : Int)) = true := decide_eq_true c4
     clear c4; replace H := ifS H; obtain ⟨c5, H⟩ := H; have c5b0 := decide_eq_true c5; clear c5
     by_cases c6 : (wrap64 (x1_1 - ((rdOf ByteArray.empty l0 x5_1).size : Int))) < 0
     ·rw [if_pos c6] at H
      have c6b0 : decide ((wrap64 (x1_1 - ((rdOf ByteArray.empty l0 x5_1).size : Int))) < 0) = true := decide_eq_true c6
      clear c6
      obtain rfl := Option.some.inj H
      have p101 : 0 ≤ (x5_1 : Int) := da
      have q101 : x5_1 < (l0.length : Int) := da
      obtain ⟨ad101, e101, hx101_0⟩ := Kd.at_string HR0.out x5_1 p101 q101
      cases e101
      replace p101 := eq_true p101; replace q101 := eq_true q101; go_wp2
      go_ret
      exact ⟨er, drw⟩
     ·rw [if_neg c6] at H
      have c6b0 : decide ((wrap64 (x1_1 - ((rdOf ByteArray.empty l0 x5_1).size : Int))) < 0) = false := decide_eq_false c6
      clear c6
      have H' := Aside0.mk H
      clear H
      have p101 : 0 ≤ (x5_1 : Int) := da
      have q101 : x5_1 < (l0.length : Int) := da
      obtain ⟨ad101, e101, hx101_0⟩ := Kd.at_string HR0.out x5_1 p101 q101
      cases e101
      replace p101 := eq_true p101; replace q101 := eq_true q101; go_wp2
      go_roundg k1
      case measure => have := HK1.out; omega
      case rel => exact ⟨(wrap64 (x1_1 - ((rdOf ByteArray.empty l0 x5_1).size : Int))), (wrap64 (x5_1 + 1)), er, er, H', ⟨by have := HK1.out; omega⟩, drw⟩
    ·rw [if_neg c4] at H
     have c4b0 : decide (x5_1 < (l0.length : Int)) = false := decide_eq_false c4
     clear c4
     obtain rfl := Option.some.inj H
     go_wp2
     go_ret
     exact ⟨er, drw⟩

/-! ### laws_szIntS: function 93 -/
def laws_szIntS.f (l0 : List Int) (a1 : Int) : Option (Int) := if (wrap64 (a1 - (l0.length : Int))) < 0 then (some (-1)) else (some (wrap64 (a1 - (l0.length : Int))))
set_option maxHeartbeats 8000000 in
set_option maxRecDepth 100000 in
theorem laws_szIntS.calls (A0 : Option Addr) (c0 : Nat) (l0 : List Int) (a1 : Int) (r : Int) (w : World) (hr0 : Kd.C (Kd.int .i64) w A0 l0.length l0) (hc0 : l0.length ≤ c0) (h : laws_szIntS.f l0 a1 = some r) :
  Calls Try.prog 93 #[.slice A0 l0.length c0, .int .i64 a1] w fun e w' => e = .returned (.int .i64 r) ∧ Drawn0 w w' := by
 have HR0 := Aside0.mk hr0; have HC0 := Aside0.mk hc0; clear hr0 hc0
 have H : (if (wrap64 (a1 - (l0.length : Int))) < 0 then (some (-1)) else (some (wrap64 (a1 - (l0.length : Int))))) = some r := h
 clear h
 by_cases c3 : (wrap64 (a1 - (l0.length : Int))) < 0
 ·rw [if_pos c3] at H
  have c3b0 : decide ((wrap64 (a1 - (l0.length : Int))) < 0) = true := decide_eq_true c3
  clear c3
  obtain rfl := Option.some.inj H
  go_enter Try.func93, Try.ntmps93
  go_wp2
  go_ret
  exact ⟨er, drw⟩
 ·rw [if_neg c3] at H
  have c3b0 : decide ((wrap64 (a1 - (l0.length : Int))) < 0) = false := decide_eq_false c3
  clear c3
  obtain rfl := Option.some.inj H
  go_enter Try.func93, Try.ntmps93
  go_wp2
  go_ret
  exact ⟨er, drw⟩

/-! ### laws_szMix: function 13 -/
def laws_szMix.f (k : Nat) (l0_0 : List ByteArray) (a0_1 : Int) (a0_2 : Int) (a0_3 : Int) (l0_4 : List Int) (a1 : Int) : Option (Int) := (laws_szStringS.f k l0_0 a1).bind fun t103 => (if t103 < 0 then (some (-1)) else ((laws_szIntS.f l0_4 t103).bind fun t104 => (if t104 < 0 then (some (-1)) else (some t104))))
theorem laws_szMix.mono : ∀ a0 a1 a2 a3 a4 a5 k, LeO (laws_szMix.f k a0 a1 a2 a3 a4 a5) (laws_szMix.f (k + 1) a0 a1 a2 a3 a4 a5) := by
 intro a0 a1 a2 a3 a4 a5 k
 unfold laws_szMix.f
 repeat' (first | (with_reducible first | exact laws_szStringS.mono _ _ _ | exact LeO.refl _ | exact LeO.none _ | refine LeO.ite ?_ ?_ | refine LeO.bind ?_ (fun _ => ?_)) | exact laws_szStringS.mono _ _ _ | exact LeO.none _ | refine LeO.ite ?_ ?_ | refine LeO.bind ?_ (fun _ => ?_))
set_option maxHeartbeats 8000000 in
set_option maxRecDepth 100000 in
theorem laws_szMix.calls (k : Nat) (A0_0 : Option Addr) (c0_0 : Nat) (l0_0 : List ByteArray) (a0_1 : Int) (a0_2 : Int) (a0_3 : Int) (A0_4 : Option Addr) (c0_4 : Nat) (l0_4 : List Int) (a1 : Int) (r : Int) (w : World) (hr0_0 : Kd.C Kd.string w A0_0 l0_0.length l0_0) (hc0_0 : l0_0.length ≤ c0_0) (hr0_4 : Kd.C (Kd.int .i64) w A0_4 l0_4.length l0_4) (hc0_4 : l0_4.length ≤ c0_4) (h : laws_szMix.f k l0_0 a0_1 a0_2 a0_3 l0_4 a1 = some r) :
  Calls Try.prog 13 #[.agg #[.slice A0_0 l0_0.length c0_0, .int .i64 a0_1, .int .i64 a0_2, .int .i64 a0_3, .slice A0_4 l0_4.length c0_4], .int .i64 a1] w fun e w' => e = .returned (.int .i64 r) ∧ Below w.heap.size w w' := by
 have hu25 := Try.underlying25
 have HR0_0 := Aside0.mk hr0_0; have HC0_0 := Aside0.mk hc0_0; clear hr0_0 hc0_0; have HR0_4 := Aside0.mk hr0_4; have HC0_4 := Aside0.mk hc0_4; clear hr0_4 hc0_4
 have HB := Aside0.mk (Below.refl w.heap.size w)
 have H : ((laws_szStringS.f k l0_0 a1).bind fun t103 => (if t103 < 0 then (some (-1)) else ((laws_szIntS.f l0_4 t103).bind fun t104 => (if t104 < 0 then (some (-1)) else (some t104))))) = some r := h
 clear h; replace H := bS H; obtain ⟨t103, A3, H⟩ := H
 replace H : (if t103 < 0 then (some (-1)) else ((laws_szIntS.f l0_4 t103).bind fun t104 => (if t104 < 0 then (some (-1)) else (some t104)))) = some r := H
 by_cases c4 : t103 < 0
 ·rw [if_pos c4] at H
  have c4b0 : decide (t103 < 0) = true := decide_eq_true c4
  clear c4
  obtain rfl := Option.some.inj H
  go_enter Try.func13, Try.ntmps13
  go_wp2_with (first | ((with_reducible refine gate_dst (N := 2) rfl ?_); refine boxev 2 #[.slice A0_0 l0_0.length c0_0, .int .i64 a0_1, .int .i64 a0_2, .int .i64 a0_3, .slice A0_4 l0_4.length c0_4] 25 ?_; intro gb102 hg w5 hbox hb; have BK102 := ak (hbox); have GW102 := ak (hgl hg (belowd HB)); have GE102 := ak (hgl hg (belowd HB)); replace HB := ak (below_step (belowd HB) hb); clear hb hbox hg; obtain ⟨hcz6_0, hcz6_1, hcz6_2, hcz6_3, hcz6_4, hfz6_0, hfz6_1, hfz6_2, hfz6_3, hfz6_4⟩ := box5 BK102) | ((with_reducible refine gate_callee (f := 92) rfl ?_); refine goesLa (some 8) rfl Try.func92 #[.slice A0_0 l0_0.length c0_0, .int .i64 a1] rfl ?_; (with_reducible refine (laws_szStringS.calls k _ _ l0_0 a1 t103 _ ?side1 ?side2 A3.out).mono ?_); (case side1 => exact cd (Kd.C_below HR0_0.out HB.out)); (case side2 => exact HC0_0.out); rintro e w' ⟨rfl, ⟨nd, rfl⟩⟩; refine ⟨_, rfl, ?_⟩))
  go_ret
  exact ⟨er2, belowg1 HB GE102⟩
 ·rw [if_neg c4] at H
  have c4b0 : decide (t103 < 0) = false := decide_eq_false c4
  clear c4; replace H := bS H; obtain ⟨t104, A7, H⟩ := H
  replace H : (if t104 < 0 then (some (-1)) else (some t104)) = some r := H
  by_cases c8 : t104 < 0
  ·rw [if_pos c8] at H
   have c8b0 : decide (t104 < 0) = true := decide_eq_true c8
   clear c8
   obtain rfl := Option.some.inj H
   go_enter Try.func13, Try.ntmps13
   go_wp2_with (first | ((with_reducible refine gate_dst (N := 2) rfl ?_); refine boxev 2 #[.slice A0_0 l0_0.length c0_0, .int .i64 a0_1, .int .i64 a0_2, .int .i64 a0_3, .slice A0_4 l0_4.length c0_4] 25 ?_; intro gb102 hg w9 hbox hb; have BK102 := ak (hbox); have GW102 := ak (hgl hg (belowd HB)); have GE102 := ak (hgl hg (belowd HB)); replace HB := ak (below_step (belowd HB) hb); clear hb hbox hg; obtain ⟨hcz10_0, hcz10_1, hcz10_2, hcz10_3, hcz10_4, hfz10_0, hfz10_1, hfz10_2, hfz10_3, hfz10_4⟩ := box5 BK102) | ((with_reducible refine gate_callee (f := 92) rfl ?_); refine goesLa (some 8) rfl Try.func92 #[.slice A0_0 l0_0.length c0_0, .int .i64 a1] rfl ?_; (with_reducible refine (laws_szStringS.calls k _ _ l0_0 a1 t103 _ ?side1 ?side2 A3.out).mono ?_); (case side1 => exact cd (Kd.C_below HR0_0.out HB.out)); (case side2 => exact HC0_0.out); rintro e w' ⟨rfl, ⟨nd, rfl⟩⟩; refine ⟨_, rfl, ?_⟩) | ((with_reducible refine gate_callee (f := 93) rfl ?_); refine goesLa (some 14) rfl Try.func93 #[.slice A0_4 l0_4.length c0_4, .int .i64 t103] rfl ?_; (with_reducible refine (laws_szIntS.calls _ _ l0_4 t103 t104 _ ?side1 ?side2 A7.out).mono ?_); (case side1 => exact cd (Kd.C_below HR0_4.out (belowg1 HB GE102))); (case side2 => exact HC0_4.out); rintro e w' ⟨rfl, ⟨nd, rfl⟩⟩; refine ⟨_, rfl, ?_⟩))
   go_ret
   exact ⟨er2, belowg1 HB GE102⟩
  ·rw [if_neg c8] at H
   have c8b0 : decide (t104 < 0) = false := decide_eq_false c8
   clear c8
   obtain rfl := Option.some.inj H
   go_enter Try.func13, Try.ntmps13
   go_wp2_with (first | ((with_reducible refine gate_dst (N := 2) rfl ?_); refine boxev 2 #[.slice A0_0 l0_0.length c0_0, .int .i64 a0_1, .int .i64 a0_2, .int .i64 a0_3, .slice A0_4 l0_4.length c0_4] 25 ?_; intro gb102 hg w11 hbox hb; have BK102 := ak (hbox); have GW102 := ak (hgl hg (belowd HB)); have GE102 := ak (hgl hg (belowd HB)); replace HB := ak (below_step (belowd HB) hb); clear hb hbox hg; obtain ⟨hcz12_0, hcz12_1, hcz12_2, hcz12_3, hcz12_4, hfz12_0, hfz12_1, hfz12_2, hfz12_3, hfz12_4⟩ := box5 BK102) | ((with_reducible refine gate_callee (f := 92) rfl ?_); refine goesLa (some 8) rfl Try.func92 #[.slice A0_0 l0_0.length c0_0, .int .i64 a1] rfl ?_; (with_reducible refine (laws_szStringS.calls k _ _ l0_0 a1 t103 _ ?side1 ?side2 A3.out).mono ?_); (case side1 => exact cd (Kd.C_below HR0_0.out HB.out)); (case side2 => exact HC0_0.out); rintro e w' ⟨rfl, ⟨nd, rfl⟩⟩; refine ⟨_, rfl, ?_⟩) | ((with_reducible refine gate_callee (f := 93) rfl ?_); refine goesLa (some 14) rfl Try.func93 #[.slice A0_4 l0_4.length c0_4, .int .i64 t103] rfl ?_; (with_reducible refine (laws_szIntS.calls _ _ l0_4 t103 t104 _ ?side1 ?side2 A7.out).mono ?_); (case side1 => exact cd (Kd.C_below HR0_4.out (belowg1 HB GE102))); (case side2 => exact HC0_4.out); rintro e w' ⟨rfl, ⟨nd, rfl⟩⟩; refine ⟨_, rfl, ?_⟩))
   go_ret
   exact ⟨er2, belowg1 HB GE102⟩

/-! ### spec_l8Text: function 95 -/
def spec_l8Text.f (a0 : ByteArray) : Option (Bool) := some (decide ((a0.size : Int) ≤ 24))
set_option maxHeartbeats 8000000 in
set_option maxRecDepth 100000 in
theorem spec_l8Text.calls (a0 : ByteArray) (r : Bool) (w : World) (h : spec_l8Text.f a0 = some r) :
  Calls Try.prog 95 #[.string a0] w fun e w' => e = .returned (.bool r) ∧ Drawn0 w w' := by
 have H : (some (decide ((a0.size : Int) ≤ 24))) = some r := h
 clear h
 obtain rfl := Option.some.inj H
 go_enter Try.func95, Try.ntmps95
 go_wp2
 go_ret
 exact ⟨er, drw⟩

/-! ### spec_l8Pool: function 111 -/
def spec_l8Pool.l0 : Nat → List ByteArray → List ByteArray → Int → Int → Option (Bool)
  | 0, _, _, _, _ => none
  | k + 1, x0, x5, x6, x7 => if x7 < x6 then (if 0 ≤ x7 then (if x7 < (x5.length : Int) then ((spec_l8Text.f (rdOf ByteArray.empty x5 x7)).bind fun t106 => (if t106 = true then (spec_l8Pool.l0 k x0 x5 x6 (wrap64 (x7 + 1))) else (some false))) else (none)) else (none)) else (some (decide ((x0.length : Int) ≤ 12)))
def spec_l8Pool.f (k : Nat) (l0 : List ByteArray) : Option (Bool) := spec_l8Pool.l0 k l0 l0 (l0.length : Int) 0
theorem spec_l8Pool.mono_l : ∀ k, (∀ y0 y1 y2 y3, LeO (spec_l8Pool.l0 k y0 y1 y2 y3) (spec_l8Pool.l0 (k + 1) y0 y1 y2 y3))
 | 0 => fun _ _ _ _ r h => by simp [spec_l8Pool.l0] at h
 | k + 1 => by
  have ih0 := spec_l8Pool.mono_l k
  ·intro y0 y1 y2 y3
   unfold spec_l8Pool.l0
   repeat' (first | (with_reducible first | exact ih0 _ _ _ _ | exact LeO.refl _ | exact LeO.none _ | refine LeO.ite ?_ ?_ | refine LeO.bind ?_ (fun _ => ?_)) | exact ih0 _ _ _ _ | exact LeO.none _ | refine LeO.ite ?_ ?_ | refine LeO.bind ?_ (fun _ => ?_))
theorem spec_l8Pool.mono : ∀ a0 k, LeO (spec_l8Pool.f k a0) (spec_l8Pool.f (k + 1) a0) := by
 intro a0 k
 have ih0 := spec_l8Pool.mono_l k
 unfold spec_l8Pool.f
 repeat' (first | (with_reducible first | exact ih0 _ _ _ _ | exact LeO.refl _ | exact LeO.none _ | refine LeO.ite ?_ ?_ | refine LeO.bind ?_ (fun _ => ?_)) | exact ih0 _ _ _ _ | exact LeO.none _ | refine LeO.ite ?_ ?_ | refine LeO.bind ?_ (fun _ => ?_))
set_option maxHeartbeats 8000000 in
set_option maxRecDepth 100000 in
theorem spec_l8Pool.calls (k : Nat) (A0 : Option Addr) (c0 : Nat) (l0 : List ByteArray) (r : Bool) (w : World) (hr0 : Kd.C Kd.string w A0 l0.length l0) (hc0 : l0.length ≤ c0) (h : spec_l8Pool.f k l0 = some r) :
  Calls Try.prog 111 #[.slice A0 l0.length c0] w fun e w' => e = .returned (.bool r) ∧ Drawn0 w w' := by
 have HR0 := Aside0.mk hr0; have HC0 := Aside0.mk hc0; clear hr0 hc0
 have H : (spec_l8Pool.l0 k l0 l0 (l0.length : Int) 0) = some r := h
 clear h
 have H' := Aside0.mk H
 clear H
 go_enter Try.func111, Try.ntmps111
 go_wp2
 go_loopg [7] k (fun kq v7 w' => ∃ (x7_1 : Int), v7 = .int .i64 x7_1 ∧ Aside0 (spec_l8Pool.l0 kq l0 l0 (l0.length : Int) x7_1 = some r) ∧ Aside0 (kq ≤ k) ∧ Drawn0 w w')
 case atStart => exact ⟨(0), er, H', ⟨Nat.le_refl _⟩, drw⟩
 case round =>
  clear H'
  obtain ⟨x7_1, rfl, HA, HK1, ⟨m1, rfl⟩⟩ := hrel
  cases gk with
  | zero => exact absurd HA.out (by simp [spec_l8Pool.l0])
  | succ k1 =>
   have H := HA.out; clear HA
   simp only [spec_l8Pool.l0] at H
   by_cases c2 : x7_1 < (l0.length : Int)
   ·rw [if_pos c2] at H
    have c2b0 : decide (x7_1 < (l0.length : Int)) = true := decide_eq_true c2
    clear c2; replace H := ifS H; obtain ⟨c3, H⟩ := H; have c3b0 := decide_eq_true c3; clear c3; replace H := ifS H; obtain ⟨c4, H⟩ := H; have c4b0 := decide_eq_true c4; clear c4; replace H := bS H; obtain ⟨t106, A5, H⟩ := H
    replace H : (if t106 = true then (spec_l8Pool.l0 k1 l0 l0 (l0.length : Int) (wrap64 (x7_1 + 1))) else (some false)) = some r := H
    by_cases c6 : t106 = true
    ·subst c6
     have H1 : (spec_l8Pool.l0 k1 l0 l0 (l0.length : Int) (wrap64 (x7_1 + 1))) = some r := by rw [if_pos rfl] at H; exact H
     clear H
     have H := H1
     clear H1
     have H' := Aside0.mk H
     clear H
     have p105 : 0 ≤ (x7_1 : Int) := da
     have q105 : x7_1 < (l0.length : Int) := da
     obtain ⟨ad105, e105, hx105_0⟩ := Kd.at_string HR0.out x7_1 p105 q105
     cases e105
     replace p105 := eq_true p105; replace q105 := eq_true q105
     go_wp2_with (first | ((with_reducible refine gate_callee (f := 95) rfl ?_); refine goesLa (some 12) rfl Try.func95 #[.string (rdOf ByteArray.empty l0 x7_1)] rfl ?_; (with_reducible refine (spec_l8Text.calls (rdOf ByteArray.empty l0 x7_1) true _ A5.out).mono ?_); rintro e w' ⟨rfl, ⟨nd, rfl⟩⟩; refine ⟨_, rfl, ?_⟩))
     go_roundg k1
     case measure => have := HK1.out; omega
     case rel => exact ⟨(wrap64 (x7_1 + 1)), er, H', ⟨by have := HK1.out; omega⟩, drw⟩
    ·replace c6 := Bool.eq_false_iff.mpr c6
     subst c6
     have H1 : (some false) = some r := by rw [if_neg (show ¬ (false = true) by decide)] at H; exact H
     clear H
     have H := H1
     clear H1
     obtain rfl := Option.some.inj H
     have p105 : 0 ≤ (x7_1 : Int) := da
     have q105 : x7_1 < (l0.length : Int) := da
     obtain ⟨ad105, e105, hx105_0⟩ := Kd.at_string HR0.out x7_1 p105 q105
     cases e105
     replace p105 := eq_true p105; replace q105 := eq_true q105
     go_wp2_with (first | ((with_reducible refine gate_callee (f := 95) rfl ?_); refine goesLa (some 12) rfl Try.func95 #[.string (rdOf ByteArray.empty l0 x7_1)] rfl ?_; (with_reducible refine (spec_l8Text.calls (rdOf ByteArray.empty l0 x7_1) false _ A5.out).mono ?_); rintro e w' ⟨rfl, ⟨nd, rfl⟩⟩; refine ⟨_, rfl, ?_⟩))
     go_ret
     exact ⟨er, drw⟩
   ·rw [if_neg c2] at H
    have c2b0 : decide (x7_1 < (l0.length : Int)) = false := decide_eq_false c2
    clear c2
    obtain rfl := Option.some.inj H
    go_wp2
    go_ret
    exact ⟨er, drw⟩

/-! ### spec_l1In: function 153 -/
def spec_l1In.f (a0 : Int) (a1 : Int) (a2 : Int) : Option (Bool) := if a0 ≥ a1 then (some (decide (a0 ≤ a2))) else (some false)
set_option maxHeartbeats 8000000 in
set_option maxRecDepth 100000 in
theorem spec_l1In.calls (a0 : Int) (a1 : Int) (a2 : Int) (r : Bool) (w : World) (h : spec_l1In.f a0 a1 a2 = some r) :
  Calls Try.prog 153 #[.int .i64 a0, .int .i64 a1, .int .i64 a2] w fun e w' => e = .returned (.bool r) ∧ Drawn0 w w' := by
 have H : (if a0 ≥ a1 then (some (decide (a0 ≤ a2))) else (some false)) = some r := h
 clear h
 by_cases c4 : a0 ≥ a1
 ·rw [if_pos c4] at H
  have c4b0 : decide (a1 ≤ a0) = true := decide_eq_true c4
  clear c4
  obtain rfl := Option.some.inj H
  go_enter Try.func153, Try.ntmps153
  go_wp2
  go_ret
  exact ⟨er, drw⟩
 ·rw [if_neg c4] at H
  have c4b0 : decide (a1 ≤ a0) = false := decide_eq_false c4
  clear c4
  obtain rfl := Option.some.inj H
  go_enter Try.func153, Try.ntmps153
  go_wp2
  go_ret
  exact ⟨er, drw⟩

/-! ### spec_l8Tag: function 172 -/
def spec_l8Tag.l0 : Nat → ByteArray → Int → Int → Option (Int)
  | 0, _, _, _ => none
  | k + 1, x0, x3, x4 => if x4 < (x0.size : Int) then (if 0 ≤ x4 then (spec_l8Tag.l0 k x0 (Int.tmod (wrap64 ((wrap64 ((wrap64 (257 * x3)) + (wrap64 (bt x0 x4)))) + 1)) 4093) (wrap64 (x4 + 1))) else (none)) else (some x3)
def spec_l8Tag.f (k : Nat) (a0 : ByteArray) : Option (Int) := spec_l8Tag.l0 k a0 0 0
theorem spec_l8Tag.mono_l : ∀ k, (∀ y0 y1 y2, LeO (spec_l8Tag.l0 k y0 y1 y2) (spec_l8Tag.l0 (k + 1) y0 y1 y2))
 | 0 => fun _ _ _ r h => by simp [spec_l8Tag.l0] at h
 | k + 1 => by
  have ih0 := spec_l8Tag.mono_l k
  ·intro y0 y1 y2
   unfold spec_l8Tag.l0
   repeat' (first | (with_reducible first | exact ih0 _ _ _ | exact LeO.refl _ | exact LeO.none _ | refine LeO.ite ?_ ?_ | refine LeO.bind ?_ (fun _ => ?_)) | exact ih0 _ _ _ | exact LeO.none _ | refine LeO.ite ?_ ?_ | refine LeO.bind ?_ (fun _ => ?_))
theorem spec_l8Tag.mono : ∀ a0 k, LeO (spec_l8Tag.f k a0) (spec_l8Tag.f (k + 1) a0) := by
 intro a0 k
 have ih0 := spec_l8Tag.mono_l k
 unfold spec_l8Tag.f
 repeat' (first | (with_reducible first | exact ih0 _ _ _ | exact LeO.refl _ | exact LeO.none _ | refine LeO.ite ?_ ?_ | refine LeO.bind ?_ (fun _ => ?_)) | exact ih0 _ _ _ | exact LeO.none _ | refine LeO.ite ?_ ?_ | refine LeO.bind ?_ (fun _ => ?_))
set_option maxHeartbeats 8000000 in
set_option maxRecDepth 100000 in
theorem spec_l8Tag.calls (k : Nat) (a0 : ByteArray) (r : Int) (w : World) (h : spec_l8Tag.f k a0 = some r) :
  Calls Try.prog 172 #[.string a0] w fun e w' => e = .returned (.int .i64 r) ∧ Drawn0 w w' := by
 have H : (spec_l8Tag.l0 k a0 0 0) = some r := h
 clear h
 have H' := Aside0.mk H
 clear H
 go_enter Try.func172, Try.ntmps172
 go_wp2
 go_loopg [3, 4] k (fun kq v3 v4 w' => ∃ (x3_1 : Int) (x4_1 : Int), v3 = .int .i64 x3_1 ∧ v4 = .int .i64 x4_1 ∧ Aside0 (spec_l8Tag.l0 kq a0 x3_1 x4_1 = some r) ∧ Aside0 (kq ≤ k) ∧ Drawn0 w w')
 case atStart => exact ⟨(0), (0), er, er, H', ⟨Nat.le_refl _⟩, drw⟩
 case round =>
  clear H'
  obtain ⟨x3_1, x4_1, rfl, rfl, HA, HK1, ⟨m1, rfl⟩⟩ := hrel
  cases gk with
  | zero => exact absurd HA.out (by simp [spec_l8Tag.l0])
  | succ k1 =>
   have H := HA.out; clear HA
   simp only [spec_l8Tag.l0] at H
   by_cases c2 : x4_1 < (a0.size : Int)
   ·rw [if_pos c2] at H
    have c2b0 : decide (x4_1 < (a0.size : Int)) = true := decide_eq_true c2
    clear c2; replace H := ifS H; obtain ⟨c3, H⟩ := H; have c3b0 := decide_eq_true c3; clear c3
    have H' := Aside0.mk H
    clear H
    have p4 : 0 ≤ (x4_1 : Int) := da
    have q4 : x4_1 < (a0.size : Int) := da
    have hx4 := bt_at a0 x4_1
    replace p4 := eq_true p4; replace q4 := eq_true q4; go_wp2
    go_roundg k1
    case measure => have := HK1.out; omega
    case rel => exact ⟨(Int.tmod (wrap64 ((wrap64 ((wrap64 (257 * x3_1)) + (wrap64 (bt a0 x4_1)))) + 1)) 4093), (wrap64 (x4_1 + 1)), er, er, H', ⟨by have := HK1.out; omega⟩, drw⟩
   ·rw [if_neg c2] at H
    have c2b0 : decide (x4_1 < (a0.size : Int)) = false := decide_eq_false c2
    clear c2
    obtain rfl := Option.some.inj H
    go_wp2
    go_ret
    exact ⟨er, drw⟩

/-! ### spec_l1Has: function 173 -/
def spec_l1Has.l0 : Nat → Int → List Int → Int → Int → Option (Bool)
  | 0, _, _, _, _ => none
  | k + 1, x1, x7, x8, x9 => if x9 < x8 then (if 0 ≤ x9 then (if x9 < (x7.length : Int) then (if (rd x7 x9) = x1 then (some true) else (spec_l1Has.l0 k x1 x7 x8 (wrap64 (x9 + 1)))) else (none)) else (none)) else (some false)
def spec_l1Has.f (k : Nat) (l0 : List Int) (a1 : Int) : Option (Bool) := spec_l1Has.l0 k a1 l0 (l0.length : Int) 0
theorem spec_l1Has.mono_l : ∀ k, (∀ y0 y1 y2 y3, LeO (spec_l1Has.l0 k y0 y1 y2 y3) (spec_l1Has.l0 (k + 1) y0 y1 y2 y3))
 | 0 => fun _ _ _ _ r h => by simp [spec_l1Has.l0] at h
 | k + 1 => by
  have ih0 := spec_l1Has.mono_l k
  ·intro y0 y1 y2 y3
   unfold spec_l1Has.l0
   repeat' (first | (with_reducible first | exact ih0 _ _ _ _ | exact LeO.refl _ | exact LeO.none _ | refine LeO.ite ?_ ?_ | refine LeO.bind ?_ (fun _ => ?_)) | exact ih0 _ _ _ _ | exact LeO.none _ | refine LeO.ite ?_ ?_ | refine LeO.bind ?_ (fun _ => ?_))
theorem spec_l1Has.mono : ∀ a0 a1 k, LeO (spec_l1Has.f k a0 a1) (spec_l1Has.f (k + 1) a0 a1) := by
 intro a0 a1 k
 have ih0 := spec_l1Has.mono_l k
 unfold spec_l1Has.f
 repeat' (first | (with_reducible first | exact ih0 _ _ _ _ | exact LeO.refl _ | exact LeO.none _ | refine LeO.ite ?_ ?_ | refine LeO.bind ?_ (fun _ => ?_)) | exact ih0 _ _ _ _ | exact LeO.none _ | refine LeO.ite ?_ ?_ | refine LeO.bind ?_ (fun _ => ?_))
set_option maxHeartbeats 8000000 in
set_option maxRecDepth 100000 in
theorem spec_l1Has.calls (k : Nat) (A0 : Option Addr) (c0 : Nat) (l0 : List Int) (a1 : Int) (r : Bool) (w : World) (hr0 : Kd.C (Kd.int .i64) w A0 l0.length l0) (hc0 : l0.length ≤ c0) (h : spec_l1Has.f k l0 a1 = some r) :
  Calls Try.prog 173 #[.slice A0 l0.length c0, .int .i64 a1] w fun e w' => e = .returned (.bool r) ∧ Drawn0 w w' := by
 have HR0 := Aside0.mk hr0; have HC0 := Aside0.mk hc0; clear hr0 hc0
 have H : (spec_l1Has.l0 k a1 l0 (l0.length : Int) 0) = some r := h
 clear h
 have H' := Aside0.mk H
 clear H
 go_enter Try.func173, Try.ntmps173
 go_wp2
 go_loopg [9] k (fun kq v9 w' => ∃ (x9_1 : Int), v9 = .int .i64 x9_1 ∧ Aside0 (spec_l1Has.l0 kq a1 l0 (l0.length : Int) x9_1 = some r) ∧ Aside0 (kq ≤ k) ∧ Drawn0 w w')
 case atStart => exact ⟨(0), er, H', ⟨Nat.le_refl _⟩, drw⟩
 case round =>
  clear H'
  obtain ⟨x9_1, rfl, HA, HK1, ⟨m1, rfl⟩⟩ := hrel
  cases gk with
  | zero => exact absurd HA.out (by simp [spec_l1Has.l0])
  | succ k1 =>
   have H := HA.out; clear HA
   simp only [spec_l1Has.l0] at H
   by_cases c3 : x9_1 < (l0.length : Int)
   ·rw [if_pos c3] at H
    have c3b0 : decide (x9_1 < (l0.length : Int)) = true := decide_eq_true c3
    clear c3; replace H := ifS H; obtain ⟨c4, H⟩ := H; have c4b0 := decide_eq_true c4; clear c4; replace H := ifS H; obtain ⟨c5, H⟩ := H; have c5b0 := decide_eq_true c5; clear c5
    by_cases c6 : (rd l0 x9_1) = a1
    ·rw [if_pos c6] at H
     have c6b0 : ((rd l0 x9_1) == a1) = true := beq_iff_eq.mpr c6
     have c6b1 : ((rd l0 x9_1) != a1) = false := bne_eq_false_iff_eq.mpr c6
     clear c6
     obtain rfl := Option.some.inj H
     have p107 : 0 ≤ (x9_1 : Int) := da
     have q107 : x9_1 < (l0.length : Int) := da
     obtain ⟨ad107, e107, hx107_0⟩ := Kd.at_int HR0.out x9_1 p107 q107
     cases e107
     replace p107 := eq_true p107; replace q107 := eq_true q107; go_wp2
     go_ret
     exact ⟨er, drw⟩
    ·rw [if_neg c6] at H
     have c6b0 : ((rd l0 x9_1) == a1) = false := beq_eq_false_iff_ne.mpr c6
     have c6b1 : ((rd l0 x9_1) != a1) = true := bne_iff_ne.mpr c6
     have H' := Aside0.mk H
     clear H
     have p107 : 0 ≤ (x9_1 : Int) := da
     have q107 : x9_1 < (l0.length : Int) := da
     obtain ⟨ad107, e107, hx107_0⟩ := Kd.at_int HR0.out x9_1 p107 q107
     cases e107
     replace p107 := eq_true p107; replace q107 := eq_true q107; go_wp2
     go_roundg k1
     case measure => have := HK1.out; omega
     case rel => exact ⟨(wrap64 (x9_1 + 1)), er, H', ⟨by have := HK1.out; omega⟩, drw⟩
   ·rw [if_neg c3] at H
    have c3b0 : decide (x9_1 < (l0.length : Int)) = false := decide_eq_false c3
    clear c3
    obtain rfl := Option.some.inj H
    go_wp2
    go_ret
    exact ⟨er, drw⟩

/-! ### spec_l1Rising: function 174 -/
def spec_l1Rising.l0 : Nat → List Int → Int → Int → List Int → Int → Int → Option (Bool)
  | 0, _, _, _, _, _, _ => none
  | k + 1, x0, x1, x2, x9, x10, x11 => if x11 < x10 then (if 0 ≤ x11 then (if x11 < (x9.length : Int) then ((spec_l1In.f (rd x9 x11) x1 x2).bind fun t109 => (if t109 = true then (if x11 > 0 then (if 0 ≤ (wrap64 (x11 - 1)) then (if (wrap64 (x11 - 1)) < (x0.length : Int) then (if (rd x0 (wrap64 (x11 - 1))) ≥ (rd x9 x11) then (some false) else (spec_l1Rising.l0 k x0 x1 x2 x9 x10 (wrap64 (x11 + 1)))) else (none)) else (none)) else (spec_l1Rising.l0 k x0 x1 x2 x9 x10 (wrap64 (x11 + 1)))) else (some false))) else (none)) else (none)) else (some true)
def spec_l1Rising.f (k : Nat) (l0 : List Int) (a1 : Int) (a2 : Int) : Option (Bool) := spec_l1Rising.l0 k l0 a1 a2 l0 (l0.length : Int) 0
theorem spec_l1Rising.mono_l : ∀ k, (∀ y0 y1 y2 y3 y4 y5, LeO (spec_l1Rising.l0 k y0 y1 y2 y3 y4 y5) (spec_l1Rising.l0 (k + 1) y0 y1 y2 y3 y4 y5))
 | 0 => fun _ _ _ _ _ _ r h => by simp [spec_l1Rising.l0] at h
 | k + 1 => by
  have ih0 := spec_l1Rising.mono_l k
  ·intro y0 y1 y2 y3 y4 y5
   unfold spec_l1Rising.l0
   repeat' (first | (with_reducible first | exact ih0 _ _ _ _ _ _ | exact LeO.refl _ | exact LeO.none _ | refine LeO.ite ?_ ?_ | refine LeO.bind ?_ (fun _ => ?_)) | exact ih0 _ _ _ _ _ _ | exact LeO.none _ | refine LeO.ite ?_ ?_ | refine LeO.bind ?_ (fun _ => ?_))
theorem spec_l1Rising.mono : ∀ a0 a1 a2 k, LeO (spec_l1Rising.f k a0 a1 a2) (spec_l1Rising.f (k + 1) a0 a1 a2) := by
 intro a0 a1 a2 k
 have ih0 := spec_l1Rising.mono_l k
 unfold spec_l1Rising.f
 repeat' (first | (with_reducible first | exact ih0 _ _ _ _ _ _ | exact LeO.refl _ | exact LeO.none _ | refine LeO.ite ?_ ?_ | refine LeO.bind ?_ (fun _ => ?_)) | exact ih0 _ _ _ _ _ _ | exact LeO.none _ | refine LeO.ite ?_ ?_ | refine LeO.bind ?_ (fun _ => ?_))
set_option maxHeartbeats 8000000 in
set_option maxRecDepth 100000 in
theorem spec_l1Rising.calls (k : Nat) (A0 : Option Addr) (c0 : Nat) (l0 : List Int) (a1 : Int) (a2 : Int) (r : Bool) (w : World) (hr0 : Kd.C (Kd.int .i64) w A0 l0.length l0) (hc0 : l0.length ≤ c0) (h : spec_l1Rising.f k l0 a1 a2 = some r) :
  Calls Try.prog 174 #[.slice A0 l0.length c0, .int .i64 a1, .int .i64 a2] w fun e w' => e = .returned (.bool r) ∧ Drawn0 w w' := by
 have HR0 := Aside0.mk hr0; have HC0 := Aside0.mk hc0; clear hr0 hc0
 have H : (spec_l1Rising.l0 k l0 a1 a2 l0 (l0.length : Int) 0) = some r := h
 clear h
 have H' := Aside0.mk H
 clear H
 go_enter Try.func174, Try.ntmps174
 go_wp2
 go_loopg [11] k (fun kq v11 w' => ∃ (x11_1 : Int), v11 = .int .i64 x11_1 ∧ Aside0 (spec_l1Rising.l0 kq l0 a1 a2 l0 (l0.length : Int) x11_1 = some r) ∧ Aside0 (kq ≤ k) ∧ Drawn0 w w')
 case atStart => exact ⟨(0), er, H', ⟨Nat.le_refl _⟩, drw⟩
 case round =>
  clear H'
  obtain ⟨x11_1, rfl, HA, HK1, ⟨m1, rfl⟩⟩ := hrel
  cases gk with
  | zero => exact absurd HA.out (by simp [spec_l1Rising.l0])
  | succ k1 =>
   have H := HA.out; clear HA
   simp only [spec_l1Rising.l0] at H
   by_cases c4 : x11_1 < (l0.length : Int)
   ·rw [if_pos c4] at H
    have c4b0 : decide (x11_1 < (l0.length : Int)) = true := decide_eq_true c4
    clear c4; replace H := ifS H; obtain ⟨c5, H⟩ := H; have c5b0 := decide_eq_true c5; clear c5; replace H := ifS H; obtain ⟨c6, H⟩ := H; have c6b0 := decide_eq_true c6; clear c6; replace H := bS H; obtain ⟨t109, A7, H⟩ := H
    replace H : (if t109 = true then (if x11_1 > 0 then (if 0 ≤ (wrap64 (x11_1 - 1)) then (if (wrap64 (x11_1 - 1)) < (l0.length : Int) then (if (rd l0 (wrap64 (x11_1 - 1))) ≥ (rd l0 x11_1) then (some false) else (spec_l1Rising.l0 k1 l0 a1 a2 l0 (l0.length : Int) (wrap64 (x11_1 + 1)))) else (none)) else (none)) else (spec_l1Rising.l0 k1 l0 a1 a2 l0 (l0.length : Int) (wrap64 (x11_1 + 1)))) else (some false)) = some r := H
    by_cases c8 : t109 = true
    ·subst c8
     have H1 : (if x11_1 > 0 then (if 0 ≤ (wrap64 (x11_1 - 1)) then (if (wrap64 (x11_1 - 1)) < (l0.length : Int) then (if (rd l0 (wrap64 (x11_1 - 1))) ≥ (rd l0 x11_1) then (some false) else (spec_l1Rising.l0 k1 l0 a1 a2 l0 (l0.length : Int) (wrap64 (x11_1 + 1)))) else (none)) else (none)) else (spec_l1Rising.l0 k1 l0 a1 a2 l0 (l0.length : Int) (wrap64 (x11_1 + 1)))) = some r := by rw [if_pos rfl] at H; exact H
     clear H
     have H := H1
     clear H1
     by_cases c9 : x11_1 > 0
     ·rw [if_pos c9] at H
      have c9b0 : decide (0 < x11_1) = true := decide_eq_true c9
      clear c9
      obtain ⟨ji10, hji10⟩ : ∃ j_ : Int, (wrap64 (x11_1 - 1)) = j_ := ⟨_, rfl⟩
      replace H : (if 0 ≤ (ji10) then (if (ji10) < (l0.length : Int) then (if (rd l0 (ji10)) ≥ (rd l0 x11_1) then (some false) else (spec_l1Rising.l0 k1 l0 a1 a2 l0 (l0.length : Int) (wrap64 (x11_1 + 1)))) else (none)) else (none)) = some r := by first | (rw [hji10] at H; exact H) | (simp only [hji10] at H ⊢; exact H)
      (try rw [hji10] at A7)
      have hji10w : (IntKind.i64.wrap (x11_1 - 1)) = ji10 := (i64_w _).trans hji10
      replace H := ifS H; obtain ⟨c11, H⟩ := H; have c11b0 := decide_eq_true c11; clear c11; replace H := ifS H; obtain ⟨c12, H⟩ := H; have c12b0 := decide_eq_true c12; clear c12
      by_cases c13 : (rd l0 (ji10)) ≥ (rd l0 x11_1)
      ·rw [if_pos c13] at H
       have c13b0 : decide ((rd l0 x11_1) ≤ (rd l0 (ji10))) = true := decide_eq_true c13
       clear c13
       obtain rfl := Option.some.inj H
       have p108 : 0 ≤ (x11_1 : Int) := da
       have q108 : x11_1 < (l0.length : Int) := da
       obtain ⟨ad108, e108, hx108_0⟩ := Kd.at_int HR0.out x11_1 p108 q108
       cases e108
       replace p108 := eq_true p108; replace q108 := eq_true q108
       go_wp2_with (first | ((with_reducible refine gate_callee (f := 153) rfl ?_); refine goesLa (some 19) rfl Try.func153 #[.int .i64 (rd l0 x11_1), .int .i64 a1, .int .i64 a2] rfl ?_; (with_reducible refine (spec_l1In.calls (rd l0 x11_1) a1 a2 true _ A7.out).mono ?_); rintro e w' ⟨rfl, ⟨nd, rfl⟩⟩; refine ⟨_, rfl, ?_⟩; have p110 : 0 ≤ ((ji10) : Int) := da; have q110 : (ji10) < (l0.length : Int) := da; obtain ⟨ad110, e110, hx110_0⟩ := Kd.at_int HR0.out (ji10) p110 q110; obtain rfl : ad108 = ad110 := (by injection e110); replace p110 := eq_true p110; replace q110 := eq_true q110))
       go_ret
       exact ⟨by first | rfl | (simp; done) | (simp only [← hji10] <;> (first | rfl | simp)) | (simp [*]; done), drw⟩
      ·rw [if_neg c13] at H
       have c13b0 : decide ((rd l0 x11_1) ≤ (rd l0 (ji10))) = false := decide_eq_false c13
       clear c13
       have H' := Aside0.mk H
       clear H
       have p108 : 0 ≤ (x11_1 : Int) := da
       have q108 : x11_1 < (l0.length : Int) := da
       obtain ⟨ad108, e108, hx108_0⟩ := Kd.at_int HR0.out x11_1 p108 q108
       cases e108
       replace p108 := eq_true p108; replace q108 := eq_true q108
       go_wp2_with (first | ((with_reducible refine gate_callee (f := 153) rfl ?_); refine goesLa (some 19) rfl Try.func153 #[.int .i64 (rd l0 x11_1), .int .i64 a1, .int .i64 a2] rfl ?_; (with_reducible refine (spec_l1In.calls (rd l0 x11_1) a1 a2 true _ A7.out).mono ?_); rintro e w' ⟨rfl, ⟨nd, rfl⟩⟩; refine ⟨_, rfl, ?_⟩; have p110 : 0 ≤ ((ji10) : Int) := da; have q110 : (ji10) < (l0.length : Int) := da; obtain ⟨ad110, e110, hx110_0⟩ := Kd.at_int HR0.out (ji10) p110 q110; obtain rfl : ad108 = ad110 := (by injection e110); replace p110 := eq_true p110; replace q110 := eq_true q110))
       go_roundg k1
       case measure => have := HK1.out; omega
       case rel => exact ⟨(wrap64 (x11_1 + 1)), er, H', ⟨by have := HK1.out; omega⟩, drw⟩
     ·rw [if_neg c9] at H
      have c9b0 : decide (0 < x11_1) = false := decide_eq_false c9
      clear c9
      have H' := Aside0.mk H
      clear H
      have p108 : 0 ≤ (x11_1 : Int) := da
      have q108 : x11_1 < (l0.length : Int) := da
      obtain ⟨ad108, e108, hx108_0⟩ := Kd.at_int HR0.out x11_1 p108 q108
      cases e108
      replace p108 := eq_true p108; replace q108 := eq_true q108
      go_wp2_with (first | ((with_reducible refine gate_callee (f := 153) rfl ?_); refine goesLa (some 19) rfl Try.func153 #[.int .i64 (rd l0 x11_1), .int .i64 a1, .int .i64 a2] rfl ?_; (with_reducible refine (spec_l1In.calls (rd l0 x11_1) a1 a2 true _ A7.out).mono ?_); rintro e w' ⟨rfl, ⟨nd, rfl⟩⟩; refine ⟨_, rfl, ?_⟩))
      go_roundg k1
      case measure => have := HK1.out; omega
      case rel => exact ⟨(wrap64 (x11_1 + 1)), er, H', ⟨by have := HK1.out; omega⟩, drw⟩
    ·replace c8 := Bool.eq_false_iff.mpr c8
     subst c8
     have H1 : (some false) = some r := by rw [if_neg (show ¬ (false = true) by decide)] at H; exact H
     clear H
     have H := H1
     clear H1
     obtain rfl := Option.some.inj H
     have p108 : 0 ≤ (x11_1 : Int) := da
     have q108 : x11_1 < (l0.length : Int) := da
     obtain ⟨ad108, e108, hx108_0⟩ := Kd.at_int HR0.out x11_1 p108 q108
     cases e108
     replace p108 := eq_true p108; replace q108 := eq_true q108
     go_wp2_with (first | ((with_reducible refine gate_callee (f := 153) rfl ?_); refine goesLa (some 19) rfl Try.func153 #[.int .i64 (rd l0 x11_1), .int .i64 a1, .int .i64 a2] rfl ?_; (with_reducible refine (spec_l1In.calls (rd l0 x11_1) a1 a2 false _ A7.out).mono ?_); rintro e w' ⟨rfl, ⟨nd, rfl⟩⟩; refine ⟨_, rfl, ?_⟩))
     go_ret
     exact ⟨er, drw⟩
   ·rw [if_neg c4] at H
    have c4b0 : decide (x11_1 < (l0.length : Int)) = false := decide_eq_false c4
    clear c4
    obtain rfl := Option.some.inj H
    go_wp2
    go_ret
    exact ⟨er, drw⟩

/-! ### spec_GoodMix: function 94 -/
def spec_GoodMix.l0 : Nat → List Int → List ByteArray → Int → Int → List ByteArray → Int → Int → Int → List Int → Option (Bool)
  | 0, _, _, _, _, _, _, _, _, _ => none
  | k + 1, x3, x8, x9, x10, x112000, x112001, x112002, x112003, x112004 => if x10 < x9 then (if 0 ≤ x10 then (if x10 < (x8.length : Int) then ((spec_l8Tag.f k (rdOf ByteArray.empty x8 x10)).bind fun t113 => (if x10 > 0 then (if 0 ≤ (wrap64 (x10 - 1)) then (if (wrap64 (x10 - 1)) < (x112000.length : Int) then (if (Op.bytesLess ((rdOf ByteArray.empty x8 x10).toList) ((rdOf ByteArray.empty x112000 (wrap64 (x10 - 1))).toList)) = true then (some false) else ((spec_l1Has.f k x112004 t113).bind fun t115 => (if t115 = true then ((spec_l1Has.f k x3 t113).bind fun t116 => (if t116 = true then (some false) else (if x3.length < 17592186044416 then (spec_GoodMix.l0 k (x3 ++ [t113]) x8 x9 (wrap64 (x10 + 1)) x112000 x112001 x112002 x112003 x112004) else (none)))) else (some false)))) else (none)) else (none)) else ((spec_l1Has.f k x112004 t113).bind fun t120 => (if t120 = true then ((spec_l1Has.f k x3 t113).bind fun t121 => (if t121 = true then (some false) else (if x3.length < 17592186044416 then (spec_GoodMix.l0 k (x3 ++ [t113]) x8 x9 (wrap64 (x10 + 1)) x112000 x112001 x112002 x112003 x112004) else (none)))) else (some false))))) else (none)) else (none)) else ((spec_l8Pool.f k x112000).bind fun t125 => (if t125 = true then ((spec_l1In.f x112001 1 12).bind fun t126 => (if t126 = true then ((spec_l1In.f x112002 1 10).bind fun t127 => (if t127 = true then ((spec_l1In.f x112003 0 10).bind fun t128 => (if t128 = true then (if (x112000.length : Int) > 0 then ((spec_l1Rising.f k x112004 0 4092).bind fun t129 => (if t129 = true then (some (decide ((x112004.length : Int) ≤ 100))) else (some false))) else (if x112003 = 0 then ((spec_l1Rising.f k x112004 0 4092).bind fun t130 => (if t130 = true then (some (decide ((x112004.length : Int) ≤ 100))) else (some false))) else (some false))) else (some false))) else (some false))) else (some false))) else (some false)))
def spec_GoodMix.f (k : Nat) (l0_0 : List ByteArray) (a0_1 : Int) (a0_2 : Int) (a0_3 : Int) (l0_4 : List Int) : Option (Bool) := spec_GoodMix.l0 k ([] : List Int) l0_0 (l0_0.length : Int) 0 l0_0 a0_1 a0_2 a0_3 l0_4
theorem spec_GoodMix.mono_l : ∀ k, (∀ y0 y1 y2 y3 y4 y5 y6 y7 y8, LeO (spec_GoodMix.l0 k y0 y1 y2 y3 y4 y5 y6 y7 y8) (spec_GoodMix.l0 (k + 1) y0 y1 y2 y3 y4 y5 y6 y7 y8))
 | 0 => fun _ _ _ _ _ _ _ _ _ r h => by simp [spec_GoodMix.l0] at h
 | k + 1 => by
  have ih0 := spec_GoodMix.mono_l k
  ·intro y0 y1 y2 y3 y4 y5 y6 y7 y8
   unfold spec_GoodMix.l0
   repeat' (first | (with_reducible first | exact ih0 _ _ _ _ _ _ _ _ _ | exact spec_l1Has.mono _ _ _ | exact spec_l1Rising.mono _ _ _ _ | exact spec_l8Pool.mono _ _ | exact spec_l8Tag.mono _ _ | exact LeO.refl _ | exact LeO.none _ | refine LeO.ite ?_ ?_ | refine LeO.bind ?_ (fun _ => ?_)) | exact ih0 _ _ _ _ _ _ _ _ _ | exact spec_l1Has.mono _ _ _ | exact spec_l1Rising.mono _ _ _ _ | exact spec_l8Pool.mono _ _ | exact spec_l8Tag.mono _ _ | exact LeO.none _ | refine LeO.ite ?_ ?_ | refine LeO.bind ?_ (fun _ => ?_))
theorem spec_GoodMix.mono : ∀ a0 a1 a2 a3 a4 k, LeO (spec_GoodMix.f k a0 a1 a2 a3 a4) (spec_GoodMix.f (k + 1) a0 a1 a2 a3 a4) := by
 intro a0 a1 a2 a3 a4 k
 have ih0 := spec_GoodMix.mono_l k
 unfold spec_GoodMix.f
 repeat' (first | (with_reducible first | exact ih0 _ _ _ _ _ _ _ _ _ | exact spec_l1Has.mono _ _ _ | exact spec_l1Rising.mono _ _ _ _ | exact spec_l8Pool.mono _ _ | exact spec_l8Tag.mono _ _ | exact LeO.refl _ | exact LeO.none _ | refine LeO.ite ?_ ?_ | refine LeO.bind ?_ (fun _ => ?_)) | exact ih0 _ _ _ _ _ _ _ _ _ | exact spec_l1Has.mono _ _ _ | exact spec_l1Rising.mono _ _ _ _ | exact spec_l8Pool.mono _ _ | exact spec_l8Tag.mono _ _ | exact LeO.none _ | refine LeO.ite ?_ ?_ | refine LeO.bind ?_ (fun _ => ?_))
set_option maxHeartbeats 8000000 in
set_option maxRecDepth 100000 in
theorem spec_GoodMix.calls (k : Nat) (A0_0 : Option Addr) (c0_0 : Nat) (l0_0 : List ByteArray) (a0_1 : Int) (a0_2 : Int) (a0_3 : Int) (A0_4 : Option Addr) (c0_4 : Nat) (l0_4 : List Int) (r : Bool) (w : World) (hr0_0 : Kd.C Kd.string w A0_0 l0_0.length l0_0) (hc0_0 : l0_0.length ≤ c0_0) (hr0_4 : Kd.C (Kd.int .i64) w A0_4 l0_4.length l0_4) (hc0_4 : l0_4.length ≤ c0_4) (h : spec_GoodMix.f k l0_0 a0_1 a0_2 a0_3 l0_4 = some r) :
  Calls Try.prog 94 #[.agg #[.slice A0_0 l0_0.length c0_0, .int .i64 a0_1, .int .i64 a0_2, .int .i64 a0_3, .slice A0_4 l0_4.length c0_4]] w fun e w' => e = .returned (.bool r) ∧ Below w.heap.size w w' := by
 have hu27 := Try.underlying27
 have HR0_0 := Aside0.mk hr0_0; have HC0_0 := Aside0.mk hc0_0; clear hr0_0 hc0_0; have HR0_4 := Aside0.mk hr0_4; have HC0_4 := Aside0.mk hc0_4; clear hr0_4 hc0_4
 have HB := Aside0.mk (Below.refl w.heap.size w)
 have H : (spec_GoodMix.l0 k ([] : List Int) l0_0 (l0_0.length : Int) 0 l0_0 a0_1 a0_2 a0_3 l0_4) = some r := h
 clear h
 have H' := Aside0.mk H
 clear H
 go_enter Try.func94, Try.ntmps94
 go_wp2_with (first | ((with_reducible refine gate_dst (N := 1) rfl ?_); (try (refine gate_guard (by rfl) ?_; dsimp only)); refine boxev 1 #[.slice A0_0 l0_0.length c0_0, .int .i64 a0_1, .int .i64 a0_2, .int .i64 a0_3, .slice A0_4 l0_4.length c0_4] 27 ?_; intro gb111 hg w2 hbox hb; have BK111 := ak (hbox); have GW111 := ak (hgl hg (belowd HB)); have GE111 := ak (hgl hg (belowd HB)); replace HB := ak (below_step (belowd HB) hb); clear hb hbox hg; obtain ⟨hcz3_0, hcz3_1, hcz3_2, hcz3_3, hcz3_4, hfz3_0, hfz3_1, hfz3_2, hfz3_3, hfz3_4⟩ := box5 BK111))
 go_loopg [3, 10] k (fun kq v3 v10 w' => ∃ (x3_1 : List Int) (x10_1 : Int), v10 = .int .i64 x10_1 ∧ Aside0 (spec_GoodMix.l0 kq x3_1 l0_0 (l0_0.length : Int) x10_1 l0_0 a0_1 a0_2 a0_3 l0_4 = some r) ∧ Aside0 (kq ≤ k) ∧ Aside0 (Kd.R (Kd.int .i64) 3 w' w.heap.size (fun _ => True) v3 x3_1) ∧ Aside0 (w'.heap[gb111]? = some (.cells #[(.slice A0_0 l0_0.length c0_0), .int .i64 a0_1, .int .i64 a0_2, .int .i64 a0_3, (.slice A0_4 l0_4.length c0_4)] 27 (0, 0))) ∧ Aside0 (Below w.heap.size w w'))
 case atStart => exact ⟨(([] : List Int)), (0), er, H', ⟨Nat.le_refl _⟩, ⟨by first | exact Kd.R_nil _ _ _ _ _ | exact Kd.N_nil _ _ _ _ _ | exact Kd.V_nil _ _ _ _ _ | exact Kd.Q_nil _ _ _ _ _ | exact Kd.S_nil _ _ _ _ _⟩, ⟨blkd BK111⟩, ⟨belowg1 HB GE111⟩⟩
 case round =>
  clear H'
  (try clear hcz3_0); (try clear hcz3_1); (try clear hcz3_2); (try clear hcz3_3); (try clear hcz3_4); (try clear hfz3_0); (try clear hfz3_1); (try clear hfz3_2); (try clear hfz3_3); (try clear hfz3_4)
  obtain ⟨x3_1, x10_1, rfl, HA, HK1, HO_3, BK111, HB⟩ := hrel
  cases gk with
  | zero => exact absurd HA.out (by simp [spec_GoodMix.l0])
  | succ k1 =>
   have H := HA.out; clear HA
   simp only [spec_GoodMix.l0] at H
   by_cases c4 : x10_1 < (l0_0.length : Int)
   ·rw [if_pos c4] at H
    have c4b0 : decide (x10_1 < (l0_0.length : Int)) = true := decide_eq_true c4
    clear c4; replace H := ifS H; obtain ⟨c5, H⟩ := H; have c5b0 := decide_eq_true c5; clear c5; replace H := ifS H; obtain ⟨c6, H⟩ := H; have c6b0 := decide_eq_true c6; clear c6; replace H := bS H; obtain ⟨t113, A7, H⟩ := H
    replace H : (if x10_1 > 0 then (if 0 ≤ (wrap64 (x10_1 - 1)) then (if (wrap64 (x10_1 - 1)) < (l0_0.length : Int) then (if (Op.bytesLess ((rdOf ByteArray.empty l0_0 x10_1).toList) ((rdOf ByteArray.empty l0_0 (wrap64 (x10_1 - 1))).toList)) = true then (some false) else ((spec_l1Has.f k1 l0_4 t113).bind fun t115 => (if t115 = true then ((spec_l1Has.f k1 x3_1 t113).bind fun t116 => (if t116 = true then (some false) else (if x3_1.length < 17592186044416 then (spec_GoodMix.l0 k1 (x3_1 ++ [t113]) l0_0 (l0_0.length : Int) (wrap64 (x10_1 + 1)) l0_0 a0_1 a0_2 a0_3 l0_4) else (none)))) else (some false)))) else (none)) else (none)) else ((spec_l1Has.f k1 l0_4 t113).bind fun t120 => (if t120 = true then ((spec_l1Has.f k1 x3_1 t113).bind fun t121 => (if t121 = true then (some false) else (if x3_1.length < 17592186044416 then (spec_GoodMix.l0 k1 (x3_1 ++ [t113]) l0_0 (l0_0.length : Int) (wrap64 (x10_1 + 1)) l0_0 a0_1 a0_2 a0_3 l0_4) else (none)))) else (some false)))) = some r := H
    by_cases c8 : x10_1 > 0
    ·rw [if_pos c8] at H
     have c8b0 : decide (0 < x10_1) = true := decide_eq_true c8
     clear c8
     obtain ⟨ji9, hji9⟩ : ∃ j_ : Int, (wrap64 (x10_1 - 1)) = j_ := ⟨_, rfl⟩
     replace H : (if 0 ≤ (ji9) then (if (ji9) < (l0_0.length : Int) then (if (Op.bytesLess ((rdOf ByteArray.empty l0_0 x10_1).toList) ((rdOf ByteArray.empty l0_0 (ji9)).toList)) = true then (some false) else ((spec_l1Has.f k1 l0_4 t113).bind fun t115 => (if t115 = true then ((spec_l1Has.f k1 x3_1 t113).bind fun t116 => (if t116 = true then (some false) else (if x3_1.length < 17592186044416 then (spec_GoodMix.l0 k1 (x3_1 ++ [t113]) l0_0 (l0_0.length : Int) (wrap64 (x10_1 + 1)) l0_0 a0_1 a0_2 a0_3 l0_4) else (none)))) else (some false)))) else (none)) else (none)) = some r := by first | (rw [hji9] at H; exact H) | (simp only [hji9] at H ⊢; exact H)
     (try rw [hji9] at A7)
     have hji9w : (IntKind.i64.wrap (x10_1 - 1)) = ji9 := (i64_w _).trans hji9
     replace H := ifS H; obtain ⟨c10, H⟩ := H; have c10b0 := decide_eq_true c10; clear c10; replace H := ifS H; obtain ⟨c11, H⟩ := H; have c11b0 := decide_eq_true c11; clear c11
     by_cases c12 : (Op.bytesLess ((rdOf ByteArray.empty l0_0 x10_1).toList) ((rdOf ByteArray.empty l0_0 (ji9)).toList)) = true
     ·rw [if_pos c12] at H
      have c12b0 : (Op.bytesLess ((rdOf ByteArray.empty l0_0 x10_1).toList) ((rdOf ByteArray.empty l0_0 (ji9)).toList)) = true := c12
      clear c12
      obtain rfl := Option.some.inj H
      have p112 : 0 ≤ (x10_1 : Int) := da
      have q112 : x10_1 < (l0_0.length : Int) := da
      obtain ⟨ad112, e112, hx112_0⟩ := Kd.at_string HR0_0.out x10_1 p112 q112
      cases e112
      replace hx112_0 := (HB.out.cell (World.block_lt_of_cell? w _ hx112_0)).trans hx112_0
      replace p112 := eq_true p112; replace q112 := eq_true q112
      go_wp2_with (first | ((with_reducible refine gate_callee (f := 172) rfl ?_); refine goesLa (some 16) rfl Try.func172 #[.string (rdOf ByteArray.empty l0_0 x10_1)] rfl ?_; (with_reducible refine (spec_l8Tag.calls k1 (rdOf ByteArray.empty l0_0 x10_1) t113 _ A7.out).mono ?_); rintro e w' ⟨rfl, ⟨nd, rfl⟩⟩; refine ⟨_, rfl, ?_⟩; obtain ⟨hcz13_0, hcz13_1, hcz13_2, hcz13_3, hcz13_4, hfz13_0, hfz13_1, hfz13_2, hfz13_3, hfz13_4⟩ := box5 BK111; have p114 : 0 ≤ ((ji9) : Int) := da; have q114 : (ji9) < (l0_0.length : Int) := da; obtain ⟨ad114, e114, hx114_0⟩ := Kd.at_string HR0_0.out (ji9) p114 q114; obtain rfl : ad112 = ad114 := (by injection e114); replace hx114_0 := (HB.out.cell (World.block_lt_of_cell? w _ hx114_0)).trans hx114_0; replace p114 := eq_true p114; replace q114 := eq_true q114))
      go_ret
      exact ⟨by first | rfl | (simp [errW_none, errW_some] <;> rfl) | (simp only [← hji9]; first | rfl | (simp [errW_none, errW_some] <;> rfl)) | (simp [*, errW_none, errW_some] <;> rfl), belowg1 HB GE111⟩
     ·rw [if_neg c12] at H
      have c12b0 : (Op.bytesLess ((rdOf ByteArray.empty l0_0 x10_1).toList) ((rdOf ByteArray.empty l0_0 (ji9)).toList)) = false := by simpa using c12
      clear c12; replace H := bS H; obtain ⟨t115, A14, H⟩ := H
      replace H : (if t115 = true then ((spec_l1Has.f k1 x3_1 t113).bind fun t116 => (if t116 = true then (some false) else (if x3_1.length < 17592186044416 then (spec_GoodMix.l0 k1 (x3_1 ++ [t113]) l0_0 (l0_0.length : Int) (wrap64 (x10_1 + 1)) l0_0 a0_1 a0_2 a0_3 l0_4) else (none)))) else (some false)) = some r := H
      by_cases c15 : t115 = true
      ·subst c15
       have H1 : ((spec_l1Has.f k1 x3_1 t113).bind fun t116 => (if t116 = true then (some false) else (if x3_1.length < 17592186044416 then (spec_GoodMix.l0 k1 (x3_1 ++ [t113]) l0_0 (l0_0.length : Int) (wrap64 (x10_1 + 1)) l0_0 a0_1 a0_2 a0_3 l0_4) else (none)))) = some r := by rw [if_pos rfl] at H; exact H
       clear H
       have H := H1
       clear H1; replace H := bS H; obtain ⟨t116, A16, H⟩ := H
       replace H : (if t116 = true then (some false) else (if x3_1.length < 17592186044416 then (spec_GoodMix.l0 k1 (x3_1 ++ [t113]) l0_0 (l0_0.length : Int) (wrap64 (x10_1 + 1)) l0_0 a0_1 a0_2 a0_3 l0_4) else (none))) = some r := H
       by_cases c17 : t116 = true
       ·subst c17
        have H1 : (some false) = some r := by rw [if_pos rfl] at H; exact H
        clear H
        have H := H1
        clear H1
        obtain rfl := Option.some.inj H
        have p112 : 0 ≤ (x10_1 : Int) := da
        have q112 : x10_1 < (l0_0.length : Int) := da
        obtain ⟨ad112, e112, hx112_0⟩ := Kd.at_string HR0_0.out x10_1 p112 q112
        cases e112
        replace hx112_0 := (HB.out.cell (World.block_lt_of_cell? w _ hx112_0)).trans hx112_0
        replace p112 := eq_true p112; replace q112 := eq_true q112
        go_wp2_with (first | ((with_reducible refine gate_callee (f := 172) rfl ?_); refine goesLa (some 16) rfl Try.func172 #[.string (rdOf ByteArray.empty l0_0 x10_1)] rfl ?_; (with_reducible refine (spec_l8Tag.calls k1 (rdOf ByteArray.empty l0_0 x10_1) t113 _ A7.out).mono ?_); rintro e w' ⟨rfl, ⟨nd, rfl⟩⟩; refine ⟨_, rfl, ?_⟩; obtain ⟨hcz18_0, hcz18_1, hcz18_2, hcz18_3, hcz18_4, hfz18_0, hfz18_1, hfz18_2, hfz18_3, hfz18_4⟩ := box5 BK111; have p114 : 0 ≤ ((ji9) : Int) := da; have q114 : (ji9) < (l0_0.length : Int) := da; obtain ⟨ad114, e114, hx114_0⟩ := Kd.at_string HR0_0.out (ji9) p114 q114; obtain rfl : ad112 = ad114 := (by injection e114); replace hx114_0 := (HB.out.cell (World.block_lt_of_cell? w _ hx114_0)).trans hx114_0; replace p114 := eq_true p114; replace q114 := eq_true q114) | (go_at_call 173; (with_reducible refine (spec_l1Has.calls k1 _ _ l0_4 t113 true _ ?side1 ?side2 A14.out).mono ?_); (case side1 => exact cd (Kd.C_below HR0_4.out (belowg1 HB GE111))); (case side2 => exact HC0_4.out); rintro e w' ⟨rfl, ⟨nd, rfl⟩⟩; obtain ⟨Ao19, co19, eo19⟩ := Kd.R_slice HO_3.out; subst eo19) | (go_at_call 173; (with_reducible refine (spec_l1Has.calls k1 _ _ x3_1 t113 true _ ?side1 ?side2 A16.out).mono ?_); (case side1 => exact cd (Kd.R_reads' HO_3.out).2.2); (case side2 => exact (Kd.R_reads' HO_3.out).2.1); rintro e w' ⟨rfl, ⟨nd, rfl⟩⟩))
        go_ret
        exact ⟨by first | rfl | (simp [errW_none, errW_some] <;> rfl) | (simp only [← hji9]; first | rfl | (simp [errW_none, errW_some] <;> rfl)) | (simp [*, errW_none, errW_some] <;> rfl), belowg1 HB GE111⟩
       ·replace c17 := Bool.eq_false_iff.mpr c17
        subst c17
        have H1 : (if x3_1.length < 17592186044416 then (spec_GoodMix.l0 k1 (x3_1 ++ [t113]) l0_0 (l0_0.length : Int) (wrap64 (x10_1 + 1)) l0_0 a0_1 a0_2 a0_3 l0_4) else (none)) = some r := by rw [if_neg (show ¬ (false = true) by decide)] at H; exact H
        clear H
        have H := H1
        clear H1; replace H := ifS H; obtain ⟨c20, H⟩ := H; have LMc20 := Aside0.mk c20; clear c20
        obtain ⟨y117, hy_⟩ : ∃ y_ : List Int, y_ = (x3_1 ++ [t113]) := ⟨_, rfl⟩
        replace H : (spec_GoodMix.l0 k1 y117 l0_0 (l0_0.length : Int) (wrap64 (x10_1 + 1)) l0_0 a0_1 a0_2 a0_3 l0_4) = some r := yH
        have Ny117 := ak hy_; clear hy_
        have H' := Aside0.mk H
        clear H
        have p112 : 0 ≤ (x10_1 : Int) := da
        have q112 : x10_1 < (l0_0.length : Int) := da
        obtain ⟨ad112, e112, hx112_0⟩ := Kd.at_string HR0_0.out x10_1 p112 q112
        cases e112
        replace hx112_0 := (HB.out.cell (World.block_lt_of_cell? w _ hx112_0)).trans hx112_0
        replace p112 := eq_true p112; replace q112 := eq_true q112
        go_wp2_with (first | ((with_reducible refine gate_callee (f := 172) rfl ?_); refine goesLa (some 16) rfl Try.func172 #[.string (rdOf ByteArray.empty l0_0 x10_1)] rfl ?_; (with_reducible refine (spec_l8Tag.calls k1 (rdOf ByteArray.empty l0_0 x10_1) t113 _ A7.out).mono ?_); rintro e w' ⟨rfl, ⟨nd, rfl⟩⟩; refine ⟨_, rfl, ?_⟩; obtain ⟨hcz21_0, hcz21_1, hcz21_2, hcz21_3, hcz21_4, hfz21_0, hfz21_1, hfz21_2, hfz21_3, hfz21_4⟩ := box5 BK111; have p114 : 0 ≤ ((ji9) : Int) := da; have q114 : (ji9) < (l0_0.length : Int) := da; obtain ⟨ad114, e114, hx114_0⟩ := Kd.at_string HR0_0.out (ji9) p114 q114; obtain rfl : ad112 = ad114 := (by injection e114); replace hx114_0 := (HB.out.cell (World.block_lt_of_cell? w _ hx114_0)).trans hx114_0; replace p114 := eq_true p114; replace q114 := eq_true q114) | (go_at_call 173; (with_reducible refine (spec_l1Has.calls k1 _ _ l0_4 t113 true _ ?side1 ?side2 A14.out).mono ?_); (case side1 => exact cd (Kd.C_below HR0_4.out (belowg1 HB GE111))); (case side2 => exact HC0_4.out); rintro e w' ⟨rfl, ⟨nd, rfl⟩⟩; obtain ⟨Ao22, co22, eo22⟩ := Kd.R_slice HO_3.out; subst eo22) | (go_at_call 173; (with_reducible refine (spec_l1Has.calls k1 _ _ x3_1 t113 false _ ?side1 ?side2 A16.out).mono ?_); (case side1 => exact cd (Kd.R_reads' HO_3.out).2.2); (case side2 => exact (Kd.R_reads' HO_3.out).2.1); rintro e w' ⟨rfl, ⟨nd, rfl⟩⟩) | ((with_reducible refine gate_builtin (b := .append) (xs := #[.tmp 41, .tmp 43]) rfl ?_); (try (refine gate_guard (by rfl) ?_; dsimp only)); at_builtin; refine Kd.R_append (Kd.int .i64) (w0 := w) w.heap.size rfl (.tmp 41) (.tmp 43) 23 3 (.int .i64 0) 8 rfl Try.underlying23 info3 rfl (by decide) (by omega) (.slice Ao22 x3_1.length co22) x3_1 t113 [.int .i64 t113] (fun _ => True) (fun _ => False) rfl rfl ?aP (fun _ hk => hk.elim) ?aF ?aO ?aB ?aS ?aL ?_; (case aP => exact rfl); (case aB => exact (belowg1 HB GE111)); (case aF => exact (fun _ _ => trivial)); (case aO => exact (rdl HO_3)); (case aS => exact (below_size (belowg1 HB GE111))); (case aL => have := LMc20.out; omega); intro v118 w23 ho hb hg hat; rw [← Ny117.out] at ho; replace BK111 := ak (blk_grown (blkd BK111) hg (Kd.R_ne HO_3.out BK111.out (by decide))); replace HB := ak (hb); have HO119 := ak (ho); clear HO_3; clear ho hb hg hat))
        go_roundg k1
        case measure => have := HK1.out; omega
        case rel => exact ⟨(y117), (wrap64 (x10_1 + 1)), er, H', ⟨by have := HK1.out; omega⟩, ⟨rdl HO119⟩, ⟨blkd BK111⟩, ⟨belowg1 HB GE111⟩⟩
      ·replace c15 := Bool.eq_false_iff.mpr c15
       subst c15
       have H1 : (some false) = some r := by rw [if_neg (show ¬ (false = true) by decide)] at H; exact H
       clear H
       have H := H1
       clear H1
       obtain rfl := Option.some.inj H
       have p112 : 0 ≤ (x10_1 : Int) := da
       have q112 : x10_1 < (l0_0.length : Int) := da
       obtain ⟨ad112, e112, hx112_0⟩ := Kd.at_string HR0_0.out x10_1 p112 q112
       cases e112
       replace hx112_0 := (HB.out.cell (World.block_lt_of_cell? w _ hx112_0)).trans hx112_0
       replace p112 := eq_true p112; replace q112 := eq_true q112
       go_wp2_with (first | ((with_reducible refine gate_callee (f := 172) rfl ?_); refine goesLa (some 16) rfl Try.func172 #[.string (rdOf ByteArray.empty l0_0 x10_1)] rfl ?_; (with_reducible refine (spec_l8Tag.calls k1 (rdOf ByteArray.empty l0_0 x10_1) t113 _ A7.out).mono ?_); rintro e w' ⟨rfl, ⟨nd, rfl⟩⟩; refine ⟨_, rfl, ?_⟩; obtain ⟨hcz24_0, hcz24_1, hcz24_2, hcz24_3, hcz24_4, hfz24_0, hfz24_1, hfz24_2, hfz24_3, hfz24_4⟩ := box5 BK111; have p114 : 0 ≤ ((ji9) : Int) := da; have q114 : (ji9) < (l0_0.length : Int) := da; obtain ⟨ad114, e114, hx114_0⟩ := Kd.at_string HR0_0.out (ji9) p114 q114; obtain rfl : ad112 = ad114 := (by injection e114); replace hx114_0 := (HB.out.cell (World.block_lt_of_cell? w _ hx114_0)).trans hx114_0; replace p114 := eq_true p114; replace q114 := eq_true q114) | (go_at_call 173; (with_reducible refine (spec_l1Has.calls k1 _ _ l0_4 t113 false _ ?side1 ?side2 A14.out).mono ?_); (case side1 => exact cd (Kd.C_below HR0_4.out (belowg1 HB GE111))); (case side2 => exact HC0_4.out); rintro e w' ⟨rfl, ⟨nd, rfl⟩⟩))
       go_ret
       exact ⟨by first | rfl | (simp [errW_none, errW_some] <;> rfl) | (simp only [← hji9]; first | rfl | (simp [errW_none, errW_some] <;> rfl)) | (simp [*, errW_none, errW_some] <;> rfl), belowg1 HB GE111⟩
    ·rw [if_neg c8] at H
     have c8b0 : decide (0 < x10_1) = false := decide_eq_false c8
     clear c8; replace H := bS H; obtain ⟨t120, A25, H⟩ := H
     replace H : (if t120 = true then ((spec_l1Has.f k1 x3_1 t113).bind fun t121 => (if t121 = true then (some false) else (if x3_1.length < 17592186044416 then (spec_GoodMix.l0 k1 (x3_1 ++ [t113]) l0_0 (l0_0.length : Int) (wrap64 (x10_1 + 1)) l0_0 a0_1 a0_2 a0_3 l0_4) else (none)))) else (some false)) = some r := H
     by_cases c26 : t120 = true
     ·subst c26
      have H1 : ((spec_l1Has.f k1 x3_1 t113).bind fun t121 => (if t121 = true then (some false) else (if x3_1.length < 17592186044416 then (spec_GoodMix.l0 k1 (x3_1 ++ [t113]) l0_0 (l0_0.length : Int) (wrap64 (x10_1 + 1)) l0_0 a0_1 a0_2 a0_3 l0_4) else (none)))) = some r := by rw [if_pos rfl] at H; exact H
      clear H
      have H := H1
      clear H1; replace H := bS H; obtain ⟨t121, A27, H⟩ := H
      replace H : (if t121 = true then (some false) else (if x3_1.length < 17592186044416 then (spec_GoodMix.l0 k1 (x3_1 ++ [t113]) l0_0 (l0_0.length : Int) (wrap64 (x10_1 + 1)) l0_0 a0_1 a0_2 a0_3 l0_4) else (none))) = some r := H
      by_cases c28 : t121 = true
      ·subst c28
       have H1 : (some false) = some r := by rw [if_pos rfl] at H; exact H
       clear H
       have H := H1
       clear H1
       obtain rfl := Option.some.inj H
       have p112 : 0 ≤ (x10_1 : Int) := da
       have q112 : x10_1 < (l0_0.length : Int) := da
       obtain ⟨ad112, e112, hx112_0⟩ := Kd.at_string HR0_0.out x10_1 p112 q112
       cases e112
       replace hx112_0 := (HB.out.cell (World.block_lt_of_cell? w _ hx112_0)).trans hx112_0
       replace p112 := eq_true p112; replace q112 := eq_true q112
       go_wp2_with (first | ((with_reducible refine gate_callee (f := 172) rfl ?_); refine goesLa (some 16) rfl Try.func172 #[.string (rdOf ByteArray.empty l0_0 x10_1)] rfl ?_; (with_reducible refine (spec_l8Tag.calls k1 (rdOf ByteArray.empty l0_0 x10_1) t113 _ A7.out).mono ?_); rintro e w' ⟨rfl, ⟨nd, rfl⟩⟩; refine ⟨_, rfl, ?_⟩; obtain ⟨hcz29_0, hcz29_1, hcz29_2, hcz29_3, hcz29_4, hfz29_0, hfz29_1, hfz29_2, hfz29_3, hfz29_4⟩ := box5 BK111) | (go_at_call 173; (with_reducible refine (spec_l1Has.calls k1 _ _ l0_4 t113 true _ ?side1 ?side2 A25.out).mono ?_); (case side1 => exact cd (Kd.C_below HR0_4.out (belowg1 HB GE111))); (case side2 => exact HC0_4.out); rintro e w' ⟨rfl, ⟨nd, rfl⟩⟩; obtain ⟨Ao30, co30, eo30⟩ := Kd.R_slice HO_3.out; subst eo30) | (go_at_call 173; (with_reducible refine (spec_l1Has.calls k1 _ _ x3_1 t113 true _ ?side1 ?side2 A27.out).mono ?_); (case side1 => exact cd (Kd.R_reads' HO_3.out).2.2); (case side2 => exact (Kd.R_reads' HO_3.out).2.1); rintro e w' ⟨rfl, ⟨nd, rfl⟩⟩))
       go_ret
       exact ⟨er2, belowg1 HB GE111⟩
      ·replace c28 := Bool.eq_false_iff.mpr c28
       subst c28
       have H1 : (if x3_1.length < 17592186044416 then (spec_GoodMix.l0 k1 (x3_1 ++ [t113]) l0_0 (l0_0.length : Int) (wrap64 (x10_1 + 1)) l0_0 a0_1 a0_2 a0_3 l0_4) else (none)) = some r := by rw [if_neg (show ¬ (false = true) by decide)] at H; exact H
       clear H
       have H := H1
       clear H1; replace H := ifS H; obtain ⟨c31, H⟩ := H; have LMc31 := Aside0.mk c31; clear c31
       obtain ⟨y122, hy_⟩ : ∃ y_ : List Int, y_ = (x3_1 ++ [t113]) := ⟨_, rfl⟩
       replace H : (spec_GoodMix.l0 k1 y122 l0_0 (l0_0.length : Int) (wrap64 (x10_1 + 1)) l0_0 a0_1 a0_2 a0_3 l0_4) = some r := yH
       have Ny122 := ak hy_; clear hy_
       have H' := Aside0.mk H
       clear H
       have p112 : 0 ≤ (x10_1 : Int) := da
       have q112 : x10_1 < (l0_0.length : Int) := da
       obtain ⟨ad112, e112, hx112_0⟩ := Kd.at_string HR0_0.out x10_1 p112 q112
       cases e112
       replace hx112_0 := (HB.out.cell (World.block_lt_of_cell? w _ hx112_0)).trans hx112_0
       replace p112 := eq_true p112; replace q112 := eq_true q112
       go_wp2_with (first | ((with_reducible refine gate_callee (f := 172) rfl ?_); refine goesLa (some 16) rfl Try.func172 #[.string (rdOf ByteArray.empty l0_0 x10_1)] rfl ?_; (with_reducible refine (spec_l8Tag.calls k1 (rdOf ByteArray.empty l0_0 x10_1) t113 _ A7.out).mono ?_); rintro e w' ⟨rfl, ⟨nd, rfl⟩⟩; refine ⟨_, rfl, ?_⟩; obtain ⟨hcz32_0, hcz32_1, hcz32_2, hcz32_3, hcz32_4, hfz32_0, hfz32_1, hfz32_2, hfz32_3, hfz32_4⟩ := box5 BK111) | (go_at_call 173; (with_reducible refine (spec_l1Has.calls k1 _ _ l0_4 t113 true _ ?side1 ?side2 A25.out).mono ?_); (case side1 => exact cd (Kd.C_below HR0_4.out (belowg1 HB GE111))); (case side2 => exact HC0_4.out); rintro e w' ⟨rfl, ⟨nd, rfl⟩⟩; obtain ⟨Ao33, co33, eo33⟩ := Kd.R_slice HO_3.out; subst eo33) | (go_at_call 173; (with_reducible refine (spec_l1Has.calls k1 _ _ x3_1 t113 false _ ?side1 ?side2 A27.out).mono ?_); (case side1 => exact cd (Kd.R_reads' HO_3.out).2.2); (case side2 => exact (Kd.R_reads' HO_3.out).2.1); rintro e w' ⟨rfl, ⟨nd, rfl⟩⟩) | ((with_reducible refine gate_builtin (b := .append) (xs := #[.tmp 41, .tmp 43]) rfl ?_); (try (refine gate_guard (by rfl) ?_; dsimp only)); at_builtin; refine Kd.R_append (Kd.int .i64) (w0 := w) w.heap.size rfl (.tmp 41) (.tmp 43) 23 3 (.int .i64 0) 8 rfl Try.underlying23 info3 rfl (by decide) (by omega) (.slice Ao33 x3_1.length co33) x3_1 t113 [.int .i64 t113] (fun _ => True) (fun _ => False) rfl rfl ?aP (fun _ hk => hk.elim) ?aF ?aO ?aB ?aS ?aL ?_; (case aP => exact rfl); (case aB => exact (belowg1 HB GE111)); (case aF => exact (fun _ _ => trivial)); (case aO => exact (rdl HO_3)); (case aS => exact (below_size (belowg1 HB GE111))); (case aL => have := LMc31.out; omega); intro v123 w34 ho hb hg hat; rw [← Ny122.out] at ho; replace BK111 := ak (blk_grown (blkd BK111) hg (Kd.R_ne HO_3.out BK111.out (by decide))); replace HB := ak (hb); have HO124 := ak (ho); clear HO_3; clear ho hb hg hat))
       go_roundg k1
       case measure => have := HK1.out; omega
       case rel => exact ⟨(y122), (wrap64 (x10_1 + 1)), er, H', ⟨by have := HK1.out; omega⟩, ⟨rdl HO124⟩, ⟨blkd BK111⟩, ⟨belowg1 HB GE111⟩⟩
     ·replace c26 := Bool.eq_false_iff.mpr c26
      subst c26
      have H1 : (some false) = some r := by rw [if_neg (show ¬ (false = true) by decide)] at H; exact H
      clear H
      have H := H1
      clear H1
      obtain rfl := Option.some.inj H
      have p112 : 0 ≤ (x10_1 : Int) := da
      have q112 : x10_1 < (l0_0.length : Int) := da
      obtain ⟨ad112, e112, hx112_0⟩ := Kd.at_string HR0_0.out x10_1 p112 q112
      cases e112
      replace hx112_0 := (HB.out.cell (World.block_lt_of_cell? w _ hx112_0)).trans hx112_0
      replace p112 := eq_true p112; replace q112 := eq_true q112
      go_wp2_with (first | ((with_reducible refine gate_callee (f := 172) rfl ?_); refine goesLa (some 16) rfl Try.func172 #[.string (rdOf ByteArray.empty l0_0 x10_1)] rfl ?_; (with_reducible refine (spec_l8Tag.calls k1 (rdOf ByteArray.empty l0_0 x10_1) t113 _ A7.out).mono ?_); rintro e w' ⟨rfl, ⟨nd, rfl⟩⟩; refine ⟨_, rfl, ?_⟩; obtain ⟨hcz35_0, hcz35_1, hcz35_2, hcz35_3, hcz35_4, hfz35_0, hfz35_1, hfz35_2, hfz35_3, hfz35_4⟩ := box5 BK111) | (go_at_call 173; (with_reducible refine (spec_l1Has.calls k1 _ _ l0_4 t113 false _ ?side1 ?side2 A25.out).mono ?_); (case side1 => exact cd (Kd.C_below HR0_4.out (belowg1 HB GE111))); (case side2 => exact HC0_4.out); rintro e w' ⟨rfl, ⟨nd, rfl⟩⟩))
      go_ret
      exact ⟨er2, belowg1 HB GE111⟩
   ·rw [if_neg c4] at H
    have c4b0 : decide (x10_1 < (l0_0.length : Int)) = false := decide_eq_false c4
    clear c4; replace H := bS H; obtain ⟨t125, A36, H⟩ := H
    replace H : (if t125 = true then ((spec_l1In.f a0_1 1 12).bind fun t126 => (if t126 = true then ((spec_l1In.f a0_2 1 10).bind fun t127 => (if t127 = true then ((spec_l1In.f a0_3 0 10).bind fun t128 => (if t128 = true then (if (l0_0.length : Int) > 0 then ((spec_l1Rising.f k1 l0_4 0 4092).bind fun t129 => (if t129 = true then (some (decide ((l0_4.length : Int) ≤ 100))) else (some false))) else (if a0_3 = 0 then ((spec_l1Rising.f k1 l0_4 0 4092).bind fun t130 => (if t130 = true then (some (decide ((l0_4.length : Int) ≤ 100))) else (some false))) else (some false))) else (some false))) else (some false))) else (some false))) else (some false)) = some r := H
    by_cases c37 : t125 = true
    ·subst c37
     have H1 : ((spec_l1In.f a0_1 1 12).bind fun t126 => (if t126 = true then ((spec_l1In.f a0_2 1 10).bind fun t127 => (if t127 = true then ((spec_l1In.f a0_3 0 10).bind fun t128 => (if t128 = true then (if (l0_0.length : Int) > 0 then ((spec_l1Rising.f k1 l0_4 0 4092).bind fun t129 => (if t129 = true then (some (decide ((l0_4.length : Int) ≤ 100))) else (some false))) else (if a0_3 = 0 then ((spec_l1Rising.f k1 l0_4 0 4092).bind fun t130 => (if t130 = true then (some (decide ((l0_4.length : Int) ≤ 100))) else (some false))) else (some false))) else (some false))) else (some false))) else (some false))) = some r := by rw [if_pos rfl] at H; exact H
     clear H
     have H := H1
     clear H1; replace H := bS H; obtain ⟨t126, A38, H⟩ := H
     replace H : (if t126 = true then ((spec_l1In.f a0_2 1 10).bind fun t127 => (if t127 = true then ((spec_l1In.f a0_3 0 10).bind fun t128 => (if t128 = true then (if (l0_0.length : Int) > 0 then ((spec_l1Rising.f k1 l0_4 0 4092).bind fun t129 => (if t129 = true then (some (decide ((l0_4.length : Int) ≤ 100))) else (some false))) else (if a0_3 = 0 then ((spec_l1Rising.f k1 l0_4 0 4092).bind fun t130 => (if t130 = true then (some (decide ((l0_4.length : Int) ≤ 100))) else (some false))) else (some false))) else (some false))) else (some false))) else (some false)) = some r := H
     by_cases c39 : t126 = true
     ·subst c39
      have H1 : ((spec_l1In.f a0_2 1 10).bind fun t127 => (if t127 = true then ((spec_l1In.f a0_3 0 10).bind fun t128 => (if t128 = true then (if (l0_0.length : Int) > 0 then ((spec_l1Rising.f k1 l0_4 0 4092).bind fun t129 => (if t129 = true then (some (decide ((l0_4.length : Int) ≤ 100))) else (some false))) else (if a0_3 = 0 then ((spec_l1Rising.f k1 l0_4 0 4092).bind fun t130 => (if t130 = true then (some (decide ((l0_4.length : Int) ≤ 100))) else (some false))) else (some false))) else (some false))) else (some false))) = some r := by rw [if_pos rfl] at H; exact H
      clear H
      have H := H1
      clear H1; replace H := bS H; obtain ⟨t127, A40, H⟩ := H
      replace H : (if t127 = true then ((spec_l1In.f a0_3 0 10).bind fun t128 => (if t128 = true then (if (l0_0.length : Int) > 0 then ((spec_l1Rising.f k1 l0_4 0 4092).bind fun t129 => (if t129 = true then (some (decide ((l0_4.length : Int) ≤ 100))) else (some false))) else (if a0_3 = 0 then ((spec_l1Rising.f k1 l0_4 0 4092).bind fun t130 => (if t130 = true then (some (decide ((l0_4.length : Int) ≤ 100))) else (some false))) else (some false))) else (some false))) else (some false)) = some r := H
      by_cases c41 : t127 = true
      ·subst c41
       have H1 : ((spec_l1In.f a0_3 0 10).bind fun t128 => (if t128 = true then (if (l0_0.length : Int) > 0 then ((spec_l1Rising.f k1 l0_4 0 4092).bind fun t129 => (if t129 = true then (some (decide ((l0_4.length : Int) ≤ 100))) else (some false))) else (if a0_3 = 0 then ((spec_l1Rising.f k1 l0_4 0 4092).bind fun t130 => (if t130 = true then (some (decide ((l0_4.length : Int) ≤ 100))) else (some false))) else (some false))) else (some false))) = some r := by rw [if_pos rfl] at H; exact H
       clear H
       have H := H1
       clear H1; replace H := bS H; obtain ⟨t128, A42, H⟩ := H
       replace H : (if t128 = true then (if (l0_0.length : Int) > 0 then ((spec_l1Rising.f k1 l0_4 0 4092).bind fun t129 => (if t129 = true then (some (decide ((l0_4.length : Int) ≤ 100))) else (some false))) else (if a0_3 = 0 then ((spec_l1Rising.f k1 l0_4 0 4092).bind fun t130 => (if t130 = true then (some (decide ((l0_4.length : Int) ≤ 100))) else (some false))) else (some false))) else (some false)) = some r := H
       by_cases c43 : t128 = true
       ·subst c43
        have H1 : (if (l0_0.length : Int) > 0 then ((spec_l1Rising.f k1 l0_4 0 4092).bind fun t129 => (if t129 = true then (some (decide ((l0_4.length : Int) ≤ 100))) else (some false))) else (if a0_3 = 0 then ((spec_l1Rising.f k1 l0_4 0 4092).bind fun t130 => (if t130 = true then (some (decide ((l0_4.length : Int) ≤ 100))) else (some false))) else (some false))) = some r := by rw [if_pos rfl] at H; exact H
        clear H
        have H := H1
        clear H1
        by_cases c44 : (l0_0.length : Int) > 0
        ·rw [if_pos c44] at H
         have c44b0 : decide (0 < (l0_0.length : Int)) = true := decide_eq_true c44
         have c44b1 : decide (0 < l0_0.length) = true := decide_eq_true (by omega)
         clear c44; replace H := bS H; obtain ⟨t129, A45, H⟩ := H
         replace H : (if t129 = true then (some (decide ((l0_4.length : Int) ≤ 100))) else (some false)) = some r := H
         by_cases c46 : t129 = true
         ·subst c46
          have H1 : (some (decide ((l0_4.length : Int) ≤ 100))) = some r := by rw [if_pos rfl] at H; exact H
          clear H
          have H := H1
          clear H1
          obtain rfl := Option.some.inj H
          obtain ⟨hcz47_0, hcz47_1, hcz47_2, hcz47_3, hcz47_4, hfz47_0, hfz47_1, hfz47_2, hfz47_3, hfz47_4⟩ := box5 BK111
          go_wp2_with (first | ((with_reducible refine gate_callee (f := 111) rfl ?_); refine goesLa (some 48) rfl Try.func111 #[.slice A0_0 l0_0.length c0_0] rfl ?_; (with_reducible refine (spec_l8Pool.calls k1 _ _ l0_0 true _ ?side1 ?side2 A36.out).mono ?_); (case side1 => exact cd (Kd.C_below HR0_0.out HB.out)); (case side2 => exact HC0_0.out); rintro e w' ⟨rfl, ⟨nd, rfl⟩⟩; refine ⟨_, rfl, ?_⟩) | (go_at_call 153; (with_reducible refine (spec_l1In.calls a0_1 1 12 true _ A38.out).mono ?_); rintro e w' ⟨rfl, ⟨nd, rfl⟩⟩) | (go_at_call 153; (with_reducible refine (spec_l1In.calls a0_2 1 10 true _ A40.out).mono ?_); rintro e w' ⟨rfl, ⟨nd, rfl⟩⟩) | (go_at_call 153; (with_reducible refine (spec_l1In.calls a0_3 0 10 true _ A42.out).mono ?_); rintro e w' ⟨rfl, ⟨nd, rfl⟩⟩) | (go_at_call 174; (with_reducible refine (spec_l1Rising.calls k1 _ _ l0_4 0 4092 true _ ?side1 ?side2 A45.out).mono ?_); (case side1 => exact cd (Kd.C_below HR0_4.out (belowg1 HB GE111))); (case side2 => exact HC0_4.out); rintro e w' ⟨rfl, ⟨nd, rfl⟩⟩))
          go_ret
          exact ⟨er2, belowg1 HB GE111⟩
         ·replace c46 := Bool.eq_false_iff.mpr c46
          subst c46
          have H1 : (some false) = some r := by rw [if_neg (show ¬ (false = true) by decide)] at H; exact H
          clear H
          have H := H1
          clear H1
          obtain rfl := Option.some.inj H
          obtain ⟨hcz48_0, hcz48_1, hcz48_2, hcz48_3, hcz48_4, hfz48_0, hfz48_1, hfz48_2, hfz48_3, hfz48_4⟩ := box5 BK111
          go_wp2_with (first | ((with_reducible refine gate_callee (f := 111) rfl ?_); refine goesLa (some 48) rfl Try.func111 #[.slice A0_0 l0_0.length c0_0] rfl ?_; (with_reducible refine (spec_l8Pool.calls k1 _ _ l0_0 true _ ?side1 ?side2 A36.out).mono ?_); (case side1 => exact cd (Kd.C_below HR0_0.out HB.out)); (case side2 => exact HC0_0.out); rintro e w' ⟨rfl, ⟨nd, rfl⟩⟩; refine ⟨_, rfl, ?_⟩) | (go_at_call 153; (with_reducible refine (spec_l1In.calls a0_1 1 12 true _ A38.out).mono ?_); rintro e w' ⟨rfl, ⟨nd, rfl⟩⟩) | (go_at_call 153; (with_reducible refine (spec_l1In.calls a0_2 1 10 true _ A40.out).mono ?_); rintro e w' ⟨rfl, ⟨nd, rfl⟩⟩) | (go_at_call 153; (with_reducible refine (spec_l1In.calls a0_3 0 10 true _ A42.out).mono ?_); rintro e w' ⟨rfl, ⟨nd, rfl⟩⟩) | (go_at_call 174; (with_reducible refine (spec_l1Rising.calls k1 _ _ l0_4 0 4092 false _ ?side1 ?side2 A45.out).mono ?_); (case side1 => exact cd (Kd.C_below HR0_4.out (belowg1 HB GE111))); (case side2 => exact HC0_4.out); rintro e w' ⟨rfl, ⟨nd, rfl⟩⟩))
          go_ret
          exact ⟨er2, belowg1 HB GE111⟩
        ·rw [if_neg c44] at H
         have c44b0 : decide (0 < (l0_0.length : Int)) = false := decide_eq_false c44
         have c44b1 : decide (0 < l0_0.length) = false := decide_eq_false (by omega)
         clear c44
         by_cases c49 : a0_3 = 0
         ·rw [if_pos c49] at H
          have c49b0 : (a0_3 == 0) = true := beq_iff_eq.mpr c49
          have c49b1 : (a0_3 != 0) = false := bne_eq_false_iff_eq.mpr c49
          clear c49; replace H := bS H; obtain ⟨t130, A50, H⟩ := H
          replace H : (if t130 = true then (some (decide ((l0_4.length : Int) ≤ 100))) else (some false)) = some r := H
          by_cases c51 : t130 = true
          ·subst c51
           have H1 : (some (decide ((l0_4.length : Int) ≤ 100))) = some r := by rw [if_pos rfl] at H; exact H
           clear H
           have H := H1
           clear H1
           obtain rfl := Option.some.inj H
           obtain ⟨hcz52_0, hcz52_1, hcz52_2, hcz52_3, hcz52_4, hfz52_0, hfz52_1, hfz52_2, hfz52_3, hfz52_4⟩ := box5 BK111
           go_wp2_with (first | ((with_reducible refine gate_callee (f := 111) rfl ?_); refine goesLa (some 48) rfl Try.func111 #[.slice A0_0 l0_0.length c0_0] rfl ?_; (with_reducible refine (spec_l8Pool.calls k1 _ _ l0_0 true _ ?side1 ?side2 A36.out).mono ?_); (case side1 => exact cd (Kd.C_below HR0_0.out HB.out)); (case side2 => exact HC0_0.out); rintro e w' ⟨rfl, ⟨nd, rfl⟩⟩; refine ⟨_, rfl, ?_⟩) | (go_at_call 153; (with_reducible refine (spec_l1In.calls a0_1 1 12 true _ A38.out).mono ?_); rintro e w' ⟨rfl, ⟨nd, rfl⟩⟩) | (go_at_call 153; (with_reducible refine (spec_l1In.calls a0_2 1 10 true _ A40.out).mono ?_); rintro e w' ⟨rfl, ⟨nd, rfl⟩⟩) | (go_at_call 153; (with_reducible refine (spec_l1In.calls a0_3 0 10 true _ A42.out).mono ?_); rintro e w' ⟨rfl, ⟨nd, rfl⟩⟩) | (go_at_call 174; (with_reducible refine (spec_l1Rising.calls k1 _ _ l0_4 0 4092 true _ ?side1 ?side2 A50.out).mono ?_); (case side1 => exact cd (Kd.C_below HR0_4.out (belowg1 HB GE111))); (case side2 => exact HC0_4.out); rintro e w' ⟨rfl, ⟨nd, rfl⟩⟩))
           go_ret
           exact ⟨er2, belowg1 HB GE111⟩
          ·replace c51 := Bool.eq_false_iff.mpr c51
           subst c51
           have H1 : (some false) = some r := by rw [if_neg (show ¬ (false = true) by decide)] at H; exact H
           clear H
           have H := H1
           clear H1
           obtain rfl := Option.some.inj H
           obtain ⟨hcz53_0, hcz53_1, hcz53_2, hcz53_3, hcz53_4, hfz53_0, hfz53_1, hfz53_2, hfz53_3, hfz53_4⟩ := box5 BK111
           go_wp2_with (first | ((with_reducible refine gate_callee (f := 111) rfl ?_); refine goesLa (some 48) rfl Try.func111 #[.slice A0_0 l0_0.length c0_0] rfl ?_; (with_reducible refine (spec_l8Pool.calls k1 _ _ l0_0 true _ ?side1 ?side2 A36.out).mono ?_); (case side1 => exact cd (Kd.C_below HR0_0.out HB.out)); (case side2 => exact HC0_0.out); rintro e w' ⟨rfl, ⟨nd, rfl⟩⟩; refine ⟨_, rfl, ?_⟩) | (go_at_call 153; (with_reducible refine (spec_l1In.calls a0_1 1 12 true _ A38.out).mono ?_); rintro e w' ⟨rfl, ⟨nd, rfl⟩⟩) | (go_at_call 153; (with_reducible refine (spec_l1In.calls a0_2 1 10 true _ A40.out).mono ?_); rintro e w' ⟨rfl, ⟨nd, rfl⟩⟩) | (go_at_call 153; (with_reducible refine (spec_l1In.calls a0_3 0 10 true _ A42.out).mono ?_); rintro e w' ⟨rfl, ⟨nd, rfl⟩⟩) | (go_at_call 174; (with_reducible refine (spec_l1Rising.calls k1 _ _ l0_4 0 4092 false _ ?side1 ?side2 A50.out).mono ?_); (case side1 => exact cd (Kd.C_below HR0_4.out (belowg1 HB GE111))); (case side2 => exact HC0_4.out); rintro e w' ⟨rfl, ⟨nd, rfl⟩⟩))
           go_ret
           exact ⟨er2, belowg1 HB GE111⟩
         ·rw [if_neg c49] at H
          have c49b0 : (a0_3 == 0) = false := beq_eq_false_iff_ne.mpr c49
          have c49b1 : (a0_3 != 0) = true := bne_iff_ne.mpr c49
          obtain rfl := Option.some.inj H
          obtain ⟨hcz54_0, hcz54_1, hcz54_2, hcz54_3, hcz54_4, hfz54_0, hfz54_1, hfz54_2, hfz54_3, hfz54_4⟩ := box5 BK111
          go_wp2_with (first | ((with_reducible refine gate_callee (f := 111) rfl ?_); refine goesLa (some 48) rfl Try.func111 #[.slice A0_0 l0_0.length c0_0] rfl ?_; (with_reducible refine (spec_l8Pool.calls k1 _ _ l0_0 true _ ?side1 ?side2 A36.out).mono ?_); (case side1 => exact cd (Kd.C_below HR0_0.out HB.out)); (case side2 => exact HC0_0.out); rintro e w' ⟨rfl, ⟨nd, rfl⟩⟩; refine ⟨_, rfl, ?_⟩) | (go_at_call 153; (with_reducible refine (spec_l1In.calls a0_1 1 12 true _ A38.out).mono ?_); rintro e w' ⟨rfl, ⟨nd, rfl⟩⟩) | (go_at_call 153; (with_reducible refine (spec_l1In.calls a0_2 1 10 true _ A40.out).mono ?_); rintro e w' ⟨rfl, ⟨nd, rfl⟩⟩) | (go_at_call 153; (with_reducible refine (spec_l1In.calls a0_3 0 10 true _ A42.out).mono ?_); rintro e w' ⟨rfl, ⟨nd, rfl⟩⟩))
          go_ret
          exact ⟨er2, belowg1 HB GE111⟩
       ·replace c43 := Bool.eq_false_iff.mpr c43
        subst c43
        have H1 : (some false) = some r := by rw [if_neg (show ¬ (false = true) by decide)] at H; exact H
        clear H
        have H := H1
        clear H1
        obtain rfl := Option.some.inj H
        obtain ⟨hcz55_0, hcz55_1, hcz55_2, hcz55_3, hcz55_4, hfz55_0, hfz55_1, hfz55_2, hfz55_3, hfz55_4⟩ := box5 BK111
        go_wp2_with (first | ((with_reducible refine gate_callee (f := 111) rfl ?_); refine goesLa (some 48) rfl Try.func111 #[.slice A0_0 l0_0.length c0_0] rfl ?_; (with_reducible refine (spec_l8Pool.calls k1 _ _ l0_0 true _ ?side1 ?side2 A36.out).mono ?_); (case side1 => exact cd (Kd.C_below HR0_0.out HB.out)); (case side2 => exact HC0_0.out); rintro e w' ⟨rfl, ⟨nd, rfl⟩⟩; refine ⟨_, rfl, ?_⟩) | (go_at_call 153; (with_reducible refine (spec_l1In.calls a0_1 1 12 true _ A38.out).mono ?_); rintro e w' ⟨rfl, ⟨nd, rfl⟩⟩) | (go_at_call 153; (with_reducible refine (spec_l1In.calls a0_2 1 10 true _ A40.out).mono ?_); rintro e w' ⟨rfl, ⟨nd, rfl⟩⟩) | (go_at_call 153; (with_reducible refine (spec_l1In.calls a0_3 0 10 false _ A42.out).mono ?_); rintro e w' ⟨rfl, ⟨nd, rfl⟩⟩))
        go_ret
        exact ⟨er2, belowg1 HB GE111⟩
      ·replace c41 := Bool.eq_false_iff.mpr c41
       subst c41
       have H1 : (some false) = some r := by rw [if_neg (show ¬ (false = true) by decide)] at H; exact H
       clear H
       have H := H1
       clear H1
       obtain rfl := Option.some.inj H
       obtain ⟨hcz56_0, hcz56_1, hcz56_2, hcz56_3, hcz56_4, hfz56_0, hfz56_1, hfz56_2, hfz56_3, hfz56_4⟩ := box5 BK111
       go_wp2_with (first | ((with_reducible refine gate_callee (f := 111) rfl ?_); refine goesLa (some 48) rfl Try.func111 #[.slice A0_0 l0_0.length c0_0] rfl ?_; (with_reducible refine (spec_l8Pool.calls k1 _ _ l0_0 true _ ?side1 ?side2 A36.out).mono ?_); (case side1 => exact cd (Kd.C_below HR0_0.out HB.out)); (case side2 => exact HC0_0.out); rintro e w' ⟨rfl, ⟨nd, rfl⟩⟩; refine ⟨_, rfl, ?_⟩) | (go_at_call 153; (with_reducible refine (spec_l1In.calls a0_1 1 12 true _ A38.out).mono ?_); rintro e w' ⟨rfl, ⟨nd, rfl⟩⟩) | (go_at_call 153; (with_reducible refine (spec_l1In.calls a0_2 1 10 false _ A40.out).mono ?_); rintro e w' ⟨rfl, ⟨nd, rfl⟩⟩))
       go_ret
       exact ⟨er2, belowg1 HB GE111⟩
     ·replace c39 := Bool.eq_false_iff.mpr c39
      subst c39
      have H1 : (some false) = some r := by rw [if_neg (show ¬ (false = true) by decide)] at H; exact H
      clear H
      have H := H1
      clear H1
      obtain rfl := Option.some.inj H
      obtain ⟨hcz57_0, hcz57_1, hcz57_2, hcz57_3, hcz57_4, hfz57_0, hfz57_1, hfz57_2, hfz57_3, hfz57_4⟩ := box5 BK111
      go_wp2_with (first | ((with_reducible refine gate_callee (f := 111) rfl ?_); refine goesLa (some 48) rfl Try.func111 #[.slice A0_0 l0_0.length c0_0] rfl ?_; (with_reducible refine (spec_l8Pool.calls k1 _ _ l0_0 true _ ?side1 ?side2 A36.out).mono ?_); (case side1 => exact cd (Kd.C_below HR0_0.out HB.out)); (case side2 => exact HC0_0.out); rintro e w' ⟨rfl, ⟨nd, rfl⟩⟩; refine ⟨_, rfl, ?_⟩) | (go_at_call 153; (with_reducible refine (spec_l1In.calls a0_1 1 12 false _ A38.out).mono ?_); rintro e w' ⟨rfl, ⟨nd, rfl⟩⟩))
      go_ret
      exact ⟨er2, belowg1 HB GE111⟩
    ·replace c37 := Bool.eq_false_iff.mpr c37
     subst c37
     have H1 : (some false) = some r := by rw [if_neg (show ¬ (false = true) by decide)] at H; exact H
     clear H
     have H := H1
     clear H1
     obtain rfl := Option.some.inj H
     obtain ⟨hcz58_0, hcz58_1, hcz58_2, hcz58_3, hcz58_4, hfz58_0, hfz58_1, hfz58_2, hfz58_3, hfz58_4⟩ := box5 BK111
     go_wp2_with (first | ((with_reducible refine gate_callee (f := 111) rfl ?_); refine goesLa (some 48) rfl Try.func111 #[.slice A0_0 l0_0.length c0_0] rfl ?_; (with_reducible refine (spec_l8Pool.calls k1 _ _ l0_0 false _ ?side1 ?side2 A36.out).mono ?_); (case side1 => exact cd (Kd.C_below HR0_0.out HB.out)); (case side2 => exact HC0_0.out); rintro e w' ⟨rfl, ⟨nd, rfl⟩⟩; refine ⟨_, rfl, ?_⟩))
     go_ret
     exact ⟨er2, belowg1 HB GE111⟩

end Go.Proofs.Ytkgogglnipdcfaa.QFnExactPutMix
