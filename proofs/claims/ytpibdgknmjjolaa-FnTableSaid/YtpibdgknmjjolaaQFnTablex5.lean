-- printed by this session's own program (wip/tools/pp.py: the kit's print.py with changes); Lean checks it
import Derived.Test.YtpibdgknmjjolaaQFnTablex0
import Derived.Test.YtpibdgknmjjolaaQFnTablex1
namespace Go.Proofs.Ytpibdgknmjjolaa.QFnTable
open Go.RowKit Go.Proofs.YtpibdgknmjjolaaW.PrintWords Go.Proofs.YtpibdgknmjjolaaW.PrintLast Go.Proofs.YtpibdgknmjjolaaW.PrintMore
attribute [local go_sem] max2_int min2_int max_two min_two max_three min_three max_four min_four strLss strGtr strLeq strGeq   -- for this text's walks alone
set_option linter.unusedVariables false
set_option linter.unusedSimpArgs false

/-! ### laws_sameInts: function 48 -/
def laws_sameInts.l0 : Nat → List Int → List Int → Int → Int → Option (Bool)
  | 0, _, _, _, _ => none
  | k + 1, x0, x1, x12, x13 => if x13 < x12 then (if 0 ≤ x13 then (if x13 < (x0.length : Int) then (if x13 < (x1.length : Int) then (if (rd x0 x13) = (rd x1 x13) then (laws_sameInts.l0 k x0 x1 x12 (wrap64 (x13 + 1))) else (some false)) else (none)) else (none)) else (none)) else (some true)
def laws_sameInts.f (k : Nat) (l0 : List Int) (l1 : List Int) : Option (Bool) := if (l0.length : Int) = (l1.length : Int) then (laws_sameInts.l0 k l0 l1 (l0.length : Int) 0) else (some false)
theorem laws_sameInts.mono_l : ∀ k, (∀ y0 y1 y2 y3, LeO (laws_sameInts.l0 k y0 y1 y2 y3) (laws_sameInts.l0 (k + 1) y0 y1 y2 y3))
 | 0 => fun _ _ _ _ r h => by simp [laws_sameInts.l0] at h
 | k + 1 => by
  have ih0 := laws_sameInts.mono_l k
  ·intro y0 y1 y2 y3
   unfold laws_sameInts.l0
   repeat' (first | (with_reducible first | exact ih0 _ _ _ _ | exact LeO.refl _ | exact LeO.none _ | refine LeO.ite ?_ ?_ | refine LeO.bind ?_ (fun _ => ?_)) | exact ih0 _ _ _ _ | exact LeO.none _ | refine LeO.ite ?_ ?_ | refine LeO.bind ?_ (fun _ => ?_))
theorem laws_sameInts.mono : ∀ a0 a1 k, LeO (laws_sameInts.f k a0 a1) (laws_sameInts.f (k + 1) a0 a1) := by
 intro a0 a1 k
 have ih0 := laws_sameInts.mono_l k
 unfold laws_sameInts.f
 repeat' (first | (with_reducible first | exact ih0 _ _ _ _ | exact LeO.refl _ | exact LeO.none _ | refine LeO.ite ?_ ?_ | refine LeO.bind ?_ (fun _ => ?_)) | exact ih0 _ _ _ _ | exact LeO.none _ | refine LeO.ite ?_ ?_ | refine LeO.bind ?_ (fun _ => ?_))
set_option maxHeartbeats 8000000 in
set_option maxRecDepth 100000 in
theorem laws_sameInts.calls (k : Nat) (A0 : Option Addr) (c0 : Nat) (l0 : List Int) (A1 : Option Addr) (c1 : Nat) (l1 : List Int) (r : Bool) (w : World) (hr0 : Kd.C (Kd.int .i64) w A0 l0.length l0) (hc0 : l0.length ≤ c0) (hr1 : Kd.C (Kd.int .i64) w A1 l1.length l1) (hc1 : l1.length ≤ c1) (h : laws_sameInts.f k l0 l1 = some r) :
  Calls Try.prog 48 #[.slice A0 l0.length c0, .slice A1 l1.length c1] w fun e w' => e = .returned (.bool r) ∧ Drawn0 w w' := by
 have HR0 := Aside0.mk hr0; have HC0 := Aside0.mk hc0; clear hr0 hc0; have HR1 := Aside0.mk hr1; have HC1 := Aside0.mk hc1; clear hr1 hc1
 have H : (if (l0.length : Int) = (l1.length : Int) then (laws_sameInts.l0 k l0 l1 (l0.length : Int) 0) else (some false)) = some r := h
 clear h
 by_cases c3 : (l0.length : Int) = (l1.length : Int)
 ·rw [if_pos c3] at H
  have c3b0 : ((l0.length : Int) == (l1.length : Int)) = true := beq_iff_eq.mpr c3
  have c3b1 : ((l0.length : Int) != (l1.length : Int)) = false := bne_eq_false_iff_eq.mpr c3
  have c3b2 : (l0.length == l1.length) = true := by first | simpa using c3 | (simp at c3 ⊢; omega)
  clear c3
  have H' := Aside0.mk H
  clear H
  go_enter Try.func48, Try.ntmps48
  go_wp2
  repeat (go_quiet (fail); try go_wp2)
  go_loopg [13] k (fun kq v13 w' => ∃ (x13_1 : Int), v13 = .int .i64 x13_1 ∧ Aside0 (laws_sameInts.l0 kq l0 l1 (l0.length : Int) x13_1 = some r) ∧ Aside0 (kq ≤ k) ∧ Drawn0 w w')
  case atStart => exact ⟨(0), er, H', ⟨Nat.le_refl _⟩, drw⟩
  case round =>
   clear H'
   (try clear c1); (try clear c3b0); (try clear c3b1); (try clear c3b2)
   obtain ⟨x13_1, rfl, HA, HK1, ⟨m1, rfl⟩⟩ := hrel
   cases gk with
   | zero => exact absurd HA.out (by simp [laws_sameInts.l0])
   | succ k1 =>
    have H := HA.out; clear HA
    simp only [laws_sameInts.l0] at H
    by_cases c4 : x13_1 < (l0.length : Int)
    ·rw [if_pos c4] at H
     have c4b0 : decide (x13_1 < (l0.length : Int)) = true := decide_eq_true c4
     clear c4; replace H := ifS H; obtain ⟨c5, H⟩ := H; have c5b0 := decide_eq_true c5; clear c5; replace H := ifS H; obtain ⟨c6, H⟩ := H; have c6b0 := decide_eq_true c6; clear c6; replace H := ifS H; obtain ⟨c7, H⟩ := H; have c7b0 := decide_eq_true c7; clear c7
     by_cases c8 : (rd l0 x13_1) = (rd l1 x13_1)
     ·rw [if_pos c8] at H
      have c8b0 : ((rd l0 x13_1) == (rd l1 x13_1)) = true := beq_iff_eq.mpr c8
      have c8b1 : ((rd l0 x13_1) != (rd l1 x13_1)) = false := bne_eq_false_iff_eq.mpr c8
      clear c8
      have H' := Aside0.mk H
      clear H
      have p242 : 0 ≤ (x13_1 : Int) := da
      have q242 : x13_1 < (l0.length : Int) := da
      obtain ⟨ad242, e242, hx242_0⟩ := Kd.at_int HR0.out x13_1 p242 q242
      cases e242
      replace p242 := eq_true p242; replace q242 := eq_true q242
      have p243 : 0 ≤ (x13_1 : Int) := da
      have q243 : x13_1 < (l1.length : Int) := da
      obtain ⟨ad243, e243, hx243_0⟩ := Kd.at_int HR1.out x13_1 p243 q243
      cases e243
      replace p243 := eq_true p243; replace q243 := eq_true q243; go_wp2
      repeat (go_quiet (fail); try go_wp2)
      go_roundg k1
      case measure => have := HK1.out; omega
      case rel => exact ⟨(wrap64 (x13_1 + 1)), er, H', ⟨by have := HK1.out; omega⟩, drw⟩
     ·rw [if_neg c8] at H
      have c8b0 : ((rd l0 x13_1) == (rd l1 x13_1)) = false := beq_eq_false_iff_ne.mpr c8
      have c8b1 : ((rd l0 x13_1) != (rd l1 x13_1)) = true := bne_iff_ne.mpr c8
      obtain rfl := Option.some.inj H
      have p242 : 0 ≤ (x13_1 : Int) := da
      have q242 : x13_1 < (l0.length : Int) := da
      obtain ⟨ad242, e242, hx242_0⟩ := Kd.at_int HR0.out x13_1 p242 q242
      cases e242
      replace p242 := eq_true p242; replace q242 := eq_true q242
      have p243 : 0 ≤ (x13_1 : Int) := da
      have q243 : x13_1 < (l1.length : Int) := da
      obtain ⟨ad243, e243, hx243_0⟩ := Kd.at_int HR1.out x13_1 p243 q243
      cases e243
      replace p243 := eq_true p243; replace q243 := eq_true q243; go_wp2
      repeat (go_quiet (fail); try go_wp2)
      go_ret
      exact ⟨er, drw⟩
    ·rw [if_neg c4] at H
     have c4b0 : decide (x13_1 < (l0.length : Int)) = false := decide_eq_false c4
     clear c4
     obtain rfl := Option.some.inj H
     go_wp2
     repeat (go_quiet (fail); try go_wp2)
     go_ret
     exact ⟨er, drw⟩
 ·rw [if_neg c3] at H
  have c3b0 : ((l0.length : Int) == (l1.length : Int)) = false := beq_eq_false_iff_ne.mpr c3
  have c3b1 : ((l0.length : Int) != (l1.length : Int)) = true := bne_iff_ne.mpr c3
  have c3b2 : (l0.length == l1.length) = false := by first | simpa using c3 | (simp at c3 ⊢; omega)
  obtain rfl := Option.some.inj H
  go_enter Try.func48, Try.ntmps48
  go_wp2
  repeat (go_quiet (fail); try go_wp2)
  go_ret
  exact ⟨er, drw⟩

/-! ### spec_l15Two: function 108 -/
def spec_l15Two.f (k : Nat) (a0_0 : Int) (l0_1 : List (List Int)) (l0_2 : List Int) (a1 : Int) (a2 : Int) : Option (Bool) := (spec_GoodTable.f k a0_0 l0_1 l0_2).bind fun t245 => (if t245 = true then ((spec_l1In.f a1 0 (wrap64 (a0_0 - 1))).bind fun t246 => (if t246 = true then ((spec_l1In.f a2 0 (wrap64 (a0_0 - 1))).bind fun t247 => (some t247)) else (some false))) else (some false))
theorem spec_l15Two.mono : ∀ a0 a1 a2 a3 a4 k, LeO (spec_l15Two.f k a0 a1 a2 a3 a4) (spec_l15Two.f (k + 1) a0 a1 a2 a3 a4) := by
 intro a0 a1 a2 a3 a4 k
 unfold spec_l15Two.f
 repeat' (first | (with_reducible first | exact spec_GoodTable.mono _ _ _ _ | exact LeO.refl _ | exact LeO.none _ | refine LeO.ite ?_ ?_ | refine LeO.bind ?_ (fun _ => ?_)) | exact spec_GoodTable.mono _ _ _ _ | exact LeO.none _ | refine LeO.ite ?_ ?_ | refine LeO.bind ?_ (fun _ => ?_))
set_option maxHeartbeats 8000000 in
set_option maxRecDepth 100000 in
theorem spec_l15Two.calls (k : Nat) (a0_0 : Int) (A0_1 : Option Addr) (c0_1 : Nat) (l0_1 : List (List Int)) (A0_2 : Option Addr) (c0_2 : Nat) (l0_2 : List Int) (a1 : Int) (a2 : Int) (r : Bool) (w : World) (hr0_1 : Kd.C (Kd.slice 3 (Kd.int .i64)) w A0_1 l0_1.length l0_1) (hc0_1 : l0_1.length ≤ c0_1) (hr0_2 : Kd.C (Kd.int .i64) w A0_2 l0_2.length l0_2) (hc0_2 : l0_2.length ≤ c0_2) (h : spec_l15Two.f k a0_0 l0_1 l0_2 a1 a2 = some r) :
  Calls Try.prog 108 #[.agg #[.int .i64 a0_0, .slice A0_1 l0_1.length c0_1, .slice A0_2 l0_2.length c0_2], .int .i64 a1, .int .i64 a2] w fun e w' => e = .returned (.bool r) ∧ Below w.heap.size w w' := by
 have hu38 := Try.underlying38
 have HR0_1 := Aside0.mk hr0_1; have HC0_1 := Aside0.mk hc0_1; clear hr0_1 hc0_1; have HR0_2 := Aside0.mk hr0_2; have HC0_2 := Aside0.mk hc0_2; clear hr0_2 hc0_2
 have HB := Aside0.mk (Below.refl w.heap.size w)
 have H : ((spec_GoodTable.f k a0_0 l0_1 l0_2).bind fun t245 => (if t245 = true then ((spec_l1In.f a1 0 (wrap64 (a0_0 - 1))).bind fun t246 => (if t246 = true then ((spec_l1In.f a2 0 (wrap64 (a0_0 - 1))).bind fun t247 => (some t247)) else (some false))) else (some false))) = some r := h
 clear h; replace H := bS H; obtain ⟨t245, A4, H⟩ := H
 replace H : (if t245 = true then ((spec_l1In.f a1 0 (wrap64 (a0_0 - 1))).bind fun t246 => (if t246 = true then ((spec_l1In.f a2 0 (wrap64 (a0_0 - 1))).bind fun t247 => (some t247)) else (some false))) else (some false)) = some r := H
 by_cases c5 : t245 = true
 ·subst c5
  have H1 : ((spec_l1In.f a1 0 (wrap64 (a0_0 - 1))).bind fun t246 => (if t246 = true then ((spec_l1In.f a2 0 (wrap64 (a0_0 - 1))).bind fun t247 => (some t247)) else (some false))) = some r := by rw [if_pos rfl] at H; exact H
  clear H
  have H := H1
  clear H1; replace H := bS H; obtain ⟨t246, A6, H⟩ := H
  replace H : (if t246 = true then ((spec_l1In.f a2 0 (wrap64 (a0_0 - 1))).bind fun t247 => (some t247)) else (some false)) = some r := H
  by_cases c7 : t246 = true
  ·subst c7
   have H1 : ((spec_l1In.f a2 0 (wrap64 (a0_0 - 1))).bind fun t247 => (some t247)) = some r := by rw [if_pos rfl] at H; exact H
   clear H
   have H := H1
   clear H1; replace H := bS H; obtain ⟨t247, A8, H⟩ := H
   replace H : (some t247) = some r := H
   obtain rfl := Option.some.inj H
   go_enter Try.func108, Try.ntmps108
   go_wp2_with (first | ((with_reducible refine gate_dst (N := 3) rfl ?_); refine boxev 3 #[.int .i64 a0_0, .slice A0_1 l0_1.length c0_1, .slice A0_2 l0_2.length c0_2] 38 ?_; intro gb244 hg w9 hbox hb; have BK244 := ak (hbox); have GW244 := ak (hgl hg (belowd HB)); have GE244 := ak (hgl hg (belowd HB)); replace HB := ak (below_step (belowd HB) hb); clear hb hbox hg; obtain ⟨hcz10_0, hcz10_1, hcz10_2, hfz10_0, hfz10_1, hfz10_2⟩ := box3 BK244) | ((with_reducible refine gate_callee (f := 60) rfl ?_); refine goesLa (some 8) rfl Try.func60 #[.agg #[.int .i64 a0_0, .slice A0_1 l0_1.length c0_1, .slice A0_2 l0_2.length c0_2]] rfl ?_; (with_reducible refine (spec_GoodTable.calls k a0_0 _ _ l0_1 _ _ l0_2 true _ ?side1 ?side2 ?side3 ?side4 A4.out).mono ?_); (case side1 => exact cd (Kd.C_below HR0_1.out HB.out)); (case side2 => exact HC0_1.out); (case side3 => exact cd (Kd.C_below HR0_2.out HB.out)); (case side4 => exact HC0_2.out); rintro e w11 ⟨rfl, hb⟩; refine ⟨_, rfl, ?_⟩; replace BK244 := ak (blk_below (blkd BK244) hb); replace HB := ak (below_step (belowg1 HB GE244) hb); (try clear hb); obtain ⟨hcz12_0, hcz12_1, hcz12_2, hfz12_0, hfz12_1, hfz12_2⟩ := box3 BK244) | (go_at_call 81; (with_reducible refine (spec_l1In.calls a1 0 (wrap64 (a0_0 - 1)) true _ A6.out).mono ?_); rintro e w' ⟨rfl, ⟨nd, rfl⟩⟩) | (go_at_call 81; (with_reducible refine (spec_l1In.calls a2 0 (wrap64 (a0_0 - 1)) t247 _ A8.out).mono ?_); rintro e w' ⟨rfl, ⟨nd, rfl⟩⟩))
   go_ret
   exact ⟨er2, belowg1 HB GE244⟩
  ·replace c7 := Bool.eq_false_iff.mpr c7
   subst c7
   have H1 : (some false) = some r := by rw [if_neg (show ¬ (false = true) by decide)] at H; exact H
   clear H
   have H := H1
   clear H1
   obtain rfl := Option.some.inj H
   go_enter Try.func108, Try.ntmps108
   go_wp2_with (first | ((with_reducible refine gate_dst (N := 3) rfl ?_); refine boxev 3 #[.int .i64 a0_0, .slice A0_1 l0_1.length c0_1, .slice A0_2 l0_2.length c0_2] 38 ?_; intro gb244 hg w13 hbox hb; have BK244 := ak (hbox); have GW244 := ak (hgl hg (belowd HB)); have GE244 := ak (hgl hg (belowd HB)); replace HB := ak (below_step (belowd HB) hb); clear hb hbox hg; obtain ⟨hcz14_0, hcz14_1, hcz14_2, hfz14_0, hfz14_1, hfz14_2⟩ := box3 BK244) | ((with_reducible refine gate_callee (f := 60) rfl ?_); refine goesLa (some 8) rfl Try.func60 #[.agg #[.int .i64 a0_0, .slice A0_1 l0_1.length c0_1, .slice A0_2 l0_2.length c0_2]] rfl ?_; (with_reducible refine (spec_GoodTable.calls k a0_0 _ _ l0_1 _ _ l0_2 true _ ?side1 ?side2 ?side3 ?side4 A4.out).mono ?_); (case side1 => exact cd (Kd.C_below HR0_1.out HB.out)); (case side2 => exact HC0_1.out); (case side3 => exact cd (Kd.C_below HR0_2.out HB.out)); (case side4 => exact HC0_2.out); rintro e w15 ⟨rfl, hb⟩; refine ⟨_, rfl, ?_⟩; replace BK244 := ak (blk_below (blkd BK244) hb); replace HB := ak (below_step (belowg1 HB GE244) hb); (try clear hb); obtain ⟨hcz16_0, hcz16_1, hcz16_2, hfz16_0, hfz16_1, hfz16_2⟩ := box3 BK244) | (go_at_call 81; (with_reducible refine (spec_l1In.calls a1 0 (wrap64 (a0_0 - 1)) false _ A6.out).mono ?_); rintro e w' ⟨rfl, ⟨nd, rfl⟩⟩))
   go_ret
   exact ⟨er2, belowg1 HB GE244⟩
 ·replace c5 := Bool.eq_false_iff.mpr c5
  subst c5
  have H1 : (some false) = some r := by rw [if_neg (show ¬ (false = true) by decide)] at H; exact H
  clear H
  have H := H1
  clear H1
  obtain rfl := Option.some.inj H
  go_enter Try.func108, Try.ntmps108
  go_wp2_with (first | ((with_reducible refine gate_dst (N := 3) rfl ?_); refine boxev 3 #[.int .i64 a0_0, .slice A0_1 l0_1.length c0_1, .slice A0_2 l0_2.length c0_2] 38 ?_; intro gb244 hg w17 hbox hb; have BK244 := ak (hbox); have GW244 := ak (hgl hg (belowd HB)); have GE244 := ak (hgl hg (belowd HB)); replace HB := ak (below_step (belowd HB) hb); clear hb hbox hg; obtain ⟨hcz18_0, hcz18_1, hcz18_2, hfz18_0, hfz18_1, hfz18_2⟩ := box3 BK244) | ((with_reducible refine gate_callee (f := 60) rfl ?_); refine goesLa (some 8) rfl Try.func60 #[.agg #[.int .i64 a0_0, .slice A0_1 l0_1.length c0_1, .slice A0_2 l0_2.length c0_2]] rfl ?_; (with_reducible refine (spec_GoodTable.calls k a0_0 _ _ l0_1 _ _ l0_2 false _ ?side1 ?side2 ?side3 ?side4 A4.out).mono ?_); (case side1 => exact cd (Kd.C_below HR0_1.out HB.out)); (case side2 => exact HC0_1.out); (case side3 => exact cd (Kd.C_below HR0_2.out HB.out)); (case side4 => exact HC0_2.out); rintro e w19 ⟨rfl, hb⟩; refine ⟨_, rfl, ?_⟩; replace BK244 := ak (blk_below (blkd BK244) hb); replace HB := ak (below_step (belowg1 HB GE244) hb); (try clear hb)))
  go_ret
  exact ⟨er2, belowg1 HB GE244⟩

/-! ### spec_l15Far: function 106 -/
mutual
def spec_l15Far.l0 : Nat → Int → List Int → Int → Int → List (List Int) → List Int → Option (List Int)
  | 0, _, _, _, _, _, _ => none
  | k + 1, x1, x5, x6, x249000, x249001, x249002 => if x6 < x249000 then (if x5.length < 17592186044416 then (spec_l15Far.l0 k x1 (x5 ++ [(-1)]) (wrap64 (x6 + 1)) x249000 x249001 x249002) else (none)) else (if 0 ≤ x1 then (if x1 < (x5.length : Int) then (spec_l15Far.l1 k (x5.set (x1 : Int).toNat 0) 0 x249000 x249001 x249002) else (none)) else (none))
def spec_l15Far.l1 : Nat → List Int → Int → Int → List (List Int) → List Int → Option (List Int)
  | 0, _, _, _, _, _ => none
  | k + 1, x5, x7, x249000, x249001, x249002 => if x7 < x249000 then (spec_l15Far.l2 k x5 x7 x249001 (x249001.length : Int) 0 x249000 x249001 x249002) else (some x5)
def spec_l15Far.l2 : Nat → List Int → Int → List (List Int) → Int → Int → Int → List (List Int) → List Int → Option (List Int)
  | 0, _, _, _, _, _, _, _, _ => none
  | k + 1, x5, x7, x29, x30, x31, x249000, x249001, x249002 => if x31 < x30 then (if 0 ≤ x31 then (if x31 < (x29.length : Int) then (if 0 < ((rd_L1 x29 x31).length : Int) then (if 0 ≤ (rd (rd_L1 x29 x31) 0) then (if (rd (rd_L1 x29 x31) 0) < (x5.length : Int) then (if (rd x5 (rd (rd_L1 x29 x31) 0)) = x7 then (if 1 < ((rd_L1 x29 x31).length : Int) then (if 0 ≤ (rd (rd_L1 x29 x31) 1) then (if (rd (rd_L1 x29 x31) 1) < (x5.length : Int) then (spec_l15Far.j3 k x5 x7 (rd_L1 x29 x31) x29 x30 x31 (decide ((rd x5 (rd (rd_L1 x29 x31) 1)) < 0)) x249000 x249001 x249002) else (none)) else (none)) else (none)) else (spec_l15Far.j3 k x5 x7 (rd_L1 x29 x31) x29 x30 x31 false x249000 x249001 x249002)) else (none)) else (none)) else (none)) else (none)) else (none)) else (spec_l15Far.l1 k x5 (wrap64 (x7 + 1)) x249000 x249001 x249002)
def spec_l15Far.j3 : Nat → List Int → Int → List Int → List (List Int) → Int → Int → Bool → Int → List (List Int) → List Int → Option (List Int)
  | 0, _, _, _, _, _, _, _, _, _, _ => none
  | k + 1, x5, x7, x9, x29, x30, x31, x51, x249000, x249001, x249002 => if x51 = true then (if 1 < (x9.length : Int) then (if 0 ≤ (rd x9 1) then (if (rd x9 1) < (x5.length : Int) then ((some (x5.set ((rd x9 1) : Int).toNat (wrap64 (x7 + 1)) : List Int)).bind fun y259 => (if (rd y259 (rd x9 1)) = x7 then (if 0 < (x9.length : Int) then (if 0 ≤ (rd x9 0) then (if (rd x9 0) < (x5.length : Int) then (if (rd y259 (rd x9 0)) < 0 then (spec_l15Far.l2 k (y259.set ((rd x9 0) : Int).toNat (wrap64 (x7 + 1))) x7 x29 x30 (wrap64 (x31 + 1)) x249000 x249001 x249002) else (spec_l15Far.l2 k y259 x7 x29 x30 (wrap64 (x31 + 1)) x249000 x249001 x249002)) else (none)) else (none)) else (none)) else (spec_l15Far.l2 k y259 x7 x29 x30 (wrap64 (x31 + 1)) x249000 x249001 x249002))) else (none)) else (none)) else (none)) else (if 1 < (x9.length : Int) then (if 0 ≤ (rd x9 1) then (if (rd x9 1) < (x5.length : Int) then (if (rd x5 (rd x9 1)) = x7 then (if 0 < (x9.length : Int) then (if 0 ≤ (rd x9 0) then (if (rd x9 0) < (x5.length : Int) then (if (rd x5 (rd x9 0)) < 0 then (spec_l15Far.l2 k (x5.set ((rd x9 0) : Int).toNat (wrap64 (x7 + 1))) x7 x29 x30 (wrap64 (x31 + 1)) x249000 x249001 x249002) else (spec_l15Far.l2 k x5 x7 x29 x30 (wrap64 (x31 + 1)) x249000 x249001 x249002)) else (none)) else (none)) else (none)) else (spec_l15Far.l2 k x5 x7 x29 x30 (wrap64 (x31 + 1)) x249000 x249001 x249002)) else (none)) else (none)) else (none))
end
def spec_l15Far.f (k : Nat) (a0_0 : Int) (l0_1 : List (List Int)) (l0_2 : List Int) (a1 : Int) : Option (List Int) := spec_l15Far.l0 k a1 ([] : List Int) 0 a0_0 l0_1 l0_2
theorem spec_l15Far.mono_l : ∀ k, (∀ y0 y1 y2 y3 y4 y5, LeO (spec_l15Far.l0 k y0 y1 y2 y3 y4 y5) (spec_l15Far.l0 (k + 1) y0 y1 y2 y3 y4 y5)) ∧ (∀ y0 y1 y2 y3 y4, LeO (spec_l15Far.l1 k y0 y1 y2 y3 y4) (spec_l15Far.l1 (k + 1) y0 y1 y2 y3 y4)) ∧ (∀ y0 y1 y2 y3 y4 y5 y6 y7, LeO (spec_l15Far.l2 k y0 y1 y2 y3 y4 y5 y6 y7) (spec_l15Far.l2 (k + 1) y0 y1 y2 y3 y4 y5 y6 y7)) ∧ (∀ y0 y1 y2 y3 y4 y5 y6 y7 y8 y9, LeO (spec_l15Far.j3 k y0 y1 y2 y3 y4 y5 y6 y7 y8 y9) (spec_l15Far.j3 (k + 1) y0 y1 y2 y3 y4 y5 y6 y7 y8 y9))
 | 0 => ⟨fun _ _ _ _ _ _ r h => by simp [spec_l15Far.l0] at h, fun _ _ _ _ _ r h => by simp [spec_l15Far.l1] at h, fun _ _ _ _ _ _ _ _ r h => by simp [spec_l15Far.l2] at h, fun _ _ _ _ _ _ _ _ _ _ r h => by simp [spec_l15Far.j3] at h⟩
 | k + 1 => by
  obtain ⟨ih0, ih1, ih2, ih3⟩ := spec_l15Far.mono_l k
  refine ⟨?_, ?_, ?_, ?_⟩
  ·intro y0 y1 y2 y3 y4 y5
   unfold spec_l15Far.l0
   repeat' (first | (with_reducible first | exact ih0 _ _ _ _ _ _ | exact ih1 _ _ _ _ _ | exact ih2 _ _ _ _ _ _ _ _ | exact ih3 _ _ _ _ _ _ _ _ _ _ | exact LeO.refl _ | exact LeO.none _ | refine LeO.ite ?_ ?_ | refine LeO.bind ?_ (fun _ => ?_)) | exact ih0 _ _ _ _ _ _ | exact ih1 _ _ _ _ _ | exact ih2 _ _ _ _ _ _ _ _ | exact ih3 _ _ _ _ _ _ _ _ _ _ | exact LeO.none _ | refine LeO.ite ?_ ?_ | refine LeO.bind ?_ (fun _ => ?_))
  ·intro y0 y1 y2 y3 y4
   unfold spec_l15Far.l1
   repeat' (first | (with_reducible first | exact ih0 _ _ _ _ _ _ | exact ih1 _ _ _ _ _ | exact ih2 _ _ _ _ _ _ _ _ | exact ih3 _ _ _ _ _ _ _ _ _ _ | exact LeO.refl _ | exact LeO.none _ | refine LeO.ite ?_ ?_ | refine LeO.bind ?_ (fun _ => ?_)) | exact ih0 _ _ _ _ _ _ | exact ih1 _ _ _ _ _ | exact ih2 _ _ _ _ _ _ _ _ | exact ih3 _ _ _ _ _ _ _ _ _ _ | exact LeO.none _ | refine LeO.ite ?_ ?_ | refine LeO.bind ?_ (fun _ => ?_))
  ·intro y0 y1 y2 y3 y4 y5 y6 y7
   unfold spec_l15Far.l2
   repeat' (first | (with_reducible first | exact ih0 _ _ _ _ _ _ | exact ih1 _ _ _ _ _ | exact ih2 _ _ _ _ _ _ _ _ | exact ih3 _ _ _ _ _ _ _ _ _ _ | exact LeO.refl _ | exact LeO.none _ | refine LeO.ite ?_ ?_ | refine LeO.bind ?_ (fun _ => ?_)) | exact ih0 _ _ _ _ _ _ | exact ih1 _ _ _ _ _ | exact ih2 _ _ _ _ _ _ _ _ | exact ih3 _ _ _ _ _ _ _ _ _ _ | exact LeO.none _ | refine LeO.ite ?_ ?_ | refine LeO.bind ?_ (fun _ => ?_))
  ·intro y0 y1 y2 y3 y4 y5 y6 y7 y8 y9
   unfold spec_l15Far.j3
   repeat' (first | (with_reducible first | exact ih0 _ _ _ _ _ _ | exact ih1 _ _ _ _ _ | exact ih2 _ _ _ _ _ _ _ _ | exact ih3 _ _ _ _ _ _ _ _ _ _ | exact LeO.refl _ | exact LeO.none _ | refine LeO.ite ?_ ?_ | refine LeO.bind ?_ (fun _ => ?_)) | exact ih0 _ _ _ _ _ _ | exact ih1 _ _ _ _ _ | exact ih2 _ _ _ _ _ _ _ _ | exact ih3 _ _ _ _ _ _ _ _ _ _ | exact LeO.none _ | refine LeO.ite ?_ ?_ | refine LeO.bind ?_ (fun _ => ?_))
theorem spec_l15Far.mono : ∀ a0 a1 a2 a3 k, LeO (spec_l15Far.f k a0 a1 a2 a3) (spec_l15Far.f (k + 1) a0 a1 a2 a3) := by
 intro a0 a1 a2 a3 k
 obtain ⟨ih0, ih1, ih2, ih3⟩ := spec_l15Far.mono_l k
 unfold spec_l15Far.f
 repeat' (first | (with_reducible first | exact ih0 _ _ _ _ _ _ | exact ih1 _ _ _ _ _ | exact ih2 _ _ _ _ _ _ _ _ | exact ih3 _ _ _ _ _ _ _ _ _ _ | exact LeO.refl _ | exact LeO.none _ | refine LeO.ite ?_ ?_ | refine LeO.bind ?_ (fun _ => ?_)) | exact ih0 _ _ _ _ _ _ | exact ih1 _ _ _ _ _ | exact ih2 _ _ _ _ _ _ _ _ | exact ih3 _ _ _ _ _ _ _ _ _ _ | exact LeO.none _ | refine LeO.ite ?_ ?_ | refine LeO.bind ?_ (fun _ => ?_))
set_option maxHeartbeats 8000000 in
set_option maxRecDepth 100000 in
theorem spec_l15Far.calls (k : Nat) (a0_0 : Int) (A0_1 : Option Addr) (c0_1 : Nat) (l0_1 : List (List Int)) (A0_2 : Option Addr) (c0_2 : Nat) (l0_2 : List Int) (a1 : Int) (r : List Int) (w : World) (hr0_1 : Kd.C (Kd.slice 3 (Kd.int .i64)) w A0_1 l0_1.length l0_1) (hc0_1 : l0_1.length ≤ c0_1) (hr0_2 : Kd.C (Kd.int .i64) w A0_2 l0_2.length l0_2) (hc0_2 : l0_2.length ≤ c0_2) (h : spec_l15Far.f k a0_0 l0_1 l0_2 a1 = some r) :
  Calls Try.prog 106 #[.agg #[.int .i64 a0_0, .slice A0_1 l0_1.length c0_1, .slice A0_2 l0_2.length c0_2], .int .i64 a1] w fun e w' => ∃ v0_ : Value, e = .returned (v0_) ∧ Kd.R (Kd.int .i64) 3 w' w.heap.size (fun _ => True) v0_ r ∧ Below w.heap.size w w' := by
 have hu38 := Try.underlying38
 have HR0_1 := Aside0.mk hr0_1; have HC0_1 := Aside0.mk hc0_1; clear hr0_1 hc0_1; have HR0_2 := Aside0.mk hr0_2; have HC0_2 := Aside0.mk hc0_2; clear hr0_2 hc0_2
 have HB := Aside0.mk (Below.refl w.heap.size w)
 have H : (spec_l15Far.l0 k a1 ([] : List Int) 0 a0_0 l0_1 l0_2) = some r := h
 clear h
 have H' := Aside0.mk H
 clear H
 go_enter Try.func106, Try.ntmps106
 go_wp2_with (first | ((with_reducible refine gate_dst (N := 2) rfl ?_); refine boxev 2 #[.int .i64 a0_0, .slice A0_1 l0_1.length c0_1, .slice A0_2 l0_2.length c0_2] 38 ?_; intro gb248 hg w3 hbox hb; have BK248 := ak (hbox); have GW248 := ak (hgl hg (belowd HB)); have GE248 := ak (hgl hg (belowd HB)); replace HB := ak (below_step (belowd HB) hb); clear hb hbox hg))
 go_loopg [5, 6] k (fun kq v5 v6 w' => ∃ (x5_1 : List Int) (x6_1 : Int), v6 = .int .i64 x6_1 ∧ Aside0 (spec_l15Far.l0 kq a1 x5_1 x6_1 a0_0 l0_1 l0_2 = some r) ∧ Aside0 (kq ≤ k) ∧ Aside0 (Kd.R (Kd.int .i64) 3 w' w.heap.size (fun _ => True) v5 x5_1) ∧ Aside0 (w'.heap[gb248]? = some (.cells #[.int .i64 a0_0, (.slice A0_1 l0_1.length c0_1), (.slice A0_2 l0_2.length c0_2)] 38 (0, 0))) ∧ Aside0 (Below w.heap.size w w'))
 case atStart => exact ⟨(([] : List Int)), (0), er, H', ⟨Nat.le_refl _⟩, ⟨by first | exact Kd.R_nil _ _ _ _ _ | exact Kd.N_nil _ _ _ _ _ | exact Kd.V_nil _ _ _ _ _ | exact Kd.Q_nil _ _ _ _ _ | exact Kd.S_nil _ _ _ _ _⟩, ⟨blkd BK248⟩, ⟨belowg1 HB GE248⟩⟩
 case round =>
  clear H'
  obtain ⟨x5_1, x6_1, rfl, HA, HK1, HO_5, BK248, HB⟩ := hrel
  cases gk with
  | zero => exact absurd HA.out (by simp [spec_l15Far.l0])
  | succ k1 =>
   have H := HA.out; clear HA
   simp only [spec_l15Far.l0] at H
   by_cases c4 : x6_1 < a0_0
   ·rw [if_pos c4] at H
    have c4b0 : decide (x6_1 < a0_0) = true := decide_eq_true c4
    clear c4; replace H := ifS H; obtain ⟨c5, H⟩ := H; have LMc5 := Aside0.mk c5; clear c5
    obtain ⟨y249, hy_⟩ : ∃ y_ : List Int, y_ = (x5_1 ++ [(-1)]) := ⟨_, rfl⟩
    replace H : (spec_l15Far.l0 k1 a1 y249 (wrap64 (x6_1 + 1)) a0_0 l0_1 l0_2) = some r := yH
    have Ny249 := ak hy_; clear hy_
    have H' := Aside0.mk H
    clear H; obtain ⟨hcz6_0, hcz6_1, hcz6_2, hfz6_0, hfz6_1, hfz6_2⟩ := box3 BK248
    go_wp2_with (first | ((with_reducible refine gate_builtin (b := .append) (xs := #[.tmp 16, .tmp 17]) rfl ?_); at_builtin; refine Kd.R_append (Kd.int .i64) (w0 := w) w.heap.size rfl (.tmp 16) (.tmp 17) 22 3 (.int .i64 0) 8 rfl Try.underlying22 info3 rfl (by decide) (by omega) u5 x5_1 (-1) [.int .i64 (-1)] (fun _ => True) (fun _ => False) rfl rfl ?aP (fun _ hk => hk.elim) ?aF ?aO ?aB ?aS ?aL ?_; (case aP => exact rfl); (case aB => exact (belowg1 HB GE248)); (case aF => exact (fun _ _ => trivial)); (case aO => exact (rdl HO_5)); (case aS => exact (below_size (belowg1 HB GE248))); (case aL => have := LMc5.out; omega); intro v250 w7 ho hb hg hat; rw [← Ny249.out] at ho; replace BK248 := ak (blk_grown (blkd BK248) hg (Kd.R_ne HO_5.out BK248.out (by decide))); replace HB := ak (hb); have HO251 := ak (ho); clear HO_5; clear ho hb hg hat))
    go_roundg k1
    case measure => have := HK1.out; omega
    case rel => exact ⟨(y249), (wrap64 (x6_1 + 1)), er, H', ⟨by have := HK1.out; omega⟩, ⟨rdl HO251⟩, ⟨blkd BK248⟩, ⟨belowg1 HB GE248⟩⟩
   ·rw [if_neg c4] at H
    have c4b0 : decide (x6_1 < a0_0) = false := decide_eq_false c4
    clear c4; replace H := ifS H; obtain ⟨c8, H⟩ := H; have c8b0 := decide_eq_true c8; clear c8; replace H := ifS H; obtain ⟨c9, H⟩ := H; have c9b0 := decide_eq_true c9; clear c9
    obtain ⟨y252, hy_⟩ : ∃ y_ : List Int, y_ = (x5_1.set (a1 : Int).toNat 0) := ⟨_, rfl⟩
    replace H : (spec_l15Far.l1 k1 y252 0 a0_0 l0_1 l0_2) = some r := yH
    have Ny252 := ak hy_; clear hy_
    have H' := Aside0.mk H
    clear H; obtain ⟨hcz11_0, hcz11_1, hcz11_2, hfz11_0, hfz11_1, hfz11_2⟩ := box3 BK248
    have p10 : 0 ≤ (a1 : Int) := da
    have q10 : (a1 : Int) < ((x5_1.length : Int) : Int) := da
    obtain ⟨go10, co10, eo10, gb10, gl10, cl10, HG10⟩ := Kd.R_form HO_5.out (by omega)
    (first | cases eo10 | (injection eo10 with ea_ en_ ec_; (first | subst ea_ | (injection ea_ with ea_; subst ea_)); subst ec_; clear en_))
    have GB10 := Aside0.mk gb10; have GG10 := Aside0.mk HG10; clear gb10 gl10 HG10
    obtain ⟨hx10_0, hf10_0⟩ := Kd.R_celln 0 HO_5.out (a1 : Int) p10 q10
    replace p10 := eq_true p10; replace q10 := eq_true q10
    have HP12 := Kd.R_putg HO_5.out (a1 : Int) 0
    go_wp2_with (first | ((with_reducible refine gate_store (t := 3) (p := 21) rfl ?_); refine store_event (t := 3) (p := 21) (v := ?vo_w13) (w1 := (wr.setCell ⟨go10, (a1 : Int).toNat, none⟩ (.int .i64 0))) ?hg ?ho ?hn ?hr ?_; (case ho => rfl); (case hg => rfl); (case hn => rfl); (case hr => first | (go_simp; done) | (go_simp; rfl)); intro w13 hw; have hg : wr.grownBy w13 (some go10) := (by rw [hw]; exact HP12.2); have hp_ : Kd.R (Kd.int .i64) 3 w13 w.heap.size (fun _ => True) (.slice (some ⟨go10, 0, none⟩) x5_1.length co10) y252 := (by rw [hw, Ny252.out]; exact HP12.1); clear HP12; replace BK248 := ak (blk_grown (blkd BK248) hg (Kd.R_ne HO_5.out BK248.out (by decide))); replace HO_5 := ak (hp_); replace HB := ak ((by rw [hw]; exact below_set (HB.out) GB10.out : Below w.heap.size w w13)); clear hg hw hp_))
    go_loopg [7] k1 (fun kq v7 w' => ∃ (x5_2 : List Int) (x7_2 : Int), v7 = .int .i64 x7_2 ∧ Aside0 (spec_l15Far.l1 kq x5_2 x7_2 a0_0 l0_1 l0_2 = some r) ∧ Aside0 (kq ≤ k1) ∧ Aside0 (Kd.R (Kd.int .i64) 3 w' w.heap.size (fun _ => True) (.slice (some ⟨go10, 0, none⟩) x5_1.length co10) x5_2) ∧ Aside0 (w'.heap[gb248]? = some (.cells #[.int .i64 a0_0, (.slice A0_1 l0_1.length c0_1), (.slice A0_2 l0_2.length c0_2)] 38 (0, 0))) ∧ Aside0 (Below w.heap.size w w'))
    case atStart => exact ⟨(y252), (0), er, H', ⟨Nat.le_refl _⟩, ⟨rdl HO_5⟩, ⟨blkd BK248⟩, ⟨belowg1 HB GE248⟩⟩
    case round =>
     clear H'
     (try clear c4b0); (try clear c8b0); (try clear c9b0); (try clear p10); (try clear q10); (try clear hcz11_0); (try clear hcz11_1); (try clear hcz11_2); (try clear hfz11_0); (try clear hfz11_1); (try clear hfz11_2); (try clear hx10_0)
     obtain ⟨x5_2, x7_2, rfl, HA, HK2, HO_5, BK248, HB⟩ := hrel
     have hl5_2 := (Kd.R_reads' HO_5.out).1
     rw [hl5_2] at HO_5
     (try simp only [hl5_2])
     (try simp only [hl5_2] at BK248)
     cases gk with
     | zero => exact absurd HA.out (by simp [spec_l15Far.l1])
     | succ k2 =>
      have H := HA.out; clear HA
      simp only [spec_l15Far.l1] at H
      by_cases c14 : x7_2 < a0_0
      ·rw [if_pos c14] at H
       have c14b0 : decide (x7_2 < a0_0) = true := decide_eq_true c14
       clear c14
       have H' := Aside0.mk H
       clear H; obtain ⟨hcz15_0, hcz15_1, hcz15_2, hfz15_0, hfz15_1, hfz15_2⟩ := box3 BK248; go_wp2
       go_loopg [31] k2 (fun kq v31 w' => ∃ (x5_3 : List Int) (x31_3 : Int), v31 = .int .i64 x31_3 ∧ Aside0 (spec_l15Far.l2 kq x5_3 x7_2 l0_1 (l0_1.length : Int) x31_3 a0_0 l0_1 l0_2 = some r) ∧ Aside0 (kq ≤ k2) ∧ Aside0 (Kd.R (Kd.int .i64) 3 w' w.heap.size (fun _ => True) (.slice (some ⟨go10, 0, none⟩) x5_2.length co10) x5_3) ∧ Aside0 (w'.heap[gb248]? = some (.cells #[.int .i64 a0_0, (.slice A0_1 l0_1.length c0_1), (.slice A0_2 l0_2.length c0_2)] 38 (0, 0))) ∧ Aside0 (Below w.heap.size w w'))
       case atStart => exact ⟨(x5_2), (0), er, H', ⟨Nat.le_refl _⟩, ⟨by (try simp only [hl5_2]); (with_reducible repeat (first | apply Kd.R_alloc | apply Kd.R_drewN | apply Kd.R_drew)); exact HO_5.out⟩, ⟨by (try simp only [hl5_2]); (with_reducible repeat (first | refine blk_drewN ?_ _ | refine blk_drew ?_ | refine blk_alloc ?_ _)); exact BK248.out⟩, ⟨belowg1 HB GE248⟩⟩
       case round =>
        clear H'
        (try clear c14b0); (try clear hcz15_0); (try clear hcz15_1); (try clear hcz15_2); (try clear hfz15_0); (try clear hfz15_1); (try clear hfz15_2)
        obtain ⟨x5_3, x31_3, rfl, HA, HK3, HO_5, BK248, HB⟩ := hrel
        have hl5_3 := (Kd.R_reads' HO_5.out).1
        rw [hl5_3] at HO_5
        (try simp only [hl5_3])
        (try simp only [hl5_3] at BK248)
        cases gk with
        | zero => exact absurd HA.out (by simp [spec_l15Far.l2])
        | succ k3 =>
         have H := HA.out; clear HA
         simp only [spec_l15Far.l2] at H
         by_cases c16 : x31_3 < (l0_1.length : Int)
         ·rw [if_pos c16] at H
          have c16b0 : decide (x31_3 < (l0_1.length : Int)) = true := decide_eq_true c16
          clear c16; replace H := ifS H; obtain ⟨c17, H⟩ := H; have c17b0 := decide_eq_true c17; clear c17; replace H := ifS H; obtain ⟨c18, H⟩ := H; have c18b0 := decide_eq_true c18; clear c18; have HC19 := Aside0.mk H; clear H
          have p253 : 0 ≤ (x31_3 : Int) := da
          have q253 : x31_3 < (l0_1.length : Int) := da
          obtain ⟨ad253, A253_0, c253_0, e253, hx253_0, hl253_0, hi253_0⟩ := at_L1 HR0_1.out x31_3 p253 q253
          cases e253
          replace hx253_0 := (HB.out.cell (World.block_lt_of_cell? w _ hx253_0)).trans hx253_0
          have HR253_0 := Aside0.mk hi253_0; have HC253_0 := Aside0.mk hl253_0; clear hi253_0 hl253_0; replace p253 := eq_true p253; replace q253 := eq_true q253
          go_upto_region 13 with (fail)
          go_cut [51] (fun v51 wc => ∃ (kq : Nat) (x51_18 : Bool), v51 = .bool x51_18 ∧ Aside0 (spec_l15Far.j3 kq x5_3 x7_2 (rd_L1 l0_1 x31_3) l0_1 (l0_1.length : Int) x31_3 x51_18 a0_0 l0_1 l0_2 = some r) ∧ Aside0 (kq ≤ k3) ∧ Aside0 (Kd.R (Kd.int .i64) 3 wc w.heap.size (fun _ => True) (.slice (some ⟨go10, 0, none⟩) x5_3.length co10) x5_3) ∧ Aside0 (wc.heap[gb248]? = some (.cells #[.int .i64 a0_0, (.slice (some ad253) l0_1.length c0_1), (.slice A0_2 l0_2.length c0_2)] 38 (0, 0))) ∧ Aside0 (Below w.heap.size w wc))
          case first =>
           have H := HC19.out; clear HC19; replace H := ifS H; obtain ⟨c20, H⟩ := H; have c20b0 := decide_eq_true c20
           have c20b1 : decide (0 < (rd_L1 l0_1 x31_3).length) = true := decide_eq_true (by omega)
           clear c20
           (first | rw [c20b0] | (simp only [i64_w, i32_w]; rw [c20b0]) | skip)
           replace H := ifS H; obtain ⟨c21, H⟩ := H; have c21b0 := decide_eq_true c21; clear c21; replace H := ifS H; obtain ⟨c22, H⟩ := H; have c22b0 := decide_eq_true c22; clear c22
           by_cases c23 : (rd x5_3 (rd (rd_L1 l0_1 x31_3) 0)) = x7_2
           ·rw [if_pos c23] at H
            have c23b0 : ((rd x5_3 (rd (rd_L1 l0_1 x31_3) 0)) == x7_2) = true := beq_iff_eq.mpr c23
            have c23b1 : ((rd x5_3 (rd (rd_L1 l0_1 x31_3) 0)) != x7_2) = false := bne_eq_false_iff_eq.mpr c23
            clear c23; replace H := ifS H; obtain ⟨c24, H⟩ := H; have c24b0 := decide_eq_true c24
            have c24b1 : decide (1 < (rd_L1 l0_1 x31_3).length) = true := decide_eq_true (by omega)
            clear c24; replace H := ifS H; obtain ⟨c25, H⟩ := H; have c25b0 := decide_eq_true c25; clear c25; replace H := ifS H; obtain ⟨c26, H⟩ := H; have c26b0 := decide_eq_true c26; clear c26
            have H' := Aside0.mk H
            clear H
            have p254 : 0 ≤ (0 : Int) := (by omega)
            have q254 : 0 < ((rd_L1 l0_1 x31_3).length : Int) := da
            obtain ⟨ad254, e254, hx254_0⟩ := Kd.at_int HR253_0.out 0 p254 q254
            cases e254
            have qi254 : (0 < (rd_L1 l0_1 x31_3).length) = True := eq_true (by omega)
            (try rw [show ((0 : Int)).toNat = 0 from rfl] at hx254_0)
            (try rw [Addr.add_zero'] at hx254_0)
            replace hx254_0 := (HB.out.cell (World.block_lt_of_cell? w _ hx254_0)).trans hx254_0
            replace p254 := eq_true p254; replace q254 := eq_true q254
            have p255 : 0 ≤ ((rd (rd_L1 l0_1 x31_3) 0) : Int) := da
            have q255 : (rd (rd_L1 l0_1 x31_3) 0) < (x5_3.length : Int) := da
            obtain ⟨ad255, e255, hx255_0⟩ := Kd.at_int (Kd.R_reads' HO_5.out).2.2 (rd (rd_L1 l0_1 x31_3) 0) p255 q255
            obtain rfl : (⟨go10, 0, none⟩ : Addr) = ad255 := (by injection e255)
            (first | simp only [add_plain] at hx255_0 | simp only [add_at] at hx255_0 | simp only [Addr.add, Nat.zero_add] at hx255_0 | skip)
            replace p255 := eq_true p255; replace q255 := eq_true q255
            have p256 : 0 ≤ (1 : Int) := (by omega)
            have q256 : 1 < ((rd_L1 l0_1 x31_3).length : Int) := da
            obtain ⟨ad256, e256, hx256_0⟩ := Kd.at_int HR253_0.out 1 p256 q256
            obtain rfl : ad254 = ad256 := (by injection e256)
            (try simp only [show (1 : Int).toNat = 1 from rfl, Nat.reduceMul, Nat.reduceEqDiff, Go.Addr.add, ↓reduceIte] at hx256_0)
            have qi256 : (1 < (rd_L1 l0_1 x31_3).length) = True := eq_true (by omega)
            (try rw [show ((1 : Int)).toNat = 1 from rfl] at hx256_0)
            replace hx256_0 := (HB.out.cell (World.block_lt_of_cell? w _ hx256_0)).trans hx256_0
            replace p256 := eq_true p256; replace q256 := eq_true q256
            have p257 : 0 ≤ ((rd (rd_L1 l0_1 x31_3) 1) : Int) := da
            have q257 : (rd (rd_L1 l0_1 x31_3) 1) < (x5_3.length : Int) := da
            obtain ⟨ad257, e257, hx257_0⟩ := Kd.at_int (Kd.R_reads' HO_5.out).2.2 (rd (rd_L1 l0_1 x31_3) 1) p257 q257
            obtain rfl : (⟨go10, 0, none⟩ : Addr) = ad257 := (by injection e257)
            (first | simp only [add_plain] at hx257_0 | simp only [add_at] at hx257_0 | simp only [Addr.add, Nat.zero_add] at hx257_0 | skip)
            replace p257 := eq_true p257; replace q257 := eq_true q257; go_wp2
            go_meet
            case rel => exact ⟨_, (decide ((rd x5_3 (rd (rd_L1 l0_1 x31_3) 1)) < 0)), er, H', ⟨by have := HK1.out; have := HK2.out; have := HK3.out; first | omega | exact Nat.le_refl _⟩, ⟨by (try simp only [hl5_2]); (try simp only [hl5_3]); (with_reducible repeat (first | apply Kd.R_alloc | apply Kd.R_drewN | apply Kd.R_drew)); exact HO_5.out⟩, ⟨by (try simp only [hl5_2]); (try simp only [hl5_3]); (with_reducible repeat (first | refine blk_drewN ?_ _ | refine blk_drew ?_ | refine blk_alloc ?_ _)); exact BK248.out⟩, ⟨belowg1 HB GE248⟩⟩
           ·rw [if_neg c23] at H
            have c23b0 : ((rd x5_3 (rd (rd_L1 l0_1 x31_3) 0)) == x7_2) = false := beq_eq_false_iff_ne.mpr c23
            have c23b1 : ((rd x5_3 (rd (rd_L1 l0_1 x31_3) 0)) != x7_2) = true := bne_iff_ne.mpr c23
            have H' := Aside0.mk H
            clear H
            have p254 : 0 ≤ (0 : Int) := (by omega)
            have q254 : 0 < ((rd_L1 l0_1 x31_3).length : Int) := da
            obtain ⟨ad254, e254, hx254_0⟩ := Kd.at_int HR253_0.out 0 p254 q254
            cases e254
            have qi254 : (0 < (rd_L1 l0_1 x31_3).length) = True := eq_true (by omega)
            (try rw [show ((0 : Int)).toNat = 0 from rfl] at hx254_0)
            (try rw [Addr.add_zero'] at hx254_0)
            replace hx254_0 := (HB.out.cell (World.block_lt_of_cell? w _ hx254_0)).trans hx254_0
            replace p254 := eq_true p254; replace q254 := eq_true q254
            have p255 : 0 ≤ ((rd (rd_L1 l0_1 x31_3) 0) : Int) := da
            have q255 : (rd (rd_L1 l0_1 x31_3) 0) < (x5_3.length : Int) := da
            obtain ⟨ad255, e255, hx255_0⟩ := Kd.at_int (Kd.R_reads' HO_5.out).2.2 (rd (rd_L1 l0_1 x31_3) 0) p255 q255
            obtain rfl : (⟨go10, 0, none⟩ : Addr) = ad255 := (by injection e255)
            (first | simp only [add_plain] at hx255_0 | simp only [add_at] at hx255_0 | simp only [Addr.add, Nat.zero_add] at hx255_0 | skip)
            replace p255 := eq_true p255; replace q255 := eq_true q255; go_wp2
            go_meet
            case rel => exact ⟨_, (false), er, H', ⟨by have := HK1.out; have := HK2.out; have := HK3.out; first | omega | exact Nat.le_refl _⟩, ⟨by (try simp only [hl5_2]); (try simp only [hl5_3]); (with_reducible repeat (first | apply Kd.R_alloc | apply Kd.R_drewN | apply Kd.R_drew)); exact HO_5.out⟩, ⟨by (try simp only [hl5_2]); (try simp only [hl5_3]); (with_reducible repeat (first | refine blk_drewN ?_ _ | refine blk_drew ?_ | refine blk_alloc ?_ _)); exact BK248.out⟩, ⟨belowg1 HB GE248⟩⟩
          case rest =>
           clear HC19; (try clear c16b0); (try clear c17b0); (try clear c18b0); (try clear hx253_0); (try clear p253); (try clear q253)
           obtain ⟨kq, x51_18, rfl, HA, HJ18, HO_5, BK248, HB⟩ := hcut
           cases kq with
           | zero => exact absurd HA.out (by simp [spec_l15Far.j3])
           | succ kj18 =>
            have H := HA.out; clear HA
            simp only [spec_l15Far.j3] at H
            by_cases c27 : x51_18 = true
            ·subst c27
             have H1 : (if 1 < ((rd_L1 l0_1 x31_3).length : Int) then (if 0 ≤ (rd (rd_L1 l0_1 x31_3) 1) then (if (rd (rd_L1 l0_1 x31_3) 1) < (x5_3.length : Int) then ((some (x5_3.set ((rd (rd_L1 l0_1 x31_3) 1) : Int).toNat (wrap64 (x7_2 + 1)) : List Int)).bind fun y259 => (if (rd y259 (rd (rd_L1 l0_1 x31_3) 1)) = x7_2 then (if 0 < ((rd_L1 l0_1 x31_3).length : Int) then (if 0 ≤ (rd (rd_L1 l0_1 x31_3) 0) then (if (rd (rd_L1 l0_1 x31_3) 0) < (x5_3.length : Int) then (if (rd y259 (rd (rd_L1 l0_1 x31_3) 0)) < 0 then (spec_l15Far.l2 kj18 (y259.set ((rd (rd_L1 l0_1 x31_3) 0) : Int).toNat (wrap64 (x7_2 + 1))) x7_2 l0_1 (l0_1.length : Int) (wrap64 (x31_3 + 1)) a0_0 l0_1 l0_2) else (spec_l15Far.l2 kj18 y259 x7_2 l0_1 (l0_1.length : Int) (wrap64 (x31_3 + 1)) a0_0 l0_1 l0_2)) else (none)) else (none)) else (none)) else (spec_l15Far.l2 kj18 y259 x7_2 l0_1 (l0_1.length : Int) (wrap64 (x31_3 + 1)) a0_0 l0_1 l0_2))) else (none)) else (none)) else (none)) = some r := by rw [if_pos rfl] at H; exact H
             clear H
             have H := H1
             clear H1; replace H := ifS H; obtain ⟨c28, H⟩ := H; have c28b0 := decide_eq_true c28
             have c28b1 : decide (1 < (rd_L1 l0_1 x31_3).length) = true := decide_eq_true (by omega)
             clear c28; replace H := ifS H; obtain ⟨c29, H⟩ := H; have c29b0 := decide_eq_true c29; clear c29; replace H := ifS H; obtain ⟨c30, H⟩ := H; have c30b0 := decide_eq_true c30; clear c30
             obtain ⟨y259, hy_⟩ : ∃ y_ : List Int, y_ = (x5_3.set ((rd (rd_L1 l0_1 x31_3) 1) : Int).toNat (wrap64 (x7_2 + 1))) := ⟨_, rfl⟩
             replace H : (if (rd y259 (rd (rd_L1 l0_1 x31_3) 1)) = x7_2 then (if 0 < ((rd_L1 l0_1 x31_3).length : Int) then (if 0 ≤ (rd (rd_L1 l0_1 x31_3) 0) then (if (rd (rd_L1 l0_1 x31_3) 0) < (x5_3.length : Int) then (if (rd y259 (rd (rd_L1 l0_1 x31_3) 0)) < 0 then (spec_l15Far.l2 kj18 (y259.set ((rd (rd_L1 l0_1 x31_3) 0) : Int).toNat (wrap64 (x7_2 + 1))) x7_2 l0_1 (l0_1.length : Int) (wrap64 (x31_3 + 1)) a0_0 l0_1 l0_2) else (spec_l15Far.l2 kj18 y259 x7_2 l0_1 (l0_1.length : Int) (wrap64 (x31_3 + 1)) a0_0 l0_1 l0_2)) else (none)) else (none)) else (none)) else (spec_l15Far.l2 kj18 y259 x7_2 l0_1 (l0_1.length : Int) (wrap64 (x31_3 + 1)) a0_0 l0_1 l0_2)) = some r := yH
             have Ny259 := ak hy_; clear hy_
             by_cases c32 : (rd y259 (rd (rd_L1 l0_1 x31_3) 1)) = x7_2
             ·rw [if_pos c32] at H
              have c32b0 : ((rd y259 (rd (rd_L1 l0_1 x31_3) 1)) == x7_2) = true := beq_iff_eq.mpr c32
              have c32b1 : ((rd y259 (rd (rd_L1 l0_1 x31_3) 1)) != x7_2) = false := bne_eq_false_iff_eq.mpr c32
              clear c32; replace H := ifS H; obtain ⟨c33, H⟩ := H; have c33b0 := decide_eq_true c33
              have c33b1 : decide (0 < (rd_L1 l0_1 x31_3).length) = true := decide_eq_true (by omega)
              clear c33; replace H := ifS H; obtain ⟨c34, H⟩ := H; have c34b0 := decide_eq_true c34; clear c34; replace H := ifS H; obtain ⟨c35, H⟩ := H; have c35b0 := decide_eq_true c35; clear c35
              by_cases c36 : (rd y259 (rd (rd_L1 l0_1 x31_3) 0)) < 0
              ·rw [if_pos c36] at H
               have c36b0 : decide ((rd y259 (rd (rd_L1 l0_1 x31_3) 0)) < 0) = true := decide_eq_true c36
               clear c36
               obtain ⟨y265, hy_⟩ : ∃ y_ : List Int, y_ = (y259.set ((rd (rd_L1 l0_1 x31_3) 0) : Int).toNat (wrap64 (x7_2 + 1))) := ⟨_, rfl⟩
               replace H : (spec_l15Far.l2 kj18 y265 x7_2 l0_1 (l0_1.length : Int) (wrap64 (x31_3 + 1)) a0_0 l0_1 l0_2) = some r := yH
               have Ny265 := ak hy_; clear hy_
               have H' := Aside0.mk H
               clear H
               have p258 : 0 ≤ (1 : Int) := (by omega)
               have q258 : 1 < ((rd_L1 l0_1 x31_3).length : Int) := da
               obtain ⟨ad258, e258, hx258_0⟩ := Kd.at_int HR253_0.out 1 p258 q258
               cases e258
               (try simp only [show (1 : Int).toNat = 1 from rfl, Nat.reduceMul, Nat.reduceEqDiff, Go.Addr.add, ↓reduceIte] at hx258_0)
               have qi258 : (1 < (rd_L1 l0_1 x31_3).length) = True := eq_true (by omega)
               (try rw [show ((1 : Int)).toNat = 1 from rfl] at hx258_0)
               replace hx258_0 := (HB.out.cell (World.block_lt_of_cell? w _ hx258_0)).trans hx258_0
               replace p258 := eq_true p258; replace q258 := eq_true q258
               have p31 : 0 ≤ ((rd (rd_L1 l0_1 x31_3) 1) : Int) := da
               have q31 : ((rd (rd_L1 l0_1 x31_3) 1) : Int) < ((x5_3.length : Int) : Int) := da
               obtain ⟨hx31_0, hf31_0⟩ := Kd.R_celln 0 HO_5.out ((rd (rd_L1 l0_1 x31_3) 1) : Int) p31 q31
               replace p31 := eq_true p31; replace q31 := eq_true q31
               have HP38 := Kd.R_putg HO_5.out ((rd (rd_L1 l0_1 x31_3) 1) : Int) (wrap64 (x7_2 + 1))
               go_wp2_with (first | ((with_reducible refine gate_store (t := 3) (p := 58) rfl ?_); refine store_event (t := 3) (p := 58) (v := ?vo_w39) (w1 := (wc.setCell ⟨go10, ((rd (rd_L1 l0_1 x31_3) 1) : Int).toNat, none⟩ (.int .i64 (wrap64 (x7_2 + 1))))) ?hg ?ho ?hn ?hr ?_; (case ho => rfl); (case hg => rfl); (case hn => rfl); (case hr => first | (go_simp; done) | (go_simp; rfl)); intro w39 hw; have hg : wc.grownBy w39 (some go10) := (by rw [hw]; exact HP38.2); have hp_ : Kd.R (Kd.int .i64) 3 w39 w.heap.size (fun _ => True) (.slice (some ⟨go10, 0, none⟩) x5_3.length co10) y259 := (by rw [hw, Ny259.out]; exact HP38.1); clear HP38; replace BK248 := ak (blk_grown (blkd BK248) hg (Kd.R_ne HO_5.out BK248.out (by decide))); replace HO_5 := ak (hp_); replace HB := ak ((by rw [hw]; exact below_set (HB.out) GB10.out : Below w.heap.size w w39)); clear hg hw hp_; have p260 : 0 ≤ (1 : Int) := (by omega); have q260 : 1 < ((rd_L1 l0_1 x31_3).length : Int) := da; obtain ⟨ad260, e260, hx260_0⟩ := Kd.at_int HR253_0.out 1 p260 q260; obtain rfl : ad258 = ad260 := (by injection e260); (try simp only [show (1 : Int).toNat = 1 from rfl, Nat.reduceMul, Nat.reduceEqDiff, Go.Addr.add, ↓reduceIte] at hx260_0); have qi260 : (1 < (rd_L1 l0_1 x31_3).length) = True := eq_true (by omega); (try rw [show ((1 : Int)).toNat = 1 from rfl] at hx260_0); replace hx260_0 := (HB.out.cell (World.block_lt_of_cell? w _ hx260_0)).trans hx260_0; replace p260 := eq_true p260; replace q260 := eq_true q260; have p261 : 0 ≤ ((rd (rd_L1 l0_1 x31_3) 1) : Int) := da; have q261 : (rd (rd_L1 l0_1 x31_3) 1) < (y259.length : Int) := (by have h_ : ((rd (rd_L1 l0_1 x31_3) 1) : Int) < ((x5_3.length : Int) : Int) := da; first | (have e_ := (Kd.R_reads' HO_5.out).1; omega) | simpa only [Ny259.out, List.length_set] using h_); have ql261 : (((rd (rd_L1 l0_1 x31_3) 1) : Int) < ((x5_3.length : Int) : Int)) = True := eq_true (da); obtain ⟨ad261, e261, hx261_0⟩ := Kd.at_int (Kd.R_reads' HO_5.out).2.2 (rd (rd_L1 l0_1 x31_3) 1) p261 q261; obtain rfl : (⟨go10, 0, none⟩ : Addr) = ad261 := (by injection e261); (first | simp only [add_plain] at hx261_0 | simp only [add_at] at hx261_0 | simp only [Addr.add, Nat.zero_add] at hx261_0 | skip); replace p261 := eq_true p261; replace q261 := eq_true q261; have p262 : 0 ≤ (0 : Int) := (by omega); have q262 : 0 < ((rd_L1 l0_1 x31_3).length : Int) := da; obtain ⟨ad262, e262, hx262_0⟩ := Kd.at_int HR253_0.out 0 p262 q262; obtain rfl : ad258 = ad262 := (by injection e262); have qi262 : (0 < (rd_L1 l0_1 x31_3).length) = True := eq_true (by omega); (try rw [show ((0 : Int)).toNat = 0 from rfl] at hx262_0); (try rw [Addr.add_zero'] at hx262_0); replace hx262_0 := (HB.out.cell (World.block_lt_of_cell? w _ hx262_0)).trans hx262_0; replace p262 := eq_true p262; replace q262 := eq_true q262; have p263 : 0 ≤ ((rd (rd_L1 l0_1 x31_3) 0) : Int) := da; have q263 : (rd (rd_L1 l0_1 x31_3) 0) < (y259.length : Int) := (by have h_ : ((rd (rd_L1 l0_1 x31_3) 0) : Int) < ((x5_3.length : Int) : Int) := da; first | (have e_ := (Kd.R_reads' HO_5.out).1; omega) | simpa only [Ny259.out, List.length_set] using h_); have ql263 : (((rd (rd_L1 l0_1 x31_3) 0) : Int) < ((x5_3.length : Int) : Int)) = True := eq_true (da); obtain ⟨ad263, e263, hx263_0⟩ := Kd.at_int (Kd.R_reads' HO_5.out).2.2 (rd (rd_L1 l0_1 x31_3) 0) p263 q263; obtain rfl : (⟨go10, 0, none⟩ : Addr) = ad263 := (by injection e263); (first | simp only [add_plain] at hx263_0 | simp only [add_at] at hx263_0 | simp only [Addr.add, Nat.zero_add] at hx263_0 | skip); replace p263 := eq_true p263; replace q263 := eq_true q263; have p264 : 0 ≤ (0 : Int) := (by omega); have q264 : 0 < ((rd_L1 l0_1 x31_3).length : Int) := da; obtain ⟨ad264, e264, hx264_0⟩ := Kd.at_int HR253_0.out 0 p264 q264; obtain rfl : ad258 = ad264 := (by injection e264); have qi264 : (0 < (rd_L1 l0_1 x31_3).length) = True := eq_true (by omega); (try rw [show ((0 : Int)).toNat = 0 from rfl] at hx264_0); (try rw [Addr.add_zero'] at hx264_0); replace hx264_0 := (HB.out.cell (World.block_lt_of_cell? w _ hx264_0)).trans hx264_0; replace p264 := eq_true p264; replace q264 := eq_true q264; have p37 : 0 ≤ ((rd (rd_L1 l0_1 x31_3) 0) : Int) := da; have q37 : ((rd (rd_L1 l0_1 x31_3) 0) : Int) < ((x5_3.length : Int) : Int) := da; obtain ⟨hx37_0, hf37_0⟩ := Kd.R_celln 0 HO_5.out ((rd (rd_L1 l0_1 x31_3) 0) : Int) p37 q37; replace p37 := eq_true p37; replace q37 := eq_true q37; obtain ⟨hy40_, hz40_⟩ := Kd.R_celln 0 HO_5.out ((rd (rd_L1 l0_1 x31_3) 0) : Int) (da) (da); have HP40 := Kd.R_putg HO_5.out ((rd (rd_L1 l0_1 x31_3) 0) : Int) (wrap64 (x7_2 + 1))) | ((with_reducible refine gate_store (t := 3) (p := 82) rfl ?_); refine store_event (t := 3) (p := 82) (v := ?vo_w41) (w1 := (w39.setCell ⟨go10, ((rd (rd_L1 l0_1 x31_3) 0) : Int).toNat, none⟩ (.int .i64 (wrap64 (x7_2 + 1))))) ?hg ?ho ?hn ?hr ?_; (case ho => rfl); (case hg => rfl); (case hn => rfl); (case hr => first | (go_simp; done) | (go_simp; rfl)); intro w41 hw; have hg : w39.grownBy w41 (some go10) := (by rw [hw]; exact HP40.2); have hp_ : Kd.R (Kd.int .i64) 3 w41 w.heap.size (fun _ => True) (.slice (some ⟨go10, 0, none⟩) x5_3.length co10) y265 := (by rw [hw, Ny265.out]; exact HP40.1); clear HP40; replace BK248 := ak (blk_grown (blkd BK248) hg (Kd.R_ne HO_5.out BK248.out (by decide))); replace HO_5 := ak (hp_); replace HB := ak ((by rw [hw]; exact below_set (HB.out) GB10.out : Below w.heap.size w w41)); clear hg hw hp_))
               (try simp only [← hl5_3])
               go_roundg kj18
               case measure => have := HK1.out; have := HK2.out; have := HK3.out; have := HJ18.out; omega
               case rel => exact ⟨(y265), (wrap64 (x31_3 + 1)), er, H', ⟨by have := HK1.out; have := HK2.out; have := HK3.out; have := HJ18.out; omega⟩, ⟨by (try simp only [hl5_2]); (try simp only [hl5_3]); (with_reducible repeat (first | apply Kd.R_alloc | apply Kd.R_drewN | apply Kd.R_drew)); exact HO_5.out⟩, ⟨by (try simp only [hl5_2]); (try simp only [hl5_3]); (with_reducible repeat (first | refine blk_drewN ?_ _ | refine blk_drew ?_ | refine blk_alloc ?_ _)); exact BK248.out⟩, ⟨belowg1 HB GE248⟩⟩
              ·rw [if_neg c36] at H
               have c36b0 : decide ((rd y259 (rd (rd_L1 l0_1 x31_3) 0)) < 0) = false := decide_eq_false c36
               clear c36
               have H' := Aside0.mk H
               clear H
               have p258 : 0 ≤ (1 : Int) := (by omega)
               have q258 : 1 < ((rd_L1 l0_1 x31_3).length : Int) := da
               obtain ⟨ad258, e258, hx258_0⟩ := Kd.at_int HR253_0.out 1 p258 q258
               cases e258
               (try simp only [show (1 : Int).toNat = 1 from rfl, Nat.reduceMul, Nat.reduceEqDiff, Go.Addr.add, ↓reduceIte] at hx258_0)
               have qi258 : (1 < (rd_L1 l0_1 x31_3).length) = True := eq_true (by omega)
               (try rw [show ((1 : Int)).toNat = 1 from rfl] at hx258_0)
               replace hx258_0 := (HB.out.cell (World.block_lt_of_cell? w _ hx258_0)).trans hx258_0
               replace p258 := eq_true p258; replace q258 := eq_true q258
               have p31 : 0 ≤ ((rd (rd_L1 l0_1 x31_3) 1) : Int) := da
               have q31 : ((rd (rd_L1 l0_1 x31_3) 1) : Int) < ((x5_3.length : Int) : Int) := da
               obtain ⟨hx31_0, hf31_0⟩ := Kd.R_celln 0 HO_5.out ((rd (rd_L1 l0_1 x31_3) 1) : Int) p31 q31
               replace p31 := eq_true p31; replace q31 := eq_true q31
               have HP42 := Kd.R_putg HO_5.out ((rd (rd_L1 l0_1 x31_3) 1) : Int) (wrap64 (x7_2 + 1))
               go_wp2_with (first | ((with_reducible refine gate_store (t := 3) (p := 58) rfl ?_); refine store_event (t := 3) (p := 58) (v := ?vo_w43) (w1 := (wc.setCell ⟨go10, ((rd (rd_L1 l0_1 x31_3) 1) : Int).toNat, none⟩ (.int .i64 (wrap64 (x7_2 + 1))))) ?hg ?ho ?hn ?hr ?_; (case ho => rfl); (case hg => rfl); (case hn => rfl); (case hr => first | (go_simp; done) | (go_simp; rfl)); intro w43 hw; have hg : wc.grownBy w43 (some go10) := (by rw [hw]; exact HP42.2); have hp_ : Kd.R (Kd.int .i64) 3 w43 w.heap.size (fun _ => True) (.slice (some ⟨go10, 0, none⟩) x5_3.length co10) y259 := (by rw [hw, Ny259.out]; exact HP42.1); clear HP42; replace BK248 := ak (blk_grown (blkd BK248) hg (Kd.R_ne HO_5.out BK248.out (by decide))); replace HO_5 := ak (hp_); replace HB := ak ((by rw [hw]; exact below_set (HB.out) GB10.out : Below w.heap.size w w43)); clear hg hw hp_; have p260 : 0 ≤ (1 : Int) := (by omega); have q260 : 1 < ((rd_L1 l0_1 x31_3).length : Int) := da; obtain ⟨ad260, e260, hx260_0⟩ := Kd.at_int HR253_0.out 1 p260 q260; obtain rfl : ad258 = ad260 := (by injection e260); (try simp only [show (1 : Int).toNat = 1 from rfl, Nat.reduceMul, Nat.reduceEqDiff, Go.Addr.add, ↓reduceIte] at hx260_0); have qi260 : (1 < (rd_L1 l0_1 x31_3).length) = True := eq_true (by omega); (try rw [show ((1 : Int)).toNat = 1 from rfl] at hx260_0); replace hx260_0 := (HB.out.cell (World.block_lt_of_cell? w _ hx260_0)).trans hx260_0; replace p260 := eq_true p260; replace q260 := eq_true q260; have p261 : 0 ≤ ((rd (rd_L1 l0_1 x31_3) 1) : Int) := da; have q261 : (rd (rd_L1 l0_1 x31_3) 1) < (y259.length : Int) := (by have h_ : ((rd (rd_L1 l0_1 x31_3) 1) : Int) < ((x5_3.length : Int) : Int) := da; first | (have e_ := (Kd.R_reads' HO_5.out).1; omega) | simpa only [Ny259.out, List.length_set] using h_); have ql261 : (((rd (rd_L1 l0_1 x31_3) 1) : Int) < ((x5_3.length : Int) : Int)) = True := eq_true (da); obtain ⟨ad261, e261, hx261_0⟩ := Kd.at_int (Kd.R_reads' HO_5.out).2.2 (rd (rd_L1 l0_1 x31_3) 1) p261 q261; obtain rfl : (⟨go10, 0, none⟩ : Addr) = ad261 := (by injection e261); (first | simp only [add_plain] at hx261_0 | simp only [add_at] at hx261_0 | simp only [Addr.add, Nat.zero_add] at hx261_0 | skip); replace p261 := eq_true p261; replace q261 := eq_true q261; have p262 : 0 ≤ (0 : Int) := (by omega); have q262 : 0 < ((rd_L1 l0_1 x31_3).length : Int) := da; obtain ⟨ad262, e262, hx262_0⟩ := Kd.at_int HR253_0.out 0 p262 q262; obtain rfl : ad258 = ad262 := (by injection e262); have qi262 : (0 < (rd_L1 l0_1 x31_3).length) = True := eq_true (by omega); (try rw [show ((0 : Int)).toNat = 0 from rfl] at hx262_0); (try rw [Addr.add_zero'] at hx262_0); replace hx262_0 := (HB.out.cell (World.block_lt_of_cell? w _ hx262_0)).trans hx262_0; replace p262 := eq_true p262; replace q262 := eq_true q262; have p263 : 0 ≤ ((rd (rd_L1 l0_1 x31_3) 0) : Int) := da; have q263 : (rd (rd_L1 l0_1 x31_3) 0) < (y259.length : Int) := (by have h_ : ((rd (rd_L1 l0_1 x31_3) 0) : Int) < ((x5_3.length : Int) : Int) := da; first | (have e_ := (Kd.R_reads' HO_5.out).1; omega) | simpa only [Ny259.out, List.length_set] using h_); have ql263 : (((rd (rd_L1 l0_1 x31_3) 0) : Int) < ((x5_3.length : Int) : Int)) = True := eq_true (da); obtain ⟨ad263, e263, hx263_0⟩ := Kd.at_int (Kd.R_reads' HO_5.out).2.2 (rd (rd_L1 l0_1 x31_3) 0) p263 q263; obtain rfl : (⟨go10, 0, none⟩ : Addr) = ad263 := (by injection e263); (first | simp only [add_plain] at hx263_0 | simp only [add_at] at hx263_0 | simp only [Addr.add, Nat.zero_add] at hx263_0 | skip); replace p263 := eq_true p263; replace q263 := eq_true q263))
               (try simp only [← hl5_3])
               go_roundg kj18
               case measure => have := HK1.out; have := HK2.out; have := HK3.out; have := HJ18.out; omega
               case rel => exact ⟨(y259), (wrap64 (x31_3 + 1)), er, H', ⟨by have := HK1.out; have := HK2.out; have := HK3.out; have := HJ18.out; omega⟩, ⟨by (try simp only [hl5_2]); (try simp only [hl5_3]); (with_reducible repeat (first | apply Kd.R_alloc | apply Kd.R_drewN | apply Kd.R_drew)); exact HO_5.out⟩, ⟨by (try simp only [hl5_2]); (try simp only [hl5_3]); (with_reducible repeat (first | refine blk_drewN ?_ _ | refine blk_drew ?_ | refine blk_alloc ?_ _)); exact BK248.out⟩, ⟨belowg1 HB GE248⟩⟩
             ·rw [if_neg c32] at H
              have c32b0 : ((rd y259 (rd (rd_L1 l0_1 x31_3) 1)) == x7_2) = false := beq_eq_false_iff_ne.mpr c32
              have c32b1 : ((rd y259 (rd (rd_L1 l0_1 x31_3) 1)) != x7_2) = true := bne_iff_ne.mpr c32
              have H' := Aside0.mk H
              clear H
              have p258 : 0 ≤ (1 : Int) := (by omega)
              have q258 : 1 < ((rd_L1 l0_1 x31_3).length : Int) := da
              obtain ⟨ad258, e258, hx258_0⟩ := Kd.at_int HR253_0.out 1 p258 q258
              cases e258
              (try simp only [show (1 : Int).toNat = 1 from rfl, Nat.reduceMul, Nat.reduceEqDiff, Go.Addr.add, ↓reduceIte] at hx258_0)
              have qi258 : (1 < (rd_L1 l0_1 x31_3).length) = True := eq_true (by omega)
              (try rw [show ((1 : Int)).toNat = 1 from rfl] at hx258_0)
              replace hx258_0 := (HB.out.cell (World.block_lt_of_cell? w _ hx258_0)).trans hx258_0
              replace p258 := eq_true p258; replace q258 := eq_true q258
              have p31 : 0 ≤ ((rd (rd_L1 l0_1 x31_3) 1) : Int) := da
              have q31 : ((rd (rd_L1 l0_1 x31_3) 1) : Int) < ((x5_3.length : Int) : Int) := da
              obtain ⟨hx31_0, hf31_0⟩ := Kd.R_celln 0 HO_5.out ((rd (rd_L1 l0_1 x31_3) 1) : Int) p31 q31
              replace p31 := eq_true p31; replace q31 := eq_true q31
              have HP44 := Kd.R_putg HO_5.out ((rd (rd_L1 l0_1 x31_3) 1) : Int) (wrap64 (x7_2 + 1))
              go_wp2_with (first | ((with_reducible refine gate_store (t := 3) (p := 58) rfl ?_); refine store_event (t := 3) (p := 58) (v := ?vo_w45) (w1 := (wc.setCell ⟨go10, ((rd (rd_L1 l0_1 x31_3) 1) : Int).toNat, none⟩ (.int .i64 (wrap64 (x7_2 + 1))))) ?hg ?ho ?hn ?hr ?_; (case ho => rfl); (case hg => rfl); (case hn => rfl); (case hr => first | (go_simp; done) | (go_simp; rfl)); intro w45 hw; have hg : wc.grownBy w45 (some go10) := (by rw [hw]; exact HP44.2); have hp_ : Kd.R (Kd.int .i64) 3 w45 w.heap.size (fun _ => True) (.slice (some ⟨go10, 0, none⟩) x5_3.length co10) y259 := (by rw [hw, Ny259.out]; exact HP44.1); clear HP44; replace BK248 := ak (blk_grown (blkd BK248) hg (Kd.R_ne HO_5.out BK248.out (by decide))); replace HO_5 := ak (hp_); replace HB := ak ((by rw [hw]; exact below_set (HB.out) GB10.out : Below w.heap.size w w45)); clear hg hw hp_; have p260 : 0 ≤ (1 : Int) := (by omega); have q260 : 1 < ((rd_L1 l0_1 x31_3).length : Int) := da; obtain ⟨ad260, e260, hx260_0⟩ := Kd.at_int HR253_0.out 1 p260 q260; obtain rfl : ad258 = ad260 := (by injection e260); (try simp only [show (1 : Int).toNat = 1 from rfl, Nat.reduceMul, Nat.reduceEqDiff, Go.Addr.add, ↓reduceIte] at hx260_0); have qi260 : (1 < (rd_L1 l0_1 x31_3).length) = True := eq_true (by omega); (try rw [show ((1 : Int)).toNat = 1 from rfl] at hx260_0); replace hx260_0 := (HB.out.cell (World.block_lt_of_cell? w _ hx260_0)).trans hx260_0; replace p260 := eq_true p260; replace q260 := eq_true q260; have p261 : 0 ≤ ((rd (rd_L1 l0_1 x31_3) 1) : Int) := da; have q261 : (rd (rd_L1 l0_1 x31_3) 1) < (y259.length : Int) := (by have h_ : ((rd (rd_L1 l0_1 x31_3) 1) : Int) < ((x5_3.length : Int) : Int) := da; first | (have e_ := (Kd.R_reads' HO_5.out).1; omega) | simpa only [Ny259.out, List.length_set] using h_); have ql261 : (((rd (rd_L1 l0_1 x31_3) 1) : Int) < ((x5_3.length : Int) : Int)) = True := eq_true (da); obtain ⟨ad261, e261, hx261_0⟩ := Kd.at_int (Kd.R_reads' HO_5.out).2.2 (rd (rd_L1 l0_1 x31_3) 1) p261 q261; obtain rfl : (⟨go10, 0, none⟩ : Addr) = ad261 := (by injection e261); (first | simp only [add_plain] at hx261_0 | simp only [add_at] at hx261_0 | simp only [Addr.add, Nat.zero_add] at hx261_0 | skip); replace p261 := eq_true p261; replace q261 := eq_true q261))
              (try simp only [← hl5_3])
              go_roundg kj18
              case measure => have := HK1.out; have := HK2.out; have := HK3.out; have := HJ18.out; omega
              case rel => exact ⟨(y259), (wrap64 (x31_3 + 1)), er, H', ⟨by have := HK1.out; have := HK2.out; have := HK3.out; have := HJ18.out; omega⟩, ⟨by (try simp only [hl5_2]); (try simp only [hl5_3]); (with_reducible repeat (first | apply Kd.R_alloc | apply Kd.R_drewN | apply Kd.R_drew)); exact HO_5.out⟩, ⟨by (try simp only [hl5_2]); (try simp only [hl5_3]); (with_reducible repeat (first | refine blk_drewN ?_ _ | refine blk_drew ?_ | refine blk_alloc ?_ _)); exact BK248.out⟩, ⟨belowg1 HB GE248⟩⟩
            ·replace c27 := Bool.eq_false_iff.mpr c27
             subst c27
             have H1 : (if 1 < ((rd_L1 l0_1 x31_3).length : Int) then (if 0 ≤ (rd (rd_L1 l0_1 x31_3) 1) then (if (rd (rd_L1 l0_1 x31_3) 1) < (x5_3.length : Int) then (if (rd x5_3 (rd (rd_L1 l0_1 x31_3) 1)) = x7_2 then (if 0 < ((rd_L1 l0_1 x31_3).length : Int) then (if 0 ≤ (rd (rd_L1 l0_1 x31_3) 0) then (if (rd (rd_L1 l0_1 x31_3) 0) < (x5_3.length : Int) then (if (rd x5_3 (rd (rd_L1 l0_1 x31_3) 0)) < 0 then (spec_l15Far.l2 kj18 (x5_3.set ((rd (rd_L1 l0_1 x31_3) 0) : Int).toNat (wrap64 (x7_2 + 1))) x7_2 l0_1 (l0_1.length : Int) (wrap64 (x31_3 + 1)) a0_0 l0_1 l0_2) else (spec_l15Far.l2 kj18 x5_3 x7_2 l0_1 (l0_1.length : Int) (wrap64 (x31_3 + 1)) a0_0 l0_1 l0_2)) else (none)) else (none)) else (none)) else (spec_l15Far.l2 kj18 x5_3 x7_2 l0_1 (l0_1.length : Int) (wrap64 (x31_3 + 1)) a0_0 l0_1 l0_2)) else (none)) else (none)) else (none)) = some r := by rw [if_neg (show ¬ (false = true) by decide)] at H; exact H
             clear H
             have H := H1
             clear H1; replace H := ifS H; obtain ⟨c46, H⟩ := H; have c46b0 := decide_eq_true c46
             have c46b1 : decide (1 < (rd_L1 l0_1 x31_3).length) = true := decide_eq_true (by omega)
             clear c46; replace H := ifS H; obtain ⟨c47, H⟩ := H; have c47b0 := decide_eq_true c47; clear c47; replace H := ifS H; obtain ⟨c48, H⟩ := H; have c48b0 := decide_eq_true c48; clear c48
             by_cases c49 : (rd x5_3 (rd (rd_L1 l0_1 x31_3) 1)) = x7_2
             ·rw [if_pos c49] at H
              have c49b0 : ((rd x5_3 (rd (rd_L1 l0_1 x31_3) 1)) == x7_2) = true := beq_iff_eq.mpr c49
              have c49b1 : ((rd x5_3 (rd (rd_L1 l0_1 x31_3) 1)) != x7_2) = false := bne_eq_false_iff_eq.mpr c49
              clear c49; replace H := ifS H; obtain ⟨c50, H⟩ := H; have c50b0 := decide_eq_true c50
              have c50b1 : decide (0 < (rd_L1 l0_1 x31_3).length) = true := decide_eq_true (by omega)
              clear c50; replace H := ifS H; obtain ⟨c51, H⟩ := H; have c51b0 := decide_eq_true c51; clear c51; replace H := ifS H; obtain ⟨c52, H⟩ := H; have c52b0 := decide_eq_true c52; clear c52
              by_cases c53 : (rd x5_3 (rd (rd_L1 l0_1 x31_3) 0)) < 0
              ·rw [if_pos c53] at H
               have c53b0 : decide ((rd x5_3 (rd (rd_L1 l0_1 x31_3) 0)) < 0) = true := decide_eq_true c53
               clear c53
               obtain ⟨y271, hy_⟩ : ∃ y_ : List Int, y_ = (x5_3.set ((rd (rd_L1 l0_1 x31_3) 0) : Int).toNat (wrap64 (x7_2 + 1))) := ⟨_, rfl⟩
               replace H : (spec_l15Far.l2 kj18 y271 x7_2 l0_1 (l0_1.length : Int) (wrap64 (x31_3 + 1)) a0_0 l0_1 l0_2) = some r := yH
               have Ny271 := ak hy_; clear hy_
               have H' := Aside0.mk H
               clear H
               have p266 : 0 ≤ (1 : Int) := (by omega)
               have q266 : 1 < ((rd_L1 l0_1 x31_3).length : Int) := da
               obtain ⟨ad266, e266, hx266_0⟩ := Kd.at_int HR253_0.out 1 p266 q266
               cases e266
               (try simp only [show (1 : Int).toNat = 1 from rfl, Nat.reduceMul, Nat.reduceEqDiff, Go.Addr.add, ↓reduceIte] at hx266_0)
               have qi266 : (1 < (rd_L1 l0_1 x31_3).length) = True := eq_true (by omega)
               (try rw [show ((1 : Int)).toNat = 1 from rfl] at hx266_0)
               replace hx266_0 := (HB.out.cell (World.block_lt_of_cell? w _ hx266_0)).trans hx266_0
               replace p266 := eq_true p266; replace q266 := eq_true q266
               have p267 : 0 ≤ ((rd (rd_L1 l0_1 x31_3) 1) : Int) := da
               have q267 : (rd (rd_L1 l0_1 x31_3) 1) < (x5_3.length : Int) := da
               obtain ⟨ad267, e267, hx267_0⟩ := Kd.at_int (Kd.R_reads' HO_5.out).2.2 (rd (rd_L1 l0_1 x31_3) 1) p267 q267
               obtain rfl : (⟨go10, 0, none⟩ : Addr) = ad267 := (by injection e267)
               (first | simp only [add_plain] at hx267_0 | simp only [add_at] at hx267_0 | simp only [Addr.add, Nat.zero_add] at hx267_0 | skip)
               replace p267 := eq_true p267; replace q267 := eq_true q267
               have p268 : 0 ≤ (0 : Int) := (by omega)
               have q268 : 0 < ((rd_L1 l0_1 x31_3).length : Int) := da
               obtain ⟨ad268, e268, hx268_0⟩ := Kd.at_int HR253_0.out 0 p268 q268
               obtain rfl : ad266 = ad268 := (by injection e268)
               have qi268 : (0 < (rd_L1 l0_1 x31_3).length) = True := eq_true (by omega)
               (try rw [show ((0 : Int)).toNat = 0 from rfl] at hx268_0)
               (try rw [Addr.add_zero'] at hx268_0)
               replace hx268_0 := (HB.out.cell (World.block_lt_of_cell? w _ hx268_0)).trans hx268_0
               replace p268 := eq_true p268; replace q268 := eq_true q268
               have p269 : 0 ≤ ((rd (rd_L1 l0_1 x31_3) 0) : Int) := da
               have q269 : (rd (rd_L1 l0_1 x31_3) 0) < (x5_3.length : Int) := da
               obtain ⟨ad269, e269, hx269_0⟩ := Kd.at_int (Kd.R_reads' HO_5.out).2.2 (rd (rd_L1 l0_1 x31_3) 0) p269 q269
               obtain rfl : (⟨go10, 0, none⟩ : Addr) = ad269 := (by injection e269)
               (first | simp only [add_plain] at hx269_0 | simp only [add_at] at hx269_0 | simp only [Addr.add, Nat.zero_add] at hx269_0 | skip)
               replace p269 := eq_true p269; replace q269 := eq_true q269
               have p270 : 0 ≤ (0 : Int) := (by omega)
               have q270 : 0 < ((rd_L1 l0_1 x31_3).length : Int) := da
               obtain ⟨ad270, e270, hx270_0⟩ := Kd.at_int HR253_0.out 0 p270 q270
               obtain rfl : ad266 = ad270 := (by injection e270)
               have qi270 : (0 < (rd_L1 l0_1 x31_3).length) = True := eq_true (by omega)
               (try rw [show ((0 : Int)).toNat = 0 from rfl] at hx270_0)
               (try rw [Addr.add_zero'] at hx270_0)
               replace hx270_0 := (HB.out.cell (World.block_lt_of_cell? w _ hx270_0)).trans hx270_0
               replace p270 := eq_true p270; replace q270 := eq_true q270
               have p54 : 0 ≤ ((rd (rd_L1 l0_1 x31_3) 0) : Int) := da
               have q54 : ((rd (rd_L1 l0_1 x31_3) 0) : Int) < ((x5_3.length : Int) : Int) := da
               obtain ⟨hx54_0, hf54_0⟩ := Kd.R_celln 0 HO_5.out ((rd (rd_L1 l0_1 x31_3) 0) : Int) p54 q54
               replace p54 := eq_true p54; replace q54 := eq_true q54
               have HP55 := Kd.R_putg HO_5.out ((rd (rd_L1 l0_1 x31_3) 0) : Int) (wrap64 (x7_2 + 1))
               go_wp2_with (first | ((with_reducible refine gate_store (t := 3) (p := 82) rfl ?_); refine store_event (t := 3) (p := 82) (v := ?vo_w56) (w1 := (wc.setCell ⟨go10, ((rd (rd_L1 l0_1 x31_3) 0) : Int).toNat, none⟩ (.int .i64 (wrap64 (x7_2 + 1))))) ?hg ?ho ?hn ?hr ?_; (case ho => rfl); (case hg => rfl); (case hn => rfl); (case hr => first | (go_simp; done) | (go_simp; rfl)); intro w56 hw; have hg : wc.grownBy w56 (some go10) := (by rw [hw]; exact HP55.2); have hp_ : Kd.R (Kd.int .i64) 3 w56 w.heap.size (fun _ => True) (.slice (some ⟨go10, 0, none⟩) x5_3.length co10) y271 := (by rw [hw, Ny271.out]; exact HP55.1); clear HP55; replace BK248 := ak (blk_grown (blkd BK248) hg (Kd.R_ne HO_5.out BK248.out (by decide))); replace HO_5 := ak (hp_); replace HB := ak ((by rw [hw]; exact below_set (HB.out) GB10.out : Below w.heap.size w w56)); clear hg hw hp_))
               (try simp only [← hl5_3])
               go_roundg kj18
               case measure => have := HK1.out; have := HK2.out; have := HK3.out; have := HJ18.out; omega
               case rel => exact ⟨(y271), (wrap64 (x31_3 + 1)), er, H', ⟨by have := HK1.out; have := HK2.out; have := HK3.out; have := HJ18.out; omega⟩, ⟨by (try simp only [hl5_2]); (try simp only [hl5_3]); (with_reducible repeat (first | apply Kd.R_alloc | apply Kd.R_drewN | apply Kd.R_drew)); exact HO_5.out⟩, ⟨by (try simp only [hl5_2]); (try simp only [hl5_3]); (with_reducible repeat (first | refine blk_drewN ?_ _ | refine blk_drew ?_ | refine blk_alloc ?_ _)); exact BK248.out⟩, ⟨belowg1 HB GE248⟩⟩
              ·rw [if_neg c53] at H
               have c53b0 : decide ((rd x5_3 (rd (rd_L1 l0_1 x31_3) 0)) < 0) = false := decide_eq_false c53
               clear c53
               have H' := Aside0.mk H
               clear H
               have p266 : 0 ≤ (1 : Int) := (by omega)
               have q266 : 1 < ((rd_L1 l0_1 x31_3).length : Int) := da
               obtain ⟨ad266, e266, hx266_0⟩ := Kd.at_int HR253_0.out 1 p266 q266
               cases e266
               (try simp only [show (1 : Int).toNat = 1 from rfl, Nat.reduceMul, Nat.reduceEqDiff, Go.Addr.add, ↓reduceIte] at hx266_0)
               have qi266 : (1 < (rd_L1 l0_1 x31_3).length) = True := eq_true (by omega)
               (try rw [show ((1 : Int)).toNat = 1 from rfl] at hx266_0)
               replace hx266_0 := (HB.out.cell (World.block_lt_of_cell? w _ hx266_0)).trans hx266_0
               replace p266 := eq_true p266; replace q266 := eq_true q266
               have p267 : 0 ≤ ((rd (rd_L1 l0_1 x31_3) 1) : Int) := da
               have q267 : (rd (rd_L1 l0_1 x31_3) 1) < (x5_3.length : Int) := da
               obtain ⟨ad267, e267, hx267_0⟩ := Kd.at_int (Kd.R_reads' HO_5.out).2.2 (rd (rd_L1 l0_1 x31_3) 1) p267 q267
               obtain rfl : (⟨go10, 0, none⟩ : Addr) = ad267 := (by injection e267)
               (first | simp only [add_plain] at hx267_0 | simp only [add_at] at hx267_0 | simp only [Addr.add, Nat.zero_add] at hx267_0 | skip)
               replace p267 := eq_true p267; replace q267 := eq_true q267
               have p268 : 0 ≤ (0 : Int) := (by omega)
               have q268 : 0 < ((rd_L1 l0_1 x31_3).length : Int) := da
               obtain ⟨ad268, e268, hx268_0⟩ := Kd.at_int HR253_0.out 0 p268 q268
               obtain rfl : ad266 = ad268 := (by injection e268)
               have qi268 : (0 < (rd_L1 l0_1 x31_3).length) = True := eq_true (by omega)
               (try rw [show ((0 : Int)).toNat = 0 from rfl] at hx268_0)
               (try rw [Addr.add_zero'] at hx268_0)
               replace hx268_0 := (HB.out.cell (World.block_lt_of_cell? w _ hx268_0)).trans hx268_0
               replace p268 := eq_true p268; replace q268 := eq_true q268
               have p269 : 0 ≤ ((rd (rd_L1 l0_1 x31_3) 0) : Int) := da
               have q269 : (rd (rd_L1 l0_1 x31_3) 0) < (x5_3.length : Int) := da
               obtain ⟨ad269, e269, hx269_0⟩ := Kd.at_int (Kd.R_reads' HO_5.out).2.2 (rd (rd_L1 l0_1 x31_3) 0) p269 q269
               obtain rfl : (⟨go10, 0, none⟩ : Addr) = ad269 := (by injection e269)
               (first | simp only [add_plain] at hx269_0 | simp only [add_at] at hx269_0 | simp only [Addr.add, Nat.zero_add] at hx269_0 | skip)
               replace p269 := eq_true p269; replace q269 := eq_true q269; go_wp2
               (try simp only [← hl5_3])
               go_roundg kj18
               case measure => have := HK1.out; have := HK2.out; have := HK3.out; have := HJ18.out; omega
               case rel => exact ⟨(x5_3), (wrap64 (x31_3 + 1)), er, H', ⟨by have := HK1.out; have := HK2.out; have := HK3.out; have := HJ18.out; omega⟩, ⟨by (try simp only [hl5_2]); (try simp only [hl5_3]); (with_reducible repeat (first | apply Kd.R_alloc | apply Kd.R_drewN | apply Kd.R_drew)); exact HO_5.out⟩, ⟨by (try simp only [hl5_2]); (try simp only [hl5_3]); (with_reducible repeat (first | refine blk_drewN ?_ _ | refine blk_drew ?_ | refine blk_alloc ?_ _)); exact BK248.out⟩, ⟨belowg1 HB GE248⟩⟩
             ·rw [if_neg c49] at H
              have c49b0 : ((rd x5_3 (rd (rd_L1 l0_1 x31_3) 1)) == x7_2) = false := beq_eq_false_iff_ne.mpr c49
              have c49b1 : ((rd x5_3 (rd (rd_L1 l0_1 x31_3) 1)) != x7_2) = true := bne_iff_ne.mpr c49
              have H' := Aside0.mk H
              clear H
              have p266 : 0 ≤ (1 : Int) := (by omega)
              have q266 : 1 < ((rd_L1 l0_1 x31_3).length : Int) := da
              obtain ⟨ad266, e266, hx266_0⟩ := Kd.at_int HR253_0.out 1 p266 q266
              cases e266
              (try simp only [show (1 : Int).toNat = 1 from rfl, Nat.reduceMul, Nat.reduceEqDiff, Go.Addr.add, ↓reduceIte] at hx266_0)
              have qi266 : (1 < (rd_L1 l0_1 x31_3).length) = True := eq_true (by omega)
              (try rw [show ((1 : Int)).toNat = 1 from rfl] at hx266_0)
              replace hx266_0 := (HB.out.cell (World.block_lt_of_cell? w _ hx266_0)).trans hx266_0
              replace p266 := eq_true p266; replace q266 := eq_true q266
              have p267 : 0 ≤ ((rd (rd_L1 l0_1 x31_3) 1) : Int) := da
              have q267 : (rd (rd_L1 l0_1 x31_3) 1) < (x5_3.length : Int) := da
              obtain ⟨ad267, e267, hx267_0⟩ := Kd.at_int (Kd.R_reads' HO_5.out).2.2 (rd (rd_L1 l0_1 x31_3) 1) p267 q267
              obtain rfl : (⟨go10, 0, none⟩ : Addr) = ad267 := (by injection e267)
              (first | simp only [add_plain] at hx267_0 | simp only [add_at] at hx267_0 | simp only [Addr.add, Nat.zero_add] at hx267_0 | skip)
              replace p267 := eq_true p267; replace q267 := eq_true q267; go_wp2
              (try simp only [← hl5_3])
              go_roundg kj18
              case measure => have := HK1.out; have := HK2.out; have := HK3.out; have := HJ18.out; omega
              case rel => exact ⟨(x5_3), (wrap64 (x31_3 + 1)), er, H', ⟨by have := HK1.out; have := HK2.out; have := HK3.out; have := HJ18.out; omega⟩, ⟨by (try simp only [hl5_2]); (try simp only [hl5_3]); (with_reducible repeat (first | apply Kd.R_alloc | apply Kd.R_drewN | apply Kd.R_drew)); exact HO_5.out⟩, ⟨by (try simp only [hl5_2]); (try simp only [hl5_3]); (with_reducible repeat (first | refine blk_drewN ?_ _ | refine blk_drew ?_ | refine blk_alloc ?_ _)); exact BK248.out⟩, ⟨belowg1 HB GE248⟩⟩
         ·rw [if_neg c16] at H
          have c16b0 : decide (x31_3 < (l0_1.length : Int)) = false := decide_eq_false c16
          have c16b0s := c16b0
          (try simp only [hl5_2, hl5_3] at c16b0s)
          clear c16
          have H' := Aside0.mk H
          clear H; go_wp2
          (try simp only [← hl5_2, ← hl5_3])
          go_roundg k3
          case measure => have := HK1.out; have := HK2.out; have := HK3.out; omega
          case rel => exact ⟨(x5_3), (wrap64 (x7_2 + 1)), er, H', ⟨by have := HK1.out; have := HK2.out; have := HK3.out; omega⟩, ⟨by (try simp only [hl5_2]); (try simp only [hl5_3]); (with_reducible repeat (first | apply Kd.R_alloc | apply Kd.R_drewN | apply Kd.R_drew)); exact HO_5.out⟩, ⟨by (try simp only [hl5_2]); (try simp only [hl5_3]); (with_reducible repeat (first | refine blk_drewN ?_ _ | refine blk_drew ?_ | refine blk_alloc ?_ _)); exact BK248.out⟩, ⟨belowg1 HB GE248⟩⟩
      ·rw [if_neg c14] at H
       have c14b0 : decide (x7_2 < a0_0) = false := decide_eq_false c14
       clear c14
       obtain rfl := Option.some.inj H
       obtain ⟨hcz57_0, hcz57_1, hcz57_2, hfz57_0, hfz57_1, hfz57_2⟩ := box3 BK248; go_wp2
       go_ret
       exact ⟨_, er2, by (with_reducible repeat (first | apply Kd.R_alloc | apply Kd.R_drewN | apply Kd.R_drew)); exact HO_5.out, belowg1 HB GE248⟩

end Go.Proofs.Ytpibdgknmjjolaa.QFnTable
