-- printed by this session's own program (wip/tools/pp.py: the kit's print.py with changes); Lean checks it
import Derived.Test.YtbgoddobpdcjbaaQFnExactNewNetx0
import Derived.Test.YtbgoddobpdcjbaaQFnExactNewNetx2
import Derived.Test.YtbgoddobpdcjbaaQFnExactNewNetx3
namespace Go.Proofs.Ytbgoddobpdcjbaa.QFnExactNewNet
open Go.RowKit Go.Proofs.YtbgoddobpdcjbaaW.PrintWords Go.Proofs.YtbgoddobpdcjbaaW.PrintLast Go.Proofs.YtbgoddobpdcjbaaW.PrintMore
attribute [local go_sem] max2_int min2_int max_two min_two max_three min_three max_four min_four strLss strGtr strLeq strGeq   -- for this text's walks alone
set_option linter.unusedVariables false
set_option linter.unusedSimpArgs false

/-! ### laws_heldStringSS: function 19 -/
def laws_heldStringSS.l0 : Nat → List (List ByteArray) → Int → Int → Option (Int)
  | 0, _, _, _ => none
  | k + 1, x0, x1, x5 => if x5 < (x0.length : Int) then (if 0 ≤ x5 then ((laws_heldStringS.f k (rd_L2 x0 x5) x1).bind fun t157 => (if t157 < 0 then (some (-1)) else (laws_heldStringSS.l0 k x0 t157 (wrap64 (x5 + 1))))) else (none)) else (some x1)
def laws_heldStringSS.f (k : Nat) (l0 : List (List ByteArray)) (a1 : Int) : Option (Int) := laws_heldStringSS.l0 k l0 a1 0
theorem laws_heldStringSS.mono_l : ∀ k, (∀ y0 y1 y2, LeO (laws_heldStringSS.l0 k y0 y1 y2) (laws_heldStringSS.l0 (k + 1) y0 y1 y2))
 | 0 => fun _ _ _ r h => by simp [laws_heldStringSS.l0] at h
 | k + 1 => by
  have ih0 := laws_heldStringSS.mono_l k
  ·intro y0 y1 y2
   unfold laws_heldStringSS.l0
   repeat' (first | (with_reducible first | exact ih0 _ _ _ | exact laws_heldStringS.mono _ _ _ | exact LeO.refl _ | exact LeO.none _ | refine LeO.ite ?_ ?_ | refine LeO.bind ?_ (fun _ => ?_)) | exact ih0 _ _ _ | exact laws_heldStringS.mono _ _ _ | exact LeO.none _ | refine LeO.ite ?_ ?_ | refine LeO.bind ?_ (fun _ => ?_))
theorem laws_heldStringSS.mono : ∀ a0 a1 k, LeO (laws_heldStringSS.f k a0 a1) (laws_heldStringSS.f (k + 1) a0 a1) := by
 intro a0 a1 k
 have ih0 := laws_heldStringSS.mono_l k
 unfold laws_heldStringSS.f
 repeat' (first | (with_reducible first | exact ih0 _ _ _ | exact laws_heldStringS.mono _ _ _ | exact LeO.refl _ | exact LeO.none _ | refine LeO.ite ?_ ?_ | refine LeO.bind ?_ (fun _ => ?_)) | exact ih0 _ _ _ | exact laws_heldStringS.mono _ _ _ | exact LeO.none _ | refine LeO.ite ?_ ?_ | refine LeO.bind ?_ (fun _ => ?_))
set_option maxHeartbeats 8000000 in
set_option maxRecDepth 100000 in
theorem laws_heldStringSS.calls (k : Nat) (A0 : Option Addr) (c0 : Nat) (l0 : List (List ByteArray)) (a1 : Int) (r : Int) (w : World) (hr0 : Kd.C (Kd.slice 9 Kd.string) w A0 l0.length l0) (hc0 : l0.length ≤ c0) (h : laws_heldStringSS.f k l0 a1 = some r) :
  Calls Try.prog 19 #[.slice A0 l0.length c0, .int .i64 a1] w fun e w' => e = .returned (.int .i64 r) ∧ Below w.heap.size w w' := by
 have HR0 := Aside0.mk hr0; have HC0 := Aside0.mk hc0; clear hr0 hc0
 have HB := Aside0.mk (Below.refl w.heap.size w)
 have H : (laws_heldStringSS.l0 k l0 a1 0) = some r := h
 clear h
 have H' := Aside0.mk H
 clear H
 go_enter Try.func19, Try.ntmps19
 go_wp2
 go_loopg [1, 5] k (fun kq v1 v5 w' => ∃ (x1_1 : Int) (x5_1 : Int), v1 = .int .i64 x1_1 ∧ v5 = .int .i64 x5_1 ∧ Aside0 (laws_heldStringSS.l0 kq l0 x1_1 x5_1 = some r) ∧ Aside0 (kq ≤ k) ∧ Aside0 (Below w.heap.size w w'))
 case atStart => exact ⟨(a1), (0), er, er, H', ⟨Nat.le_refl _⟩, ⟨belowd HB⟩⟩
 case round =>
  clear H'
  obtain ⟨x1_1, x5_1, rfl, rfl, HA, HK1, HB⟩ := hrel
  cases gk with
  | zero => exact absurd HA.out (by simp [laws_heldStringSS.l0])
  | succ k1 =>
   have H := HA.out; clear HA
   simp only [laws_heldStringSS.l0] at H
   by_cases c3 : x5_1 < (l0.length : Int)
   ·rw [if_pos c3] at H
    have c3b0 : decide (x5_1 < (l0.length : Int)) = true := decide_eq_true c3
    clear c3; replace H := ifS H; obtain ⟨c4, H⟩ := H; have c4b0 := decide_eq_true c4; clear c4; replace H := bS H; obtain ⟨t157, A5, H⟩ := H
    replace H : (if t157 < 0 then (some (-1)) else (laws_heldStringSS.l0 k1 l0 t157 (wrap64 (x5_1 + 1)))) = some r := H
    by_cases c6 : t157 < 0
    ·rw [if_pos c6] at H
     have c6b0 : decide (t157 < 0) = true := decide_eq_true c6
     clear c6
     obtain rfl := Option.some.inj H
     have p156 : 0 ≤ (x5_1 : Int) := da
     have q156 : x5_1 < (l0.length : Int) := da
     obtain ⟨ad156, A156_0, c156_0, e156, hx156_0, hl156_0, hi156_0⟩ := at_L2 HR0.out x5_1 p156 q156
     cases e156
     replace hx156_0 := (HB.out.cell (World.block_lt_of_cell? w _ hx156_0)).trans hx156_0
     have HR156_0 := Aside0.mk hi156_0; have HC156_0 := Aside0.mk hl156_0; clear hi156_0 hl156_0; replace p156 := eq_true p156; replace q156 := eq_true q156
     go_wp2_with (first | ((with_reducible refine gate_callee (f := 27) rfl ?_); refine goesLa (some 17) rfl Try.func27 #[.slice A156_0 (rd_L2 l0 x5_1).length c156_0, .int .i64 x1_1] rfl ?_; (with_reducible refine (laws_heldStringS.calls k1 _ _ (rd_L2 l0 x5_1) x1_1 t157 _ ?side1 ?side2 A5.out).mono ?_); (case side1 => exact cd (Kd.C_below HR156_0.out HB.out)); (case side2 => exact HC156_0.out); rintro e w7 ⟨rfl, hb⟩; refine ⟨_, rfl, ?_⟩; replace HB := ak (below_step (belowd HB) hb); (try clear hb)))
     go_ret
     exact ⟨er2, belowd HB⟩
    ·rw [if_neg c6] at H
     have c6b0 : decide (t157 < 0) = false := decide_eq_false c6
     clear c6
     have H' := Aside0.mk H
     clear H
     have p156 : 0 ≤ (x5_1 : Int) := da
     have q156 : x5_1 < (l0.length : Int) := da
     obtain ⟨ad156, A156_0, c156_0, e156, hx156_0, hl156_0, hi156_0⟩ := at_L2 HR0.out x5_1 p156 q156
     cases e156
     replace hx156_0 := (HB.out.cell (World.block_lt_of_cell? w _ hx156_0)).trans hx156_0
     have HR156_0 := Aside0.mk hi156_0; have HC156_0 := Aside0.mk hl156_0; clear hi156_0 hl156_0; replace p156 := eq_true p156; replace q156 := eq_true q156
     go_wp2_with (first | ((with_reducible refine gate_callee (f := 27) rfl ?_); refine goesLa (some 17) rfl Try.func27 #[.slice A156_0 (rd_L2 l0 x5_1).length c156_0, .int .i64 x1_1] rfl ?_; (with_reducible refine (laws_heldStringS.calls k1 _ _ (rd_L2 l0 x5_1) x1_1 t157 _ ?side1 ?side2 A5.out).mono ?_); (case side1 => exact cd (Kd.C_below HR156_0.out HB.out)); (case side2 => exact HC156_0.out); rintro e w8 ⟨rfl, hb⟩; refine ⟨_, rfl, ?_⟩; replace HB := ak (below_step (belowd HB) hb); (try clear hb)))
     go_roundg k1
     case measure => have := HK1.out; omega
     case rel => exact ⟨(t157), (wrap64 (x5_1 + 1)), er, er, H', ⟨by have := HK1.out; omega⟩, ⟨belowd HB⟩⟩
   ·rw [if_neg c3] at H
    have c3b0 : decide (x5_1 < (l0.length : Int)) = false := decide_eq_false c3
    clear c3
    obtain rfl := Option.some.inj H
    go_wp2
    go_ret
    exact ⟨er2, belowd HB⟩

/-! ### laws_heldNet: function 11 -/
def laws_heldNet.f (k : Nat) (l0_0 : List Int) (l0_1 : List (List ByteArray)) (l0_2 : List (List ByteArray)) (l0_3 : List (List ByteArray)) (a0_4 : Int) (a1 : Int) : Option (Int) := (laws_heldIntS.f k l0_0 a1).bind fun t159 => (if t159 < 0 then (some (-1)) else ((laws_heldStringSS.f k l0_1 t159).bind fun t160 => (if t160 < 0 then (some (-1)) else ((laws_heldStringSS.f k l0_2 t160).bind fun t161 => (if t161 < 0 then (some (-1)) else ((laws_heldStringSS.f k l0_3 t161).bind fun t162 => (if t162 < 0 then (some (-1)) else (some t162))))))))
theorem laws_heldNet.mono : ∀ a0 a1 a2 a3 a4 a5 k, LeO (laws_heldNet.f k a0 a1 a2 a3 a4 a5) (laws_heldNet.f (k + 1) a0 a1 a2 a3 a4 a5) := by
 intro a0 a1 a2 a3 a4 a5 k
 unfold laws_heldNet.f
 repeat' (first | (with_reducible first | exact laws_heldIntS.mono _ _ _ | exact laws_heldStringSS.mono _ _ _ | exact LeO.refl _ | exact LeO.none _ | refine LeO.ite ?_ ?_ | refine LeO.bind ?_ (fun _ => ?_)) | exact laws_heldIntS.mono _ _ _ | exact laws_heldStringSS.mono _ _ _ | exact LeO.none _ | refine LeO.ite ?_ ?_ | refine LeO.bind ?_ (fun _ => ?_))
set_option maxHeartbeats 8000000 in
set_option maxRecDepth 100000 in
theorem laws_heldNet.calls (k : Nat) (A0_0 : Option Addr) (c0_0 : Nat) (l0_0 : List Int) (A0_1 : Option Addr) (c0_1 : Nat) (l0_1 : List (List ByteArray)) (A0_2 : Option Addr) (c0_2 : Nat) (l0_2 : List (List ByteArray)) (A0_3 : Option Addr) (c0_3 : Nat) (l0_3 : List (List ByteArray)) (a0_4 : Int) (a1 : Int) (r : Int) (w : World) (hr0_0 : Kd.C (Kd.int .i64) w A0_0 l0_0.length l0_0) (hc0_0 : l0_0.length ≤ c0_0) (hr0_1 : Kd.C (Kd.slice 9 Kd.string) w A0_1 l0_1.length l0_1) (hc0_1 : l0_1.length ≤ c0_1) (hr0_2 : Kd.C (Kd.slice 9 Kd.string) w A0_2 l0_2.length l0_2) (hc0_2 : l0_2.length ≤ c0_2) (hr0_3 : Kd.C (Kd.slice 9 Kd.string) w A0_3 l0_3.length l0_3) (hc0_3 : l0_3.length ≤ c0_3) (h : laws_heldNet.f k l0_0 l0_1 l0_2 l0_3 a0_4 a1 = some r) :
  Calls Try.prog 11 #[.agg #[.slice A0_0 l0_0.length c0_0, .slice A0_1 l0_1.length c0_1, .slice A0_2 l0_2.length c0_2, .slice A0_3 l0_3.length c0_3, .int .i64 a0_4], .int .i64 a1] w fun e w' => e = .returned (.int .i64 r) ∧ Below w.heap.size w w' := by
 have hu25 := Try.underlying25
 have HR0_0 := Aside0.mk hr0_0; have HC0_0 := Aside0.mk hc0_0; clear hr0_0 hc0_0; have HR0_1 := Aside0.mk hr0_1; have HC0_1 := Aside0.mk hc0_1; clear hr0_1 hc0_1; have HR0_2 := Aside0.mk hr0_2; have HC0_2 := Aside0.mk hc0_2; clear hr0_2 hc0_2; have HR0_3 := Aside0.mk hr0_3; have HC0_3 := Aside0.mk hc0_3; clear hr0_3 hc0_3
 have HB := Aside0.mk (Below.refl w.heap.size w)
 have H : ((laws_heldIntS.f k l0_0 a1).bind fun t159 => (if t159 < 0 then (some (-1)) else ((laws_heldStringSS.f k l0_1 t159).bind fun t160 => (if t160 < 0 then (some (-1)) else ((laws_heldStringSS.f k l0_2 t160).bind fun t161 => (if t161 < 0 then (some (-1)) else ((laws_heldStringSS.f k l0_3 t161).bind fun t162 => (if t162 < 0 then (some (-1)) else (some t162))))))))) = some r := h
 clear h; replace H := bS H; obtain ⟨t159, A3, H⟩ := H
 replace H : (if t159 < 0 then (some (-1)) else ((laws_heldStringSS.f k l0_1 t159).bind fun t160 => (if t160 < 0 then (some (-1)) else ((laws_heldStringSS.f k l0_2 t160).bind fun t161 => (if t161 < 0 then (some (-1)) else ((laws_heldStringSS.f k l0_3 t161).bind fun t162 => (if t162 < 0 then (some (-1)) else (some t162)))))))) = some r := H
 by_cases c4 : t159 < 0
 ·rw [if_pos c4] at H
  have c4b0 : decide (t159 < 0) = true := decide_eq_true c4
  clear c4
  obtain rfl := Option.some.inj H
  go_enter Try.func11, Try.ntmps11
  go_wp2_with (first | ((with_reducible refine gate_dst (N := 2) rfl ?_); refine boxev 2 #[.slice A0_0 l0_0.length c0_0, .slice A0_1 l0_1.length c0_1, .slice A0_2 l0_2.length c0_2, .slice A0_3 l0_3.length c0_3, .int .i64 a0_4] 25 ?_; intro gb158 hg w5 hbox hb; have BK158 := ak (hbox); have GW158 := ak (hgl hg (belowd HB)); have GE158 := ak (hgl hg (belowd HB)); replace HB := ak (below_step (belowd HB) hb); clear hb hbox hg; obtain ⟨hcz6_0, hcz6_1, hcz6_2, hcz6_3, hcz6_4, hfz6_0, hfz6_1, hfz6_2, hfz6_3, hfz6_4⟩ := box5 BK158) | ((with_reducible refine gate_callee (f := 18) rfl ?_); refine goesLa (some 8) rfl Try.func18 #[.slice A0_0 l0_0.length c0_0, .int .i64 a1] rfl ?_; (with_reducible refine (laws_heldIntS.calls k _ _ l0_0 a1 t159 _ ?side1 ?side2 A3.out).mono ?_); (case side1 => exact cd (Kd.C_below HR0_0.out HB.out)); (case side2 => exact HC0_0.out); rintro e w' ⟨rfl, ⟨nd, rfl⟩⟩; refine ⟨_, rfl, ?_⟩))
  go_ret
  exact ⟨er2, belowg1 HB GE158⟩
 ·rw [if_neg c4] at H
  have c4b0 : decide (t159 < 0) = false := decide_eq_false c4
  clear c4; replace H := bS H; obtain ⟨t160, A7, H⟩ := H
  replace H : (if t160 < 0 then (some (-1)) else ((laws_heldStringSS.f k l0_2 t160).bind fun t161 => (if t161 < 0 then (some (-1)) else ((laws_heldStringSS.f k l0_3 t161).bind fun t162 => (if t162 < 0 then (some (-1)) else (some t162)))))) = some r := H
  by_cases c8 : t160 < 0
  ·rw [if_pos c8] at H
   have c8b0 : decide (t160 < 0) = true := decide_eq_true c8
   clear c8
   obtain rfl := Option.some.inj H
   go_enter Try.func11, Try.ntmps11
   go_wp2_with (first | ((with_reducible refine gate_dst (N := 2) rfl ?_); refine boxev 2 #[.slice A0_0 l0_0.length c0_0, .slice A0_1 l0_1.length c0_1, .slice A0_2 l0_2.length c0_2, .slice A0_3 l0_3.length c0_3, .int .i64 a0_4] 25 ?_; intro gb158 hg w9 hbox hb; have BK158 := ak (hbox); have GW158 := ak (hgl hg (belowd HB)); have GE158 := ak (hgl hg (belowd HB)); replace HB := ak (below_step (belowd HB) hb); clear hb hbox hg; obtain ⟨hcz10_0, hcz10_1, hcz10_2, hcz10_3, hcz10_4, hfz10_0, hfz10_1, hfz10_2, hfz10_3, hfz10_4⟩ := box5 BK158) | ((with_reducible refine gate_callee (f := 18) rfl ?_); refine goesLa (some 8) rfl Try.func18 #[.slice A0_0 l0_0.length c0_0, .int .i64 a1] rfl ?_; (with_reducible refine (laws_heldIntS.calls k _ _ l0_0 a1 t159 _ ?side1 ?side2 A3.out).mono ?_); (case side1 => exact cd (Kd.C_below HR0_0.out HB.out)); (case side2 => exact HC0_0.out); rintro e w' ⟨rfl, ⟨nd, rfl⟩⟩; refine ⟨_, rfl, ?_⟩) | ((with_reducible refine gate_callee (f := 19) rfl ?_); refine goesLa (some 14) rfl Try.func19 #[.slice A0_1 l0_1.length c0_1, .int .i64 t159] rfl ?_; (with_reducible refine (laws_heldStringSS.calls k _ _ l0_1 t159 t160 _ ?side1 ?side2 A7.out).mono ?_); (case side1 => exact cd (Kd.C_below HR0_1.out (belowg1 HB GE158))); (case side2 => exact HC0_1.out); rintro e w11 ⟨rfl, hb⟩; refine ⟨_, rfl, ?_⟩; replace BK158 := ak (blk_below (blkd BK158) hb); replace HB := ak (below_step (belowg1 HB GE158) hb); (try clear hb)))
   go_ret
   exact ⟨er2, belowg1 HB GE158⟩
  ·rw [if_neg c8] at H
   have c8b0 : decide (t160 < 0) = false := decide_eq_false c8
   clear c8; replace H := bS H; obtain ⟨t161, A12, H⟩ := H
   replace H : (if t161 < 0 then (some (-1)) else ((laws_heldStringSS.f k l0_3 t161).bind fun t162 => (if t162 < 0 then (some (-1)) else (some t162)))) = some r := H
   by_cases c13 : t161 < 0
   ·rw [if_pos c13] at H
    have c13b0 : decide (t161 < 0) = true := decide_eq_true c13
    clear c13
    obtain rfl := Option.some.inj H
    go_enter Try.func11, Try.ntmps11
    go_wp2_with (first | ((with_reducible refine gate_dst (N := 2) rfl ?_); refine boxev 2 #[.slice A0_0 l0_0.length c0_0, .slice A0_1 l0_1.length c0_1, .slice A0_2 l0_2.length c0_2, .slice A0_3 l0_3.length c0_3, .int .i64 a0_4] 25 ?_; intro gb158 hg w14 hbox hb; have BK158 := ak (hbox); have GW158 := ak (hgl hg (belowd HB)); have GE158 := ak (hgl hg (belowd HB)); replace HB := ak (below_step (belowd HB) hb); clear hb hbox hg; obtain ⟨hcz15_0, hcz15_1, hcz15_2, hcz15_3, hcz15_4, hfz15_0, hfz15_1, hfz15_2, hfz15_3, hfz15_4⟩ := box5 BK158) | ((with_reducible refine gate_callee (f := 18) rfl ?_); refine goesLa (some 8) rfl Try.func18 #[.slice A0_0 l0_0.length c0_0, .int .i64 a1] rfl ?_; (with_reducible refine (laws_heldIntS.calls k _ _ l0_0 a1 t159 _ ?side1 ?side2 A3.out).mono ?_); (case side1 => exact cd (Kd.C_below HR0_0.out HB.out)); (case side2 => exact HC0_0.out); rintro e w' ⟨rfl, ⟨nd, rfl⟩⟩; refine ⟨_, rfl, ?_⟩) | ((with_reducible refine gate_callee (f := 19) rfl ?_); refine goesLa (some 14) rfl Try.func19 #[.slice A0_1 l0_1.length c0_1, .int .i64 t159] rfl ?_; (with_reducible refine (laws_heldStringSS.calls k _ _ l0_1 t159 t160 _ ?side1 ?side2 A7.out).mono ?_); (case side1 => exact cd (Kd.C_below HR0_1.out (belowg1 HB GE158))); (case side2 => exact HC0_1.out); rintro e w16 ⟨rfl, hb⟩; refine ⟨_, rfl, ?_⟩; replace BK158 := ak (blk_below (blkd BK158) hb); replace HB := ak (below_step (belowg1 HB GE158) hb); (try clear hb); obtain ⟨hcz17_0, hcz17_1, hcz17_2, hcz17_3, hcz17_4, hfz17_0, hfz17_1, hfz17_2, hfz17_3, hfz17_4⟩ := box5 BK158) | ((with_reducible refine gate_callee (f := 19) rfl ?_); refine goesLa (some 20) rfl Try.func19 #[.slice A0_2 l0_2.length c0_2, .int .i64 t160] rfl ?_; (with_reducible refine (laws_heldStringSS.calls k _ _ l0_2 t160 t161 _ ?side1 ?side2 A12.out).mono ?_); (case side1 => exact cd (Kd.C_below HR0_2.out HB.out)); (case side2 => exact HC0_2.out); rintro e w18 ⟨rfl, hb⟩; refine ⟨_, rfl, ?_⟩; replace BK158 := ak (blk_below (blkd BK158) hb); replace HB := ak (below_step (belowg1 HB GE158) hb); (try clear hb)))
    go_ret
    exact ⟨er2, belowg1 HB GE158⟩
   ·rw [if_neg c13] at H
    have c13b0 : decide (t161 < 0) = false := decide_eq_false c13
    clear c13; replace H := bS H; obtain ⟨t162, A19, H⟩ := H
    replace H : (if t162 < 0 then (some (-1)) else (some t162)) = some r := H
    by_cases c20 : t162 < 0
    ·rw [if_pos c20] at H
     have c20b0 : decide (t162 < 0) = true := decide_eq_true c20
     clear c20
     obtain rfl := Option.some.inj H
     go_enter Try.func11, Try.ntmps11
     go_wp2_with (first | ((with_reducible refine gate_dst (N := 2) rfl ?_); refine boxev 2 #[.slice A0_0 l0_0.length c0_0, .slice A0_1 l0_1.length c0_1, .slice A0_2 l0_2.length c0_2, .slice A0_3 l0_3.length c0_3, .int .i64 a0_4] 25 ?_; intro gb158 hg w21 hbox hb; have BK158 := ak (hbox); have GW158 := ak (hgl hg (belowd HB)); have GE158 := ak (hgl hg (belowd HB)); replace HB := ak (below_step (belowd HB) hb); clear hb hbox hg; obtain ⟨hcz22_0, hcz22_1, hcz22_2, hcz22_3, hcz22_4, hfz22_0, hfz22_1, hfz22_2, hfz22_3, hfz22_4⟩ := box5 BK158) | ((with_reducible refine gate_callee (f := 18) rfl ?_); refine goesLa (some 8) rfl Try.func18 #[.slice A0_0 l0_0.length c0_0, .int .i64 a1] rfl ?_; (with_reducible refine (laws_heldIntS.calls k _ _ l0_0 a1 t159 _ ?side1 ?side2 A3.out).mono ?_); (case side1 => exact cd (Kd.C_below HR0_0.out HB.out)); (case side2 => exact HC0_0.out); rintro e w' ⟨rfl, ⟨nd, rfl⟩⟩; refine ⟨_, rfl, ?_⟩) | ((with_reducible refine gate_callee (f := 19) rfl ?_); refine goesLa (some 14) rfl Try.func19 #[.slice A0_1 l0_1.length c0_1, .int .i64 t159] rfl ?_; (with_reducible refine (laws_heldStringSS.calls k _ _ l0_1 t159 t160 _ ?side1 ?side2 A7.out).mono ?_); (case side1 => exact cd (Kd.C_below HR0_1.out (belowg1 HB GE158))); (case side2 => exact HC0_1.out); rintro e w23 ⟨rfl, hb⟩; refine ⟨_, rfl, ?_⟩; replace BK158 := ak (blk_below (blkd BK158) hb); replace HB := ak (below_step (belowg1 HB GE158) hb); (try clear hb); obtain ⟨hcz24_0, hcz24_1, hcz24_2, hcz24_3, hcz24_4, hfz24_0, hfz24_1, hfz24_2, hfz24_3, hfz24_4⟩ := box5 BK158) | ((with_reducible refine gate_callee (f := 19) rfl ?_); refine goesLa (some 20) rfl Try.func19 #[.slice A0_2 l0_2.length c0_2, .int .i64 t160] rfl ?_; (with_reducible refine (laws_heldStringSS.calls k _ _ l0_2 t160 t161 _ ?side1 ?side2 A12.out).mono ?_); (case side1 => exact cd (Kd.C_below HR0_2.out HB.out)); (case side2 => exact HC0_2.out); rintro e w25 ⟨rfl, hb⟩; refine ⟨_, rfl, ?_⟩; replace BK158 := ak (blk_below (blkd BK158) hb); replace HB := ak (below_step (belowg1 HB GE158) hb); (try clear hb); obtain ⟨hcz26_0, hcz26_1, hcz26_2, hcz26_3, hcz26_4, hfz26_0, hfz26_1, hfz26_2, hfz26_3, hfz26_4⟩ := box5 BK158) | ((with_reducible refine gate_callee (f := 19) rfl ?_); refine goesLa (some 26) rfl Try.func19 #[.slice A0_3 l0_3.length c0_3, .int .i64 t161] rfl ?_; (with_reducible refine (laws_heldStringSS.calls k _ _ l0_3 t161 t162 _ ?side1 ?side2 A19.out).mono ?_); (case side1 => exact cd (Kd.C_below HR0_3.out HB.out)); (case side2 => exact HC0_3.out); rintro e w27 ⟨rfl, hb⟩; refine ⟨_, rfl, ?_⟩; replace BK158 := ak (blk_below (blkd BK158) hb); replace HB := ak (below_step (belowg1 HB GE158) hb); (try clear hb)))
     go_ret
     exact ⟨er2, belowg1 HB GE158⟩
    ·rw [if_neg c20] at H
     have c20b0 : decide (t162 < 0) = false := decide_eq_false c20
     clear c20
     obtain rfl := Option.some.inj H
     go_enter Try.func11, Try.ntmps11
     go_wp2_with (first | ((with_reducible refine gate_dst (N := 2) rfl ?_); refine boxev 2 #[.slice A0_0 l0_0.length c0_0, .slice A0_1 l0_1.length c0_1, .slice A0_2 l0_2.length c0_2, .slice A0_3 l0_3.length c0_3, .int .i64 a0_4] 25 ?_; intro gb158 hg w28 hbox hb; have BK158 := ak (hbox); have GW158 := ak (hgl hg (belowd HB)); have GE158 := ak (hgl hg (belowd HB)); replace HB := ak (below_step (belowd HB) hb); clear hb hbox hg; obtain ⟨hcz29_0, hcz29_1, hcz29_2, hcz29_3, hcz29_4, hfz29_0, hfz29_1, hfz29_2, hfz29_3, hfz29_4⟩ := box5 BK158) | ((with_reducible refine gate_callee (f := 18) rfl ?_); refine goesLa (some 8) rfl Try.func18 #[.slice A0_0 l0_0.length c0_0, .int .i64 a1] rfl ?_; (with_reducible refine (laws_heldIntS.calls k _ _ l0_0 a1 t159 _ ?side1 ?side2 A3.out).mono ?_); (case side1 => exact cd (Kd.C_below HR0_0.out HB.out)); (case side2 => exact HC0_0.out); rintro e w' ⟨rfl, ⟨nd, rfl⟩⟩; refine ⟨_, rfl, ?_⟩) | ((with_reducible refine gate_callee (f := 19) rfl ?_); refine goesLa (some 14) rfl Try.func19 #[.slice A0_1 l0_1.length c0_1, .int .i64 t159] rfl ?_; (with_reducible refine (laws_heldStringSS.calls k _ _ l0_1 t159 t160 _ ?side1 ?side2 A7.out).mono ?_); (case side1 => exact cd (Kd.C_below HR0_1.out (belowg1 HB GE158))); (case side2 => exact HC0_1.out); rintro e w30 ⟨rfl, hb⟩; refine ⟨_, rfl, ?_⟩; replace BK158 := ak (blk_below (blkd BK158) hb); replace HB := ak (below_step (belowg1 HB GE158) hb); (try clear hb); obtain ⟨hcz31_0, hcz31_1, hcz31_2, hcz31_3, hcz31_4, hfz31_0, hfz31_1, hfz31_2, hfz31_3, hfz31_4⟩ := box5 BK158) | ((with_reducible refine gate_callee (f := 19) rfl ?_); refine goesLa (some 20) rfl Try.func19 #[.slice A0_2 l0_2.length c0_2, .int .i64 t160] rfl ?_; (with_reducible refine (laws_heldStringSS.calls k _ _ l0_2 t160 t161 _ ?side1 ?side2 A12.out).mono ?_); (case side1 => exact cd (Kd.C_below HR0_2.out HB.out)); (case side2 => exact HC0_2.out); rintro e w32 ⟨rfl, hb⟩; refine ⟨_, rfl, ?_⟩; replace BK158 := ak (blk_below (blkd BK158) hb); replace HB := ak (below_step (belowg1 HB GE158) hb); (try clear hb); obtain ⟨hcz33_0, hcz33_1, hcz33_2, hcz33_3, hcz33_4, hfz33_0, hfz33_1, hfz33_2, hfz33_3, hfz33_4⟩ := box5 BK158) | ((with_reducible refine gate_callee (f := 19) rfl ?_); refine goesLa (some 26) rfl Try.func19 #[.slice A0_3 l0_3.length c0_3, .int .i64 t161] rfl ?_; (with_reducible refine (laws_heldStringSS.calls k _ _ l0_3 t161 t162 _ ?side1 ?side2 A19.out).mono ?_); (case side1 => exact cd (Kd.C_below HR0_3.out HB.out)); (case side2 => exact HC0_3.out); rintro e w34 ⟨rfl, hb⟩; refine ⟨_, rfl, ?_⟩; replace BK158 := ak (blk_below (blkd BK158) hb); replace HB := ak (below_step (belowg1 HB GE158) hb); (try clear hb)))
     go_ret
     exact ⟨er2, belowg1 HB GE158⟩

/-! ### nets: what is read of one, what one is made of -/
structure Nt where
  ks : List Int
  ps : List (List ByteArray)
  ss : List (List ByteArray)
  ib : List (List ByteArray)
  sd : Int
abbrev KI : Kd Int := Kd.int .i64
abbrev KT : Kd (List ByteArray) := Kd.slice 9 Kd.string
/-- A net that is read. -/
def NC (W : World) (v0 v1 v2 v3 : Value) (n : Nt) : Prop := ∃ A0 c0 A1 c1 A2 c2 A3 c3, (v0 = .slice A0 n.ks.length c0 ∧ v1 = .slice A1 n.ps.length c1 ∧ v2 = .slice A2 n.ss.length c2 ∧ v3 = .slice A3 n.ib.length c3) ∧ (KI.C W A0 n.ks.length n.ks ∧ n.ks.length ≤ c0) ∧ (KT.C W A1 n.ps.length n.ps ∧ n.ps.length ≤ c1) ∧ (KT.C W A2 n.ss.length n.ss ∧ n.ss.length ≤ c2) ∧ (KT.C W A3 n.ib.length n.ib ∧ n.ib.length ≤ c3)
/-- A net of the call's own: four things. -/
def netA (v0 v1 v2 v3 : Value) (n : Nt) : List SA := [rA KI 3 v0 n.ks, sA KT 39 v1 n.ps, sA KT 39 v2 n.ss, sA KT 39 v3 n.ib]
theorem netA_at (v0 v1 v2 v3 : Value) (n : Nt) (L0 L : List SA) (j : Nat) (hj : j < 4) : (L0 ++ (netA v0 v1 v2 v3 n ++ L)).getD (L0.length + j) nA = (netA v0 v1 v2 v3 n).getD j nA := by
  rw [getD_app_r (by omega), Nat.add_sub_cancel_left, getD_app_l (by simpa [netA] using hj)]
theorem NC.of {W : World} {b : Nat} {c : Nat → Nat} {i : Nat} {v0 v1 v2 v3 : Value} {n : Nt} (h : SepAt c b W i (netA v0 v1 v2 v3 n)) : NC W v0 v1 v2 v3 n := by
  obtain ⟨h0, h1, h2, h3, -⟩ := h
  obtain ⟨A0, c0, e0, l0, r0⟩ := Kd.R_reads h0
  obtain ⟨A1, c1, e1, l1, r1⟩ := Kd.S_reads h1
  obtain ⟨A2, c2, e2, l2, r2⟩ := Kd.S_reads h2
  obtain ⟨A3, c3, e3, l3, r3⟩ := Kd.S_reads h3
  exact ⟨A0, c0, A1, c1, A2, c2, A3, c3, ⟨e0, e1, e2, e3⟩, ⟨r0, l0⟩, ⟨r1, l1⟩, ⟨r2, l2⟩, ⟨r3, l3⟩⟩
theorem SepAt.mid {c : Nat → Nat} {b : Nat} {W : World} : ∀ (L0 : List SA) {L : List SA} {i : Nat}, SepAt c b W i (L0 ++ L) → SepAt c b W (i + L0.length) L
  | [], _, _, h => h
  | _ :: L0, _, i, h => by
    have := SepAt.mid L0 (i := i + 1) h.2
    rw [List.length_cons, show i + (L0.length + 1) = i + 1 + L0.length from by omega]
    exact this
theorem SepAt.left {c : Nat → Nat} {b : Nat} {W : World} : ∀ (L0 : List SA) {L : List SA} {i : Nat}, SepAt c b W i (L0 ++ L) → SepAt c b W i L0
  | [], _, _, _ => trivial
  | _ :: L0, _, _, h => ⟨h.1, SepAt.left L0 h.2⟩
/-- The net behind L0. -/
theorem sepNc {w0 W : World} {L : List SA} {v0 v1 v2 v3 : Value} {n : Nt} (h : Sep w0 W L) (m : Nat) (e : (L.drop m).take 4 = netA v0 v1 v2 v3 n := by rfl) : NC W v0 v1 v2 v3 n := by
  obtain ⟨_, c, h⟩ := h
  have h' : SepAt c w0.heap.size W 0 (L.take m ++ ((L.drop m).take 4 ++ (L.drop m).drop 4)) := by rw [List.take_append_drop, List.take_append_drop]; exact h
  have := SepAt.left _ (SepAt.mid _ h')
  rw [e] at this
  exact NC.of this
theorem NC.slices {W : World} {v0 v1 v2 v3 : Value} {n : Nt} (h : NC W v0 v1 v2 v3 n) : (∃ A c, v0 = .slice A n.ks.length c) ∧ (∃ A c, v1 = .slice A n.ps.length c) ∧ (∃ A c, v2 = .slice A n.ss.length c) ∧ (∃ A c, v3 = .slice A n.ib.length c) := by
  obtain ⟨A0, c0, A1, c1, A2, c2, A3, c3, ⟨e0, e1, e2, e3⟩, _⟩ := h
  exact ⟨⟨_, _, e0⟩, ⟨_, _, e1⟩, ⟨_, _, e2⟩, ⟨_, _, e3⟩⟩
theorem NC.below {W W1 : World} {v0 v1 v2 v3 : Value} {n : Nt} (h : NC W v0 v1 v2 v3 n) (hb : Below W.heap.size W W1) : NC W1 v0 v1 v2 v3 n := by
  obtain ⟨A0, c0, A1, c1, A2, c2, A3, c3, e, ⟨r0, l0⟩, ⟨r1, l1⟩, ⟨r2, l2⟩, ⟨r3, l3⟩⟩ := h
  exact ⟨A0, c0, A1, c1, A2, c2, A3, c3, e, ⟨Kd.C_below r0 hb, l0⟩, ⟨Kd.C_below r1 hb, l1⟩, ⟨Kd.C_below r2 hb, l2⟩, ⟨Kd.C_below r3 hb, l3⟩⟩
/-- A net that has just been made. -/
def MadeNet (w : World) (n : Nt) (b : Bool) (e : Ending) (w' : World) : Prop := ∃ v0 v1 v2 v3 : Value, e = .returned (.tuple #[.agg #[v0, v1, v2, v3, .int .i64 n.sd], .bool b]) ∧ (∃ c, SepAt c w.heap.size w' 0 (netA v0 v1 v2 v3 n)) ∧ Below w.heap.size w w'
theorem made_of {w w' : World} {v0 v1 v2 v3 : Value} {r1 : List Int} {r2 r3 r4 : List (List ByteArray)} {g1 g2 g3 : Nat} {sd : Int} (h0 : KI.R 3 w' w.heap.size (fun _ => True) v0 r1) (h1 : Kd.S KT 39 w' w.heap.size (fun k_ => k_ = g1) v1 r2) (h2 : Kd.S KT 39 w' w.heap.size (fun k_ => k_ = g2) v2 r3) (h3 : Kd.S KT 39 w' w.heap.size (fun k_ => k_ = g3) v3 r4) (hn : g1 ≠ g2 ∧ g1 ≠ g3 ∧ g2 ≠ g3) : ∃ c, SepAt c w.heap.size w' 0 (netA v0 v1 v2 v3 ⟨r1, r2, r3, r4, sd⟩) := by
  classical
  obtain ⟨n1, n2, n3⟩ := hn
  refine ⟨fun k => if (∃ cells, w'.heap[k]? = some (.cells cells 3 (0, 0))) then 0 else if k = g1 then 1 else if k = g2 then 2 else if k = g3 then 3 else 4, ?_, ?_, ?_, ?_, trivial⟩
  · refine Kd.R_mono (Kd.R_bound h0) (fun k hk => if_pos ?_)
    obtain ⟨_, _, _, q, hq, hc⟩ := hk
    have : q = 3 := by simpa [Kd.int, Kd.scalar] using hq
    subst this
    exact hc
  all_goals
    first
    | refine Kd.S_mono (Kd.S_bound h1) (fun k hk => ?_)
    | refine Kd.S_mono (Kd.S_bound h2) (fun k hk => ?_)
    | refine Kd.S_mono (Kd.S_bound h3) (fun k hk => ?_)
    obtain ⟨hk, _, _, q, hq, cells, hc⟩ := hk
    have hne : ¬ ∃ cells, w'.heap[k]? = some (.cells cells 3 (0, 0)) := by
      rintro ⟨cells', hc'⟩
      rw [hc] at hc'
      injection hc' with hc'
      injection hc' with _ hc'
      subst hc'
      simp [Kd.slice, Kd.string, Kd.scalar] at hq
    simp only [if_neg hne]
    subst hk
  · rw [if_pos rfl]
  · rw [if_neg (Ne.symm n1), if_pos rfl]
  · rw [if_neg (Ne.symm n2), if_neg (Ne.symm n3), if_pos rfl]
/-! ### what a law asks of nets -/
theorem nw_eq {k : Nat} {v0 v1 v2 v3 u0 u1 u2 u3 : Value} {n m : Nt} {r : Bool} {w : World} (hn : NC w v0 v1 v2 v3 n) (hm : NC w u0 u1 u2 u3 m) (h : laws_eqNet.f k n.ks n.ps n.ss n.ib n.sd m.ks m.ps m.ss m.ib m.sd = some r) :
    Calls Try.prog 7 #[.agg #[v0, v1, v2, v3, .int .i64 n.sd], .agg #[u0, u1, u2, u3, .int .i64 m.sd]] w fun e w' => e = .returned (.bool r) ∧ Below w.heap.size w w' := by
  obtain ⟨A0, c0, A1, c1, A2, c2, A3, c3, ⟨rfl, rfl, rfl, rfl⟩, ⟨r0, l0⟩, ⟨r1, l1⟩, ⟨r2, l2⟩, ⟨r3, l3⟩⟩ := hn
  obtain ⟨B0, d0, B1, d1, B2, d2, B3, d3, ⟨rfl, rfl, rfl, rfl⟩, ⟨s0, m0⟩, ⟨s1, m1⟩, ⟨s2, m2⟩, ⟨s3, m3⟩⟩ := hm
  exact laws_eqNet.calls k A0 c0 n.ks A1 c1 n.ps A2 c2 n.ss A3 c3 n.ib n.sd B0 d0 m.ks B1 d1 m.ps B2 d2 m.ss B3 d3 m.ib m.sd r w r0 l0 r1 l1 r2 l2 r3 l3 s0 m0 s1 m1 s2 m2 s3 m3 h
theorem nw_held {k : Nat} {v0 v1 v2 v3 : Value} {n : Nt} {a r : Int} {w : World} (hn : NC w v0 v1 v2 v3 n) (h : laws_heldNet.f k n.ks n.ps n.ss n.ib n.sd a = some r) :
    Calls Try.prog 11 #[.agg #[v0, v1, v2, v3, .int .i64 n.sd], .int .i64 a] w fun e w' => e = .returned (.int .i64 r) ∧ Below w.heap.size w w' := by
  obtain ⟨A0, c0, A1, c1, A2, c2, A3, c3, ⟨rfl, rfl, rfl, rfl⟩, ⟨r0, l0⟩, ⟨r1, l1⟩, ⟨r2, l2⟩, ⟨r3, l3⟩⟩ := hn
  exact laws_heldNet.calls k A0 c0 n.ks A1 c1 n.ps A2 c2 n.ss A3 c3 n.ib n.sd a r w r0 l0 r1 l1 r2 l2 r3 l3 h
/-- The net that stands first is written. -/
theorem nw_mark {k : Nat} {v0 v1 v2 v3 : Value} {n : Nt} {a r : Int} {m0 : List Int} {m1 m2 m3 : List (List ByteArray)} {L : List SA} {w0 w : World} (hs : Sep w0 w (netA v0 v1 v2 v3 n ++ L)) (h : laws_markNet.f k n.ks n.ps n.ss n.ib n.sd a = some (r, m0, m1, m2, m3)) :
    Calls Try.prog 10 #[.agg #[v0, v1, v2, v3, .int .i64 n.sd], .int .i64 a] w fun e w' => e = .returned (.int .i64 r) ∧ Sep w0 w' (netA v0 v1 v2 v3 ⟨m0, m1, m2, m3, n.sd⟩ ++ L) := by
  obtain ⟨hB, c, hs⟩ := hs
  obtain ⟨h0, h1, h2, h3, hL⟩ := hs
  refine (laws_markNet.calls k _ v0 n.ks _ v1 n.ps _ v2 n.ss _ v3 n.ib n.sd a r m0 m1 m2 m3 w0 w hB h0 h1 h2 h3 (fun k a b => by omega) (fun k a b => by omega) (fun k a b => by omega) (fun k a b => by omega) (fun k a b => by omega) (fun k a b => by omega) h).mono ?_
  rintro e w' ⟨rfl, g0, g1, g2, g3, hb, hk⟩
  refine ⟨rfl, hb, c, g0, g1, g2, g3, ?_⟩
  exact SepAt.to (i := 4) 0 hL (fun k j hj hkj hlt _ => ⟨hkj, hk.2 k hlt (fun e => by omega)⟩)
/-! ### new nets, as made -/
theorem nw_made {w : World} {r1 : List Int} {r2 r3 r4 : List (List ByteArray)} {b : Bool} {e : Ending} {w' : World} (h : NnPost w r1 r2 r3 r4 b e w') : MadeNet w ⟨r1, r2, r3, r4, 0⟩ b e w' := by
  obtain ⟨v0, v1, v2, v3, g1, g2, g3, he, h0, h1, h2, h3, hn, hb⟩ := h
  exact ⟨v0, v1, v2, v3, he, made_of h0 h1 h2 h3 hn, hb⟩
theorem nw_spec {k : Nat} {A0 : Option Addr} {c0 : Nat} {l0 : List Int} {r1 : List Int} {r2 r3 r4 : List (List ByteArray)} {r5 : Int} {r6 : Bool} {w : World} (hr0 : KI.C w A0 l0.length l0) (hc0 : l0.length ≤ c0) (h : spec_NewNet.f k l0 = some (r1, r2, r3, r4, r5, r6)) :
    Calls Try.prog 4 #[.slice A0 l0.length c0] w (MadeNet w ⟨r1, r2, r3, r4, r5⟩ r6) := by
 unfold spec_NewNet.f at h
 obtain ⟨hn, h⟩ := ifS h
 obtain ⟨r, A1, h⟩ := bS h
 have hc := spec_NewNet.calls0 k A0 c0 l0 r w hr0 hc0 hn A1.out
 have h := Option.some.inj h
 cases r with
 | false =>
  obtain ⟨rfl, rfl, rfl, rfl, rfl, rfl⟩ : [] = r1 ∧ [] = r2 ∧ [] = r3 ∧ [] = r4 ∧ 0 = r5 ∧ false = r6 := by simpa using h
  exact hc.mono fun e w' he => nw_made he
 | true =>
  obtain ⟨rfl, rfl, rfl, rfl, rfl, rfl⟩ : l0 = r1 ∧ List.replicate l0.length [] = r2 ∧ List.replicate l0.length [] = r3 ∧ List.replicate 4 [] = r4 ∧ 0 = r5 ∧ true = r6 := by simpa using h
  exact hc.mono fun e w' he => nw_made he
theorem nw_impl {k : Nat} {A0 : Option Addr} {c0 : Nat} {l0 : List Int} {r1 : List Int} {r2 r3 r4 : List (List ByteArray)} {r5 : Int} {r6 : Bool} {w : World} (hr0 : KI.C w A0 l0.length l0) (hc0 : l0.length ≤ c0) (h : impl_NewNet.f k l0 = some (r1, r2, r3, r4, r5, r6)) :
    Calls Try.prog 6 #[.slice A0 l0.length c0] w (MadeNet w ⟨r1, r2, r3, r4, r5⟩ r6) := by
  obtain ⟨h1, rfl⟩ := impl_NewNet.calls0 k A0 c0 l0 r1 r2 r3 r4 r5 r6 w hr0 hc0 h
  exact h1.mono fun e w' he => nw_made he
theorem nw_markI {k : Nat} {v : Value} {n : List Int} {a r : Int} {m : List Int} {L : List SA} {w0 w : World} (hs : Sep w0 w (rA KI 3 v n :: L)) (h : laws_markIntS.f k n a = some (r, m)) :
    Calls Try.prog 9 #[v, .int .i64 a] w fun e w' => e = .returned (.int .i64 r) ∧ Sep w0 w' (rA KI 3 v m :: L) := by
  obtain ⟨hB, c, h0, hL⟩ := hs
  refine (laws_markIntS.calls k _ v n a r m w0 w hB h0 h).mono ?_
  rintro e w' ⟨rfl, g0, hb, hk⟩
  exact ⟨rfl, Sep.wr hL hk hb g0⟩
/-! ### laws_FnExactNewNet: function 3 -/
def laws_FnExactNewNet.f (k : Nat) (l0 : List Int) : Option Bool :=
 if (l0.length : Int) > 1048576 then some true else
 (laws_toIntS.f k l0).bind fun t => (spec_NewNet.f k t).bind fun (w1, w2, w3, w4, w5, w6) => (laws_toIntS.f k l0).bind fun x => (impl_NewNet.f k x).bind fun (g1, g2, g3, g4, g5, g6) =>
 (laws_eqNet.f k g1 g2 g3 g4 g5 w1 w2 w3 w4 w5).bind fun e1 => if e1 = true ∧ g6 = w6 then
 (laws_eqIntS.f k x t).bind fun e2 => if e2 = true then
 (laws_markIntS.f k x 1).bind fun (m, x') => if 0 ≤ m then
 (laws_markNet.f k g1 g2 g3 g4 g5 1).bind fun (q, m1, m2, m3, m4) =>
 (laws_heldNet.f k m1 m2 m3 m4 g5 1).bind fun q' => if 0 ≤ q' ∧ q' = q then some true else none
 else none else none else none
set_option maxHeartbeats 16000000 in
set_option maxRecDepth 100000 in
theorem laws_FnExactNewNet.calls (k : Nat) (A0 : Option Addr) (c0 : Nat) (l0 : List Int) (r : Bool) (w : World) (hr0 : KI.C w A0 l0.length l0) (hc0 : l0.length ≤ c0) (h : laws_FnExactNewNet.f k l0 = some r) :
  Calls Try.prog 3 #[.slice A0 l0.length c0] w fun e w' => e = .returned (.bool r) ∧ Below w.heap.size w w' := by
 have hu25 := Try.underlying25
 have HR0 := ak hr0; have HC0 := ak hc0; clear hr0 hc0
 have HS := Sep.nil w
 unfold laws_FnExactNewNet.f at h
 by_cases c1 : (l0.length : Int) > 1048576
 ·have c1b0 : decide ((l0.length : Int) > 1048576) = true := decide_eq_true c1
  rw [if_pos c1] at h
  obtain rfl := Option.some.inj h
  clear h c1
  go_enter Try.func3, Try.ntmps3
  go_wp2
  go_ret
  exact ⟨er, HS.base⟩
 ·rw [if_neg c1] at h
  have c1b0 : decide ((l0.length : Int) > 1048576) = false := decide_eq_false c1
  clear c1
  replace h := bS h; obtain ⟨t, T1, h⟩ := h
  replace h := bS h; obtain ⟨⟨w1, w2, w3, w4, w5, w6⟩, T2, h⟩ := h
  replace h := bS h; obtain ⟨x, T3, h⟩ := h
  replace h := bS h; obtain ⟨⟨g1, g2, g3, g4, g5, g6⟩, T4, h⟩ := h
  replace h := bS h; obtain ⟨e1, T5, h⟩ := h
  replace h := ifS h; obtain ⟨⟨rfl, rfl⟩, h⟩ := h
  replace h := bS h; obtain ⟨e2, T6, h⟩ := h
  replace h := ifS h; obtain ⟨rfl, h⟩ := h
  replace h := bS h; obtain ⟨⟨m, x'⟩, T7, h⟩ := h
  replace h := ifS h; obtain ⟨hm, h⟩ := h
  replace h := bS h; obtain ⟨⟨q, m1, m2, m3, m4⟩, T8, h⟩ := h
  replace h := bS h; obtain ⟨q', T9, h⟩ := h
  replace h := ifS h; obtain ⟨⟨hq, rfl⟩, h⟩ := h
  obtain rfl := Option.some.inj h
  clear h
  have hm0 : decide (m < 0) = false := decide_eq_false (by omega)
  have hq0 : decide (q' < 0) = false := decide_eq_false (by omega)
  have hq1 : (q' != q') = false := bne_self_eq_false q'
  have hg6 : (g6 != g6) = false := bne_self_eq_false g6
  clear hm hq
  go_enter Try.func3, Try.ntmps3
  go_upto_region 4 with (first | ((with_reducible refine gate_callee (f := 5) rfl ?_); refine goesLa (some 18) rfl Try.func5 #[.slice A0 l0.length c0] rfl ?_; have HC_ := laws_toIntS.calls k _ _ l0 t _ (Kd.C_below HR0.out HS.base) HC0.out T1.out; refine HC_.mono ?_; clear HC_; rintro e W_ ⟨tv, rfl, ho_, hb_⟩; refine ⟨_, rfl, ?_⟩; replace HS := HS.new (A := rA KI 3 tv t) hb_ ho_; obtain ⟨Atv, ctv, rfl⟩ := HS.slR 0; clear ho_ hb_) | ((with_reducible refine gate_callee (f := 4) rfl ?_); refine goesLa (some 19) rfl Try.func4 #[.slice Atv t.length ctv] rfl ?_; have HC_ := nw_spec (HS.rdR 0).2.2 (HS.rdR 0).2.1 T2.out; refine HC_.mono ?_; clear HC_; rintro e W_ ⟨wv0, wv1, wv2, wv3, rfl, hc_, hb_⟩; refine ⟨_, rfl, ?_⟩; obtain ⟨c_, hc_⟩ := hc_; obtain ⟨⟨Awv0, cwv0, rfl⟩, ⟨Awv1, cwv1, rfl⟩, ⟨Awv2, cwv2, rfl⟩, ⟨Awv3, cwv3, rfl⟩⟩ := (NC.of hc_).slices; replace HS := HS.news hb_ ⟨c_, hc_⟩; clear hc_ hb_) | ((with_reducible refine gate_dst (N := 3) rfl ?_); refine boxev 3 #[.slice none 0 0, .slice none 0 0, .slice none 0 0, .slice none 0 0, .int .i64 0] 25 ?_; intro b3 hg_ W_ ho_ hb_; replace HS := HS.box hg_ ho_ hb_; clear hg_ ho_ hb_; obtain ⟨hzb3_0, hzb3_1, hzb3_2, hzb3_3, hzb3_4, hfb3_0, hfb3_1, hfb3_2, hfb3_3, hfb3_4⟩ := box5 (HS.blk 0)))
  clear hzb3_0 hzb3_1 hzb3_2 hzb3_3 hzb3_4 hfb3_0 hfb3_1 hfb3_2 hfb3_3 hfb3_4
  obtain ⟨W5_, e5_, H5_⟩ := (HS.put5 (.slice Awv0 w1.length cwv0) (.slice Awv1 w2.length cwv1) (.slice Awv2 w3.length cwv2) (.slice Awv3 w4.length cwv3) (.int .i64 w5)).gen
  rw [e5_]
  clear HS e5_
  have HS := H5_
  clear H5_
  go_upto_region 6 with (first | ((with_reducible refine gate_callee (f := 5) rfl ?_); refine goesLa (some 23) rfl Try.func5 #[.slice A0 l0.length c0] rfl ?_; have HC_ := laws_toIntS.calls k _ _ l0 x _ (Kd.C_below HR0.out HS.base) HC0.out T3.out; refine HC_.mono ?_; clear HC_; rintro e W_ ⟨xv, rfl, ho_, hb_⟩; refine ⟨_, rfl, ?_⟩; replace HS := HS.new (A := rA KI 3 xv x) hb_ ho_; obtain ⟨Axv, cxv, rfl⟩ := HS.slR 0; clear ho_ hb_) | ((with_reducible refine gate_callee (f := 6) rfl ?_); refine goesLa (some 26) rfl Try.func6 #[.slice Axv x.length cxv] rfl ?_; have HC_ := nw_impl (HS.rdR 0).2.2 (HS.rdR 0).2.1 T4.out; refine HC_.mono ?_; clear HC_; rintro e W_ ⟨gv0, gv1, gv2, gv3, rfl, hc_, hb_⟩; refine ⟨_, rfl, ?_⟩; obtain ⟨c_, hc_⟩ := hc_; obtain ⟨⟨Agv0, cgv0, rfl⟩, ⟨Agv1, cgv1, rfl⟩, ⟨Agv2, cgv2, rfl⟩, ⟨Agv3, cgv3, rfl⟩⟩ := (NC.of hc_).slices; replace HS := HS.news hb_ ⟨c_, hc_⟩; clear hc_ hb_) | ((with_reducible refine gate_dst (N := 6) rfl ?_); refine boxev 6 #[.slice none 0 0, .slice none 0 0, .slice none 0 0, .slice none 0 0, .int .i64 0] 25 ?_; intro b6 hg_ W_ ho_ hb_; replace HS := HS.box hg_ ho_ hb_; clear hg_ ho_ hb_; obtain ⟨hzb6_0, hzb6_1, hzb6_2, hzb6_3, hzb6_4, hfb6_0, hfb6_1, hfb6_2, hfb6_3, hfb6_4⟩ := box5 (HS.blk 0)))
  clear hzb6_0 hzb6_1 hzb6_2 hzb6_3 hzb6_4 hfb6_0 hfb6_1 hfb6_2 hfb6_3 hfb6_4
  obtain ⟨W5_, e5_, H5_⟩ := (HS.put5 (.slice Agv0 g1.length cgv0) (.slice Agv1 g2.length cgv1) (.slice Agv2 g3.length cgv2) (.slice Agv3 g4.length cgv3) (.int .i64 g5)).gen
  rw [e5_]
  clear HS e5_
  have HS := H5_
  clear H5_
  obtain ⟨hzb6_0, hzb6_1, hzb6_2, hzb6_3, hzb6_4, hfb6_0, hfb6_1, hfb6_2, hfb6_3, hfb6_4⟩ := box5 (HS.blk 0)
  obtain ⟨hzb3_0, hzb3_1, hzb3_2, hzb3_3, hzb3_4, hfb3_0, hfb3_1, hfb3_2, hfb3_3, hfb3_4⟩ := box5 (HS.blk 6)
  go_upto_region 23 with (first | ((with_reducible refine gate_callee (f := 7) rfl ?_); refine goesLa (some 31) rfl Try.func7 #[.agg #[.slice Agv0 g1.length cgv0, .slice Agv1 g2.length cgv1, .slice Agv2 g3.length cgv2, .slice Agv3 g4.length cgv3, .int .i64 g5], .agg #[.slice Awv0 w1.length cwv0, .slice Awv1 w2.length cwv1, .slice Awv2 w3.length cwv2, .slice Awv3 w4.length cwv3, .int .i64 w5]] rfl ?_; have HC_ := nw_eq (n := ⟨g1, g2, g3, g4, g5⟩) (m := ⟨w1, w2, w3, w4, w5⟩) (sepNc HS 1) (sepNc HS 7) T5.out; refine HC_.mono ?_; clear HC_; rintro e W_ ⟨rfl, hb_⟩; refine ⟨_, rfl, ?_⟩; replace HS := HS.below hb_; clear hb_; clear hzb6_0 hzb6_1 hzb6_2 hzb6_3 hzb6_4 hfb6_0 hfb6_1 hfb6_2 hfb6_3 hfb6_4 hzb3_0 hzb3_1 hzb3_2 hzb3_3 hzb3_4 hfb3_0 hfb3_1 hfb3_2 hfb3_3 hfb3_4; obtain ⟨hzb6_0, hzb6_1, hzb6_2, hzb6_3, hzb6_4, hfb6_0, hfb6_1, hfb6_2, hfb6_3, hfb6_4⟩ := box5 (HS.blk 0); obtain ⟨hzb3_0, hzb3_1, hzb3_2, hzb3_3, hzb3_4, hfb3_0, hfb3_1, hfb3_2, hfb3_3, hfb3_4⟩ := box5 (HS.blk 6)) | ((with_reducible refine gate_callee (f := 5) rfl ?_); refine goesLa (some 40) rfl Try.func5 #[.slice A0 l0.length c0] rfl ?_; have HC_ := laws_toIntS.calls k _ _ l0 t _ (Kd.C_below HR0.out HS.base) HC0.out T1.out; refine HC_.mono ?_; clear HC_; rintro e W_ ⟨sv, rfl, ho_, hb_⟩; refine ⟨_, rfl, ?_⟩; replace HS := HS.new (A := rA KI 3 sv t) hb_ ho_; obtain ⟨Asv, csv, rfl⟩ := HS.slR 0; clear ho_ hb_; clear hzb6_0 hzb6_1 hzb6_2 hzb6_3 hzb6_4 hfb6_0 hfb6_1 hfb6_2 hfb6_3 hfb6_4 hzb3_0 hzb3_1 hzb3_2 hzb3_3 hzb3_4 hfb3_0 hfb3_1 hfb3_2 hfb3_3 hfb3_4; obtain ⟨hzb6_0, hzb6_1, hzb6_2, hzb6_3, hzb6_4, hfb6_0, hfb6_1, hfb6_2, hfb6_3, hfb6_4⟩ := box5 (HS.blk 1); obtain ⟨hzb3_0, hzb3_1, hzb3_2, hzb3_3, hzb3_4, hfb3_0, hfb3_1, hfb3_2, hfb3_3, hfb3_4⟩ := box5 (HS.blk 7)) | ((with_reducible refine gate_callee (f := 8) rfl ?_); refine goesLa (some 41) rfl Try.func8 #[.slice Axv x.length cxv, .slice Asv t.length csv] rfl ?_; have HC_ := laws_eqIntS.calls k _ _ x _ _ t true _ (HS.rdR 6).2.2 (HS.rdR 6).2.1 (HS.rdR 0).2.2 (HS.rdR 0).2.1 T6.out; refine HC_.mono ?_; clear HC_; rintro e W_ ⟨rfl, hd_⟩; refine ⟨_, rfl, ?_⟩; replace HS := HS.below hd_.below; skip; clear hd_; clear hzb6_0 hzb6_1 hzb6_2 hzb6_3 hzb6_4 hfb6_0 hfb6_1 hfb6_2 hfb6_3 hfb6_4 hzb3_0 hzb3_1 hzb3_2 hzb3_3 hzb3_4 hfb3_0 hfb3_1 hfb3_2 hfb3_3 hfb3_4; obtain ⟨hzb6_0, hzb6_1, hzb6_2, hzb6_3, hzb6_4, hfb6_0, hfb6_1, hfb6_2, hfb6_3, hfb6_4⟩ := box5 (HS.blk 1); obtain ⟨hzb3_0, hzb3_1, hzb3_2, hzb3_3, hzb3_4, hfb3_0, hfb3_1, hfb3_2, hfb3_3, hfb3_4⟩ := box5 (HS.blk 7)) | ((with_reducible refine gate_callee (f := 9) rfl ?_); refine goesLa (some 45) rfl Try.func9 #[.slice Axv x.length cxv, .int .i64 1] rfl ?_; have HC_ := nw_markI (HS.sel [6, 0, 1, 2, 3, 4, 5, 7, 8, 9, 10, 11, 12]) T7.out; refine HC_.mono ?_; clear HC_; rintro e W_ ⟨rfl, HS'_⟩; refine ⟨_, rfl, ?_⟩; clear HS; have HS := HS'_; clear HS'_; clear hzb6_0 hzb6_1 hzb6_2 hzb6_3 hzb6_4 hfb6_0 hfb6_1 hfb6_2 hfb6_3 hfb6_4 hzb3_0 hzb3_1 hzb3_2 hzb3_3 hzb3_4 hfb3_0 hfb3_1 hfb3_2 hfb3_3 hfb3_4; obtain ⟨hzb6_0, hzb6_1, hzb6_2, hzb6_3, hzb6_4, hfb6_0, hfb6_1, hfb6_2, hfb6_3, hfb6_4⟩ := box5 (HS.blk 2); obtain ⟨hzb3_0, hzb3_1, hzb3_2, hzb3_3, hzb3_4, hfb3_0, hfb3_1, hfb3_2, hfb3_3, hfb3_4⟩ := box5 (HS.blk 7)) | (go_at_call 7; have HC_ := nw_eq (n := ⟨g1, g2, g3, g4, g5⟩) (m := ⟨w1, w2, w3, w4, w5⟩) (sepNc HS 3) (sepNc HS 8) T5.out; refine HC_.mono ?_; clear HC_; rintro e W_ ⟨rfl, hb_⟩; replace HS := HS.below hb_; clear hb_; clear hzb6_0 hzb6_1 hzb6_2 hzb6_3 hzb6_4 hfb6_0 hfb6_1 hfb6_2 hfb6_3 hfb6_4 hzb3_0 hzb3_1 hzb3_2 hzb3_3 hzb3_4 hfb3_0 hfb3_1 hfb3_2 hfb3_3 hfb3_4; obtain ⟨hzb6_0, hzb6_1, hzb6_2, hzb6_3, hzb6_4, hfb6_0, hfb6_1, hfb6_2, hfb6_3, hfb6_4⟩ := box5 (HS.blk 2); obtain ⟨hzb3_0, hzb3_1, hzb3_2, hzb3_3, hzb3_4, hfb3_0, hfb3_1, hfb3_2, hfb3_3, hfb3_4⟩ := box5 (HS.blk 7)) | ((with_reducible refine gate_callee (f := 10) rfl ?_); refine goesLa (some 61) rfl Try.func10 #[.agg #[.slice Agv0 g1.length cgv0, .slice Agv1 g2.length cgv1, .slice Agv2 g3.length cgv2, .slice Agv3 g4.length cgv3, .int .i64 g5], .int .i64 1] rfl ?_; have HC_ := nw_mark (n := ⟨g1, g2, g3, g4, g5⟩) (HS.sel [3, 4, 5, 6, 0, 1, 2, 7, 8, 9, 10, 11, 12]) T8.out; refine HC_.mono ?_; clear HC_; rintro e W_ ⟨rfl, HS'_⟩; refine ⟨_, rfl, ?_⟩; clear HS; have HS := HS'_; clear HS'_; clear hzb6_0 hzb6_1 hzb6_2 hzb6_3 hzb6_4 hfb6_0 hfb6_1 hfb6_2 hfb6_3 hfb6_4 hzb3_0 hzb3_1 hzb3_2 hzb3_3 hzb3_4 hfb3_0 hfb3_1 hfb3_2 hfb3_3 hfb3_4; obtain ⟨hzb6_0, hzb6_1, hzb6_2, hzb6_3, hzb6_4, hfb6_0, hfb6_1, hfb6_2, hfb6_3, hfb6_4⟩ := box5 (HS.blk 6); obtain ⟨hzb3_0, hzb3_1, hzb3_2, hzb3_3, hzb3_4, hfb3_0, hfb3_1, hfb3_2, hfb3_3, hfb3_4⟩ := box5 (HS.blk 7)) | ((with_reducible refine gate_callee (f := 11) rfl ?_); refine goesLa (some 64) rfl Try.func11 #[.agg #[.slice Agv0 g1.length cgv0, .slice Agv1 g2.length cgv1, .slice Agv2 g3.length cgv2, .slice Agv3 g4.length cgv3, .int .i64 g5], .int .i64 1] rfl ?_; have HC_ := nw_held (n := ⟨m1, m2, m3, m4, g5⟩) (sepNc HS 0) T9.out; refine HC_.mono ?_; clear HC_; rintro e W_ ⟨rfl, hb_⟩; refine ⟨_, rfl, ?_⟩; replace HS := HS.below hb_; clear hb_; clear hzb6_0 hzb6_1 hzb6_2 hzb6_3 hzb6_4 hfb6_0 hfb6_1 hfb6_2 hfb6_3 hfb6_4 hzb3_0 hzb3_1 hzb3_2 hzb3_3 hzb3_4 hfb3_0 hfb3_1 hfb3_2 hfb3_3 hfb3_4; obtain ⟨hzb6_0, hzb6_1, hzb6_2, hzb6_3, hzb6_4, hfb6_0, hfb6_1, hfb6_2, hfb6_3, hfb6_4⟩ := box5 (HS.blk 6); obtain ⟨hzb3_0, hzb3_1, hzb3_2, hzb3_3, hzb3_4, hfb3_0, hfb3_1, hfb3_2, hfb3_3, hfb3_4⟩ := box5 (HS.blk 7)) | ((with_reducible refine gate_callee (f := 5) rfl ?_); refine goesLa (some 72) rfl Try.func5 #[.slice A0 l0.length c0] rfl ?_; have HC_ := laws_toIntS.calls k _ _ l0 x _ (Kd.C_below HR0.out HS.base) HC0.out T3.out; refine HC_.mono ?_; clear HC_; rintro e W_ ⟨xz, rfl, ho_, hb_⟩; refine ⟨_, rfl, ?_⟩; replace HS := HS.new (A := rA KI 3 xz x) hb_ ho_; obtain ⟨Axz, cxz, rfl⟩ := HS.slR 0; clear ho_ hb_) | ((with_reducible refine gate_callee (f := 6) rfl ?_); refine goesLa (some 73) rfl Try.func6 #[.slice Axz x.length cxz] rfl ?_; have HC_ := nw_impl (HS.rdR 0).2.2 (HS.rdR 0).2.1 T4.out; refine HC_.mono ?_; clear HC_; rintro e W_ ⟨hv0, hv1, hv2, hv3, rfl, hc_, hb_⟩; refine ⟨_, rfl, ?_⟩; obtain ⟨c_, hc_⟩ := hc_; obtain ⟨⟨Ahv0, chv0, rfl⟩, ⟨Ahv1, chv1, rfl⟩, ⟨Ahv2, chv2, rfl⟩, ⟨Ahv3, chv3, rfl⟩⟩ := (NC.of hc_).slices; replace HS := HS.news hb_ ⟨c_, hc_⟩; clear hc_ hb_) | ((with_reducible refine gate_dst (N := 11) rfl ?_); refine boxev 11 #[.slice none 0 0, .slice none 0 0, .slice none 0 0, .slice none 0 0, .int .i64 0] 25 ?_; intro b11 hg_ W_ ho_ hb_; replace HS := HS.box hg_ ho_ hb_; clear hg_ ho_ hb_; clear hzb6_0 hzb6_1 hzb6_2 hzb6_3 hzb6_4 hfb6_0 hfb6_1 hfb6_2 hfb6_3 hfb6_4 hzb3_0 hzb3_1 hzb3_2 hzb3_3 hzb3_4 hfb3_0 hfb3_1 hfb3_2 hfb3_3 hfb3_4; obtain ⟨hzb11_0, hzb11_1, hzb11_2, hzb11_3, hzb11_4, hfb11_0, hfb11_1, hfb11_2, hfb11_3, hfb11_4⟩ := box5 (HS.blk 0)))
  clear hzb11_0 hzb11_1 hzb11_2 hzb11_3 hzb11_4 hfb11_0 hfb11_1 hfb11_2 hfb11_3 hfb11_4
  obtain ⟨W5_, e5_, H5_⟩ := (HS.put5 (.slice Ahv0 g1.length chv0) (.slice Ahv1 g2.length chv1) (.slice Ahv2 g3.length chv2) (.slice Ahv3 g4.length chv3) (.int .i64 g5)).gen
  rw [e5_]
  clear HS e5_
  have HS := H5_
  clear H5_
  obtain ⟨hzb11_0, hzb11_1, hzb11_2, hzb11_3, hzb11_4, hfb11_0, hfb11_1, hfb11_2, hfb11_3, hfb11_4⟩ := box5 (HS.blk 0)
  obtain ⟨hzb6_0, hzb6_1, hzb6_2, hzb6_3, hzb6_4, hfb6_0, hfb6_1, hfb6_2, hfb6_3, hfb6_4⟩ := box5 (HS.blk 12)
  obtain ⟨hzb3_0, hzb3_1, hzb3_2, hzb3_3, hzb3_4, hfb3_0, hfb3_1, hfb3_2, hfb3_3, hfb3_4⟩ := box5 (HS.blk 13)
  go_wp2_with (first | ((with_reducible refine gate_callee (f := 7) rfl ?_); refine goesLa (some 78) rfl Try.func7 #[.agg #[.slice Ahv0 g1.length chv0, .slice Ahv1 g2.length chv1, .slice Ahv2 g3.length chv2, .slice Ahv3 g4.length chv3, .int .i64 g5], .agg #[.slice Awv0 w1.length cwv0, .slice Awv1 w2.length cwv1, .slice Awv2 w3.length cwv2, .slice Awv3 w4.length cwv3, .int .i64 w5]] rfl ?_; have HC_ := nw_eq (n := ⟨g1, g2, g3, g4, g5⟩) (m := ⟨w1, w2, w3, w4, w5⟩) (sepNc HS 1) (sepNc HS 14) T5.out; refine HC_.mono ?_; clear HC_; rintro e W_ ⟨rfl, hb_⟩; refine ⟨_, rfl, ?_⟩; replace HS := HS.below hb_; clear hb_; clear hzb11_0 hzb11_1 hzb11_2 hzb11_3 hzb11_4 hfb11_0 hfb11_1 hfb11_2 hfb11_3 hfb11_4 hzb6_0 hzb6_1 hzb6_2 hzb6_3 hzb6_4 hfb6_0 hfb6_1 hfb6_2 hfb6_3 hfb6_4 hzb3_0 hzb3_1 hzb3_2 hzb3_3 hzb3_4 hfb3_0 hfb3_1 hfb3_2 hfb3_3 hfb3_4; obtain ⟨hzb11_0, hzb11_1, hzb11_2, hzb11_3, hzb11_4, hfb11_0, hfb11_1, hfb11_2, hfb11_3, hfb11_4⟩ := box5 (HS.blk 0); obtain ⟨hzb6_0, hzb6_1, hzb6_2, hzb6_3, hzb6_4, hfb6_0, hfb6_1, hfb6_2, hfb6_3, hfb6_4⟩ := box5 (HS.blk 12); obtain ⟨hzb3_0, hzb3_1, hzb3_2, hzb3_3, hzb3_4, hfb3_0, hfb3_1, hfb3_2, hfb3_3, hfb3_4⟩ := box5 (HS.blk 13)) | ((with_reducible refine gate_callee (f := 11) rfl ?_); refine goesLa (some 87) rfl Try.func11 #[.agg #[.slice Agv0 g1.length cgv0, .slice Agv1 g2.length cgv1, .slice Agv2 g3.length cgv2, .slice Agv3 g4.length cgv3, .int .i64 g5], .int .i64 1] rfl ?_; have HC_ := nw_held (n := ⟨m1, m2, m3, m4, g5⟩) (sepNc HS 6) T9.out; refine HC_.mono ?_; clear HC_; rintro e W_ ⟨rfl, hb_⟩; refine ⟨_, rfl, ?_⟩; replace HS := HS.below hb_; clear hb_; clear hzb11_0 hzb11_1 hzb11_2 hzb11_3 hzb11_4 hfb11_0 hfb11_1 hfb11_2 hfb11_3 hfb11_4 hzb6_0 hzb6_1 hzb6_2 hzb6_3 hzb6_4 hfb6_0 hfb6_1 hfb6_2 hfb6_3 hfb6_4 hzb3_0 hzb3_1 hzb3_2 hzb3_3 hzb3_4 hfb3_0 hfb3_1 hfb3_2 hfb3_3 hfb3_4; obtain ⟨hzb11_0, hzb11_1, hzb11_2, hzb11_3, hzb11_4, hfb11_0, hfb11_1, hfb11_2, hfb11_3, hfb11_4⟩ := box5 (HS.blk 0); obtain ⟨hzb6_0, hzb6_1, hzb6_2, hzb6_3, hzb6_4, hfb6_0, hfb6_1, hfb6_2, hfb6_3, hfb6_4⟩ := box5 (HS.blk 12); obtain ⟨hzb3_0, hzb3_1, hzb3_2, hzb3_3, hzb3_4, hfb3_0, hfb3_1, hfb3_2, hfb3_3, hfb3_4⟩ := box5 (HS.blk 13)))
  go_ret
  exact ⟨er, HS.base⟩
/-- THE ONE PURE STATEMENT of laws_FnExactNewNet. -/
def laws_FnExactNewNet.Pure : Prop := ∀ (l0 : List Int), l0.length ≤ maxLen → l0.length * 8 ≤ 140737488351232 → (∀ x ∈ l0, (Lit.int .i64 x).wf = true) → ∃ k, laws_FnExactNewNet.f k l0 = some true
theorem laws_FnExactNewNet.walk (P : laws_FnExactNewNet.Pure) (a0 : Option Addr) (len0 cap0 : Nat) (z0 : List Int) (w : World) (w0 : (a0 = none ∧ len0 = 0 ∧ cap0 = 0 ∧ z0 = []) ∨ ∃ x, a0 = some x ∧ len0 ≤ cap0 ∧ cap0 ≤ maxLen ∧ z0.length = cap0 ∧ (∀ i, i < z0.length → w.cell? (x.add i) = some (.int .i64 (z0.getD i 0))) ∧ ∀ n ∈ z0, (Lit.int .i64 n).wf = true) (y0 : len0 * 8 ≤ 140737488351232) :
    Calls Try.prog 3 #[.slice a0 len0 cap0] w fun e w' => e = .returned (.bool true) ∧ Below w.heap.size w w' := by
  obtain ⟨l0, rfl, hr0, hm0, hw0, hc0⟩ := ReadsInt.ofRowC w0
  obtain ⟨k, h⟩ := P l0 hm0 y0 hw0
  refine (laws_FnExactNewNet.calls k _ _ l0 true w (Kd.C_of_reads (d := (0 : Int)) (h1 := fun _ => rfl) hr0) hc0 h).mono ?_
  rintro e w' ⟨rfl, hd⟩
  exact ⟨rfl, hd⟩

end Go.Proofs.Ytbgoddobpdcjbaa.QFnExactNewNet
