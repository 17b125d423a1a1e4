-- printed by this session's own program (wip/tools/pp.py: the kit's print.py with changes); Lean checks it
import Derived.Test.YtonejnaanklfjaaQFnTakenOncex0
import Derived.Test.YtonejnaanklfjaaQFnTakenOncex3
namespace Go.Proofs.Ytonejnaanklfjaa.QFnTakenOnce
open Go.RowKit Go.Proofs.YtonejnaanklfjaaW.PrintWords Go.Proofs.YtonejnaanklfjaaW.PrintLast Go.Proofs.YtonejnaanklfjaaW.PrintMore
attribute [local go_sem] max2_int min2_int max_two min_two max_three min_three max_four min_four strLss strGtr strLeq strGeq   -- for this text's walks alone
set_option linter.unusedVariables false
set_option linter.unusedSimpArgs false

/-! ### spec_GoodWindow: function 90 -/
mutual
def spec_GoodWindow.j0 : Nat → Bool → Int → Int → Option (Bool)
  | 0, _, _, _ => none
  | k + 1, x23, x280000, x280001 => if x23 = true then (some false) else (spec_GoodWindow.l0 k 0 x280000 x280001)
def spec_GoodWindow.l0 : Nat → Int → Int → Int → Option (Bool)
  | 0, _, _, _ => none
  | k + 1, x3, x280000, x280001 => if x3 < 16 then (if 0 ≤ (IntKind.u64.wrap (x3)) then (if (Go.bits .and .i64 (shr .i64 x280001 (IntKind.u64.wrap (x3))) 1) = 1 then (if (wrap64 (x280000 - x3)) < 1 then (some false) else (spec_GoodWindow.l0 k (wrap64 (x3 + 1)) x280000 x280001)) else (spec_GoodWindow.l0 k (wrap64 (x3 + 1)) x280000 x280001)) else (none)) else (some true)
end
def spec_GoodWindow.f (k : Nat) (a0_0 : Int) (a0_1 : Int) : Option (Bool) := (spec_l1In.f a0_0 0 100000).bind fun t280 => (if t280 = true then ((spec_l1In.f a0_1 0 65535).bind fun t281 => (if t281 = true then (spec_GoodWindow.j0 k (((Go.bits .and .i64 a0_1 1) == 1) != (decide (a0_0 > 0))) a0_0 a0_1) else (spec_GoodWindow.j0 k true a0_0 a0_1))) else (spec_GoodWindow.j0 k true a0_0 a0_1))
theorem spec_GoodWindow.mono_l : ∀ k, (∀ y0 y1 y2, LeO (spec_GoodWindow.j0 k y0 y1 y2) (spec_GoodWindow.j0 (k + 1) y0 y1 y2)) ∧ (∀ y0 y1 y2, LeO (spec_GoodWindow.l0 k y0 y1 y2) (spec_GoodWindow.l0 (k + 1) y0 y1 y2))
 | 0 => ⟨fun _ _ _ r h => by simp [spec_GoodWindow.j0] at h, fun _ _ _ r h => by simp [spec_GoodWindow.l0] at h⟩
 | k + 1 => by
  obtain ⟨ih0, ih1⟩ := spec_GoodWindow.mono_l k
  refine ⟨?_, ?_⟩
  ·intro y0 y1 y2
   unfold spec_GoodWindow.j0
   repeat' (first | (with_reducible first | exact ih0 _ _ _ | exact ih1 _ _ _ | exact LeO.refl _ | exact LeO.none _ | refine LeO.ite ?_ ?_ | refine LeO.bind ?_ (fun _ => ?_)) | exact ih0 _ _ _ | exact ih1 _ _ _ | exact LeO.none _ | refine LeO.ite ?_ ?_ | refine LeO.bind ?_ (fun _ => ?_))
  ·intro y0 y1 y2
   unfold spec_GoodWindow.l0
   repeat' (first | (with_reducible first | exact ih0 _ _ _ | exact ih1 _ _ _ | exact LeO.refl _ | exact LeO.none _ | refine LeO.ite ?_ ?_ | refine LeO.bind ?_ (fun _ => ?_)) | exact ih0 _ _ _ | exact ih1 _ _ _ | exact LeO.none _ | refine LeO.ite ?_ ?_ | refine LeO.bind ?_ (fun _ => ?_))
theorem spec_GoodWindow.mono : ∀ a0 a1 k, LeO (spec_GoodWindow.f k a0 a1) (spec_GoodWindow.f (k + 1) a0 a1) := by
 intro a0 a1 k
 obtain ⟨ih0, ih1⟩ := spec_GoodWindow.mono_l k
 unfold spec_GoodWindow.f
 repeat' (first | (with_reducible first | exact ih0 _ _ _ | exact ih1 _ _ _ | exact LeO.refl _ | exact LeO.none _ | refine LeO.ite ?_ ?_ | refine LeO.bind ?_ (fun _ => ?_)) | exact ih0 _ _ _ | exact ih1 _ _ _ | exact LeO.none _ | refine LeO.ite ?_ ?_ | refine LeO.bind ?_ (fun _ => ?_))
set_option maxHeartbeats 8000000 in
set_option maxRecDepth 100000 in
theorem spec_GoodWindow.calls (k : Nat) (a0_0 : Int) (a0_1 : Int) (r : Bool) (w : World) (h : spec_GoodWindow.f k a0_0 a0_1 = some r) :
  Calls Try.prog 90 #[.agg #[.int .i64 a0_0, .int .i64 a0_1]] w fun e w' => e = .returned (.bool r) ∧ Below w.heap.size w w' := by
 have hu80 := Try.underlying80
 have HB := Aside0.mk (Below.refl w.heap.size w)
 have H : ((spec_l1In.f a0_0 0 100000).bind fun t280 => (if t280 = true then ((spec_l1In.f a0_1 0 65535).bind fun t281 => (if t281 = true then (spec_GoodWindow.j0 k (((Go.bits .and .i64 a0_1 1) == 1) != (decide (a0_0 > 0))) a0_0 a0_1) else (spec_GoodWindow.j0 k true a0_0 a0_1))) else (spec_GoodWindow.j0 k true a0_0 a0_1))) = some r := h
 clear h; have HC2 := Aside0.mk H; clear H
 go_enter Try.func90, Try.ntmps90
 go_upto_region 1 with (first | ((with_reducible refine gate_dst (N := 1) rfl ?_); refine boxev 1 #[.int .i64 a0_0, .int .i64 a0_1] 80 ?_; intro gb279 hg w3 hbox hb; have BK279 := ak (hbox); have GW279 := ak (hgl hg (belowd HB)); have GE279 := ak (hgl hg (belowd HB)); replace HB := ak (below_step (belowd HB) hb); clear hb hbox hg))
 (try simp only [Act.put, List.setIfInBounds_toArray, List.set_cons_zero, List.set_cons_succ])
 go_cut [23] (fun v23 wc => ∃ (kq : Nat) (x23_1 : Bool), v23 = .bool x23_1 ∧ Aside0 (spec_GoodWindow.j0 kq x23_1 a0_0 a0_1 = some r) ∧ Aside0 (kq ≤ k) ∧ Aside0 (wc.heap[gb279]? = some (.cells #[.int .i64 a0_0, .int .i64 a0_1] 80 (0, 0))) ∧ Aside0 (Below w.heap.size w wc))
 case first =>
  have H := HC2.out; clear HC2; replace H := bS H; obtain ⟨t280, A4, H⟩ := H
  replace H : (if t280 = true then ((spec_l1In.f a0_1 0 65535).bind fun t281 => (if t281 = true then (spec_GoodWindow.j0 k (((Go.bits .and .i64 a0_1 1) == 1) != (decide (a0_0 > 0))) a0_0 a0_1) else (spec_GoodWindow.j0 k true a0_0 a0_1))) else (spec_GoodWindow.j0 k true a0_0 a0_1)) = some r := H
  by_cases c5 : t280 = true
  ·subst c5
   have H1 : ((spec_l1In.f a0_1 0 65535).bind fun t281 => (if t281 = true then (spec_GoodWindow.j0 k (((Go.bits .and .i64 a0_1 1) == 1) != (decide (a0_0 > 0))) a0_0 a0_1) else (spec_GoodWindow.j0 k true a0_0 a0_1))) = some r := by rw [if_pos rfl] at H; exact H
   clear H
   have H := H1
   clear H1; replace H := bS H; obtain ⟨t281, A6, H⟩ := H
   replace H : (if t281 = true then (spec_GoodWindow.j0 k (((Go.bits .and .i64 a0_1 1) == 1) != (decide (a0_0 > 0))) a0_0 a0_1) else (spec_GoodWindow.j0 k true a0_0 a0_1)) = some r := H
   by_cases c7 : t281 = true
   ·subst c7
    have H1 : (spec_GoodWindow.j0 k (((Go.bits .and .i64 a0_1 1) == 1) != (decide (a0_0 > 0))) a0_0 a0_1) = some r := by rw [if_pos rfl] at H; exact H
    clear H
    have H := H1
    clear H1
    have H' := Aside0.mk H
    clear H; obtain ⟨hcz8_0, hcz8_1, hfz8_0, hfz8_1⟩ := box2 BK279
    go_wp2_with (first | ((with_reducible refine gate_callee (f := 92) rfl ?_); refine goesLa (some 6) rfl Try.func92 #[.int .i64 a0_0, .int .i64 0, .int .i64 100000] rfl ?_; (with_reducible refine (spec_l1In.calls a0_0 0 100000 true _ A4.out).mono ?_); rintro e w' ⟨rfl, ⟨nd, rfl⟩⟩; refine ⟨_, rfl, ?_⟩) | (go_at_call 92; (with_reducible refine (spec_l1In.calls a0_1 0 65535 true _ A6.out).mono ?_); rintro e w' ⟨rfl, ⟨nd, rfl⟩⟩))
    go_meet
    case rel => exact ⟨_, ((((Go.bits .and .i64 a0_1 1) == 1) != (decide (a0_0 > 0)))), er, H', ⟨by first | omega | exact Nat.le_refl _⟩, ⟨blkd BK279⟩, ⟨belowg1 HB GE279⟩⟩
   ·replace c7 := Bool.eq_false_iff.mpr c7
    subst c7
    have H1 : (spec_GoodWindow.j0 k true a0_0 a0_1) = some r := by rw [if_neg (show ¬ (false = true) by decide)] at H; exact H
    clear H
    have H := H1
    clear H1
    have H' := Aside0.mk H
    clear H; obtain ⟨hcz9_0, hcz9_1, hfz9_0, hfz9_1⟩ := box2 BK279
    go_wp2_with (first | ((with_reducible refine gate_callee (f := 92) rfl ?_); refine goesLa (some 6) rfl Try.func92 #[.int .i64 a0_0, .int .i64 0, .int .i64 100000] rfl ?_; (with_reducible refine (spec_l1In.calls a0_0 0 100000 true _ A4.out).mono ?_); rintro e w' ⟨rfl, ⟨nd, rfl⟩⟩; refine ⟨_, rfl, ?_⟩) | (go_at_call 92; (with_reducible refine (spec_l1In.calls a0_1 0 65535 false _ A6.out).mono ?_); rintro e w' ⟨rfl, ⟨nd, rfl⟩⟩))
    go_meet
    case rel => exact ⟨_, (true), er, H', ⟨by first | omega | exact Nat.le_refl _⟩, ⟨blkd BK279⟩, ⟨belowg1 HB GE279⟩⟩
  ·replace c5 := Bool.eq_false_iff.mpr c5
   subst c5
   have H1 : (spec_GoodWindow.j0 k true a0_0 a0_1) = some r := by rw [if_neg (show ¬ (false = true) by decide)] at H; exact H
   clear H
   have H := H1
   clear H1
   have H' := Aside0.mk H
   clear H; obtain ⟨hcz10_0, hcz10_1, hfz10_0, hfz10_1⟩ := box2 BK279
   go_wp2_with (first | ((with_reducible refine gate_callee (f := 92) rfl ?_); refine goesLa (some 6) rfl Try.func92 #[.int .i64 a0_0, .int .i64 0, .int .i64 100000] rfl ?_; (with_reducible refine (spec_l1In.calls a0_0 0 100000 false _ A4.out).mono ?_); rintro e w' ⟨rfl, ⟨nd, rfl⟩⟩; refine ⟨_, rfl, ?_⟩))
   go_meet
   case rel => exact ⟨_, (true), er, H', ⟨by first | omega | exact Nat.le_refl _⟩, ⟨blkd BK279⟩, ⟨belowg1 HB GE279⟩⟩
 case rest =>
  clear HC2
  obtain ⟨kq, x23_1, rfl, HA, HJ1, BK279, HB⟩ := hcut
  cases kq with
  | zero => exact absurd HA.out (by simp [spec_GoodWindow.j0])
  | succ kj1 =>
   have H := HA.out; clear HA
   simp only [spec_GoodWindow.j0] at H
   by_cases c11 : x23_1 = true
   ·subst c11
    have H1 : (some false) = some r := by rw [if_pos rfl] at H; exact H
    clear H
    have H := H1
    clear H1
    obtain rfl := Option.some.inj H
    go_wp2
    go_ret
    exact ⟨er2, belowg1 HB GE279⟩
   ·replace c11 := Bool.eq_false_iff.mpr c11
    subst c11
    have H1 : (spec_GoodWindow.l0 kj1 0 a0_0 a0_1) = some r := by rw [if_neg (show ¬ (false = true) by decide)] at H; exact H
    clear H
    have H := H1
    clear H1
    have H' := Aside0.mk H
    clear H; go_wp2
    go_loopg [3] kj1 (fun kq v3 w' => ∃ (x3_2 : Int), v3 = .int .i64 x3_2 ∧ Aside0 (spec_GoodWindow.l0 kq x3_2 a0_0 a0_1 = some r) ∧ Aside0 (kq ≤ kj1) ∧ Aside0 (w'.heap[gb279]? = some (.cells #[.int .i64 a0_0, .int .i64 a0_1] 80 (0, 0))) ∧ Aside0 (Below w.heap.size w w'))
    case atStart => exact ⟨(0), er, H', ⟨Nat.le_refl _⟩, ⟨blkd BK279⟩, ⟨belowg1 HB GE279⟩⟩
    case round =>
     clear H'
     (try clear c11)
     obtain ⟨x3_2, rfl, HA, HK2, BK279, HB⟩ := hrel
     cases gk with
     | zero => exact absurd HA.out (by simp [spec_GoodWindow.l0])
     | succ k2 =>
      have H := HA.out; clear HA
      simp only [spec_GoodWindow.l0] at H
      by_cases c12 : x3_2 < 16
      ·rw [if_pos c12] at H
       have c12b0 : decide (x3_2 < 16) = true := decide_eq_true c12
       clear c12
       obtain ⟨ji13, hji13⟩ : ∃ j_ : Int, (IntKind.u64.wrap (x3_2)) = j_ := ⟨_, rfl⟩
       replace H : (if 0 ≤ (ji13) then (if (Go.bits .and .i64 (shr .i64 a0_1 (ji13)) 1) = 1 then (if (wrap64 (a0_0 - x3_2)) < 1 then (some false) else (spec_GoodWindow.l0 k2 (wrap64 (x3_2 + 1)) a0_0 a0_1)) else (spec_GoodWindow.l0 k2 (wrap64 (x3_2 + 1)) a0_0 a0_1)) else (none)) = some r := by first | (rw [hji13] at H; exact H) | (simp only [hji13] at H ⊢; exact H)
       replace H := ifS H; obtain ⟨c14, H⟩ := H; have c14b0 := eq_true c14
       have c14b1 : decide (0 ≤ (ji13)) = true := decide_eq_true c14
       clear c14
       obtain ⟨ji15, hji15⟩ : ∃ j_ : Int, (shr .i64 a0_1 (ji13)) = j_ := ⟨_, rfl⟩
       replace H : (if (Go.bits .and .i64 (ji15) 1) = 1 then (if (wrap64 (a0_0 - x3_2)) < 1 then (some false) else (spec_GoodWindow.l0 k2 (wrap64 (x3_2 + 1)) a0_0 a0_1)) else (spec_GoodWindow.l0 k2 (wrap64 (x3_2 + 1)) a0_0 a0_1)) = some r := by first | (rw [hji15] at H; exact H) | (simp only [hji15] at H ⊢; exact H)
       have hji15_ : (a0_1 / 2 ^ min (ji13).toNat 64) = ji15 := hji15
       have hji15z : (ji13) ≤ 64 → (a0_1 / 2 ^ (ji13).toNat) = ji15 := shr_small hji15
       by_cases c16 : (Go.bits .and .i64 (ji15) 1) = 1
       ·rw [if_pos c16] at H
        have c16b0 : ((Go.bits .and .i64 (ji15) 1) == 1) = true := beq_iff_eq.mpr c16
        have c16b1 : ((Go.bits .and .i64 (ji15) 1) != 1) = false := bne_eq_false_iff_eq.mpr c16
        clear c16
        by_cases c17 : (wrap64 (a0_0 - x3_2)) < 1
        ·rw [if_pos c17] at H
         have c17b0 : decide ((wrap64 (a0_0 - x3_2)) < 1) = true := decide_eq_true c17
         clear c17
         obtain rfl := Option.some.inj H
         obtain ⟨hcz18_0, hcz18_1, hfz18_0, hfz18_1⟩ := box2 BK279; go_wp2
         go_ret
         exact ⟨by first | rfl | (simp [errW_none, errW_some] <;> rfl) | (simp only [← hji13, ← hji15]; first | rfl | (simp [errW_none, errW_some] <;> rfl)) | (simp [*, errW_none, errW_some] <;> rfl), belowg1 HB GE279⟩
        ·rw [if_neg c17] at H
         have c17b0 : decide ((wrap64 (a0_0 - x3_2)) < 1) = false := decide_eq_false c17
         clear c17
         have H' := Aside0.mk H
         clear H; obtain ⟨hcz19_0, hcz19_1, hfz19_0, hfz19_1⟩ := box2 BK279; go_wp2
         go_roundg k2
         case measure => have := HJ1.out; have := HK2.out; omega
         case rel => exact ⟨(wrap64 (x3_2 + 1)), er, H', ⟨by have := HJ1.out; have := HK2.out; omega⟩, ⟨blkd BK279⟩, ⟨belowg1 HB GE279⟩⟩
       ·rw [if_neg c16] at H
        have c16b0 : ((Go.bits .and .i64 (ji15) 1) == 1) = false := beq_eq_false_iff_ne.mpr c16
        have c16b1 : ((Go.bits .and .i64 (ji15) 1) != 1) = true := bne_iff_ne.mpr c16
        have H' := Aside0.mk H
        clear H; obtain ⟨hcz20_0, hcz20_1, hfz20_0, hfz20_1⟩ := box2 BK279; go_wp2
        go_roundg k2
        case measure => have := HJ1.out; have := HK2.out; omega
        case rel => exact ⟨(wrap64 (x3_2 + 1)), er, H', ⟨by have := HJ1.out; have := HK2.out; omega⟩, ⟨blkd BK279⟩, ⟨belowg1 HB GE279⟩⟩
      ·rw [if_neg c12] at H
       have c12b0 : decide (x3_2 < 16) = false := decide_eq_false c12
       clear c12
       obtain rfl := Option.some.inj H
       go_wp2
       go_ret
       exact ⟨er2, belowg1 HB GE279⟩

/-! ### spec_l16Number: function 150 -/
def spec_l16Number.f (a0 : Int) : Option (Bool) := (spec_l1In.f a0 1 100000).bind fun t282 => (some t282)
set_option maxHeartbeats 8000000 in
set_option maxRecDepth 100000 in
theorem spec_l16Number.calls (a0 : Int) (r : Bool) (w : World) (h : spec_l16Number.f a0 = some r) :
  Calls Try.prog 150 #[.int .i64 a0] w fun e w' => e = .returned (.bool r) ∧ Drawn0 w w' := by
 have H : ((spec_l1In.f a0 1 100000).bind fun t282 => (some t282)) = some r := h
 clear h; replace H := bS H; obtain ⟨t282, A2, H⟩ := H
 replace H : (some t282) = some r := H
 obtain rfl := Option.some.inj H
 go_enter Try.func150, Try.ntmps150
 go_wp2_with (first | ((with_reducible refine gate_callee (f := 92) rfl ?_); refine goesLa (some 4) rfl Try.func92 #[.int .i64 a0, .int .i64 1, .int .i64 100000] rfl ?_; (with_reducible refine (spec_l1In.calls a0 1 100000 t282 _ A2.out).mono ?_); rintro e w' ⟨rfl, ⟨nd, rfl⟩⟩; refine ⟨_, rfl, ?_⟩))
 go_ret
 exact ⟨er, drw⟩

/-! ### spec_TakeNumber: function 89 -/
def spec_TakeNumber.f (k : Nat) (a0_0 : Int) (a0_1 : Int) (a1 : Int) : Option (Int × Int × Int × Bool) := (spec_GoodWindow.f k a0_0 a0_1).bind fun t285 => (if t285 = true then ((spec_l16Number.f a1).bind fun t286 => (if t286 = true then ((spec_l16Take.f k a0_0 a0_1 a1).bind fun bt287 => (some (bt287.1, bt287.2.1, bt287.2.2, true))) else (some (0, 0, 0, false)))) else (some (0, 0, 0, false)))
theorem spec_TakeNumber.mono : ∀ a0 a1 a2 k, LeO (spec_TakeNumber.f k a0 a1 a2) (spec_TakeNumber.f (k + 1) a0 a1 a2) := by
 intro a0 a1 a2 k
 unfold spec_TakeNumber.f
 repeat' (first | (with_reducible first | exact spec_GoodWindow.mono _ _ _ | exact spec_l16Take.mono _ _ _ _ | exact LeO.refl _ | exact LeO.none _ | refine LeO.ite ?_ ?_ | refine LeO.bind ?_ (fun _ => ?_)) | exact spec_GoodWindow.mono _ _ _ | exact spec_l16Take.mono _ _ _ _ | exact LeO.none _ | refine LeO.ite ?_ ?_ | refine LeO.bind ?_ (fun _ => ?_))
set_option maxHeartbeats 8000000 in
set_option maxRecDepth 100000 in
theorem spec_TakeNumber.calls (k : Nat) (a0_0 : Int) (a0_1 : Int) (a1 : Int) (r1 : Int) (r2 : Int) (r3 : Int) (r4 : Bool) (w : World) (h : spec_TakeNumber.f k a0_0 a0_1 a1 = some (r1, r2, r3, r4)) :
  Calls Try.prog 89 #[.agg #[.int .i64 a0_0, .int .i64 a0_1], .int .i64 a1] w fun e w' => e = .returned (.tuple #[.agg #[.int .i64 r1, .int .i64 r2], .int .i64 r3, .bool r4]) ∧ Below w.heap.size w w' := by
 have hu80 := Try.underlying80
 have HB := Aside0.mk (Below.refl w.heap.size w)
 have H : ((spec_GoodWindow.f k a0_0 a0_1).bind fun t285 => (if t285 = true then ((spec_l16Number.f a1).bind fun t286 => (if t286 = true then ((spec_l16Take.f k a0_0 a0_1 a1).bind fun bt287 => (some (bt287.1, bt287.2.1, bt287.2.2, true))) else (some (0, 0, 0, false)))) else (some (0, 0, 0, false)))) = some (r1, r2, r3, r4) := h
 clear h; replace H := bS H; obtain ⟨t285, A3, H⟩ := H
 replace H : (if t285 = true then ((spec_l16Number.f a1).bind fun t286 => (if t286 = true then ((spec_l16Take.f k a0_0 a0_1 a1).bind fun bt287 => (some (bt287.1, bt287.2.1, bt287.2.2, true))) else (some (0, 0, 0, false)))) else (some (0, 0, 0, false))) = some (r1, r2, r3, r4) := H
 by_cases c4 : t285 = true
 ·subst c4
  have H1 : ((spec_l16Number.f a1).bind fun t286 => (if t286 = true then ((spec_l16Take.f k a0_0 a0_1 a1).bind fun bt287 => (some (bt287.1, bt287.2.1, bt287.2.2, true))) else (some (0, 0, 0, false)))) = some (r1, r2, r3, r4) := by rw [if_pos rfl] at H; exact H
  clear H
  have H := H1
  clear H1; replace H := bS H; obtain ⟨t286, A5, H⟩ := H
  replace H : (if t286 = true then ((spec_l16Take.f k a0_0 a0_1 a1).bind fun bt287 => (some (bt287.1, bt287.2.1, bt287.2.2, true))) else (some (0, 0, 0, false))) = some (r1, r2, r3, r4) := H
  by_cases c6 : t286 = true
  ·subst c6
   have H1 : ((spec_l16Take.f k a0_0 a0_1 a1).bind fun bt287 => (some (bt287.1, bt287.2.1, bt287.2.2, true))) = some (r1, r2, r3, r4) := by rw [if_pos rfl] at H; exact H
   clear H
   have H := H1
   clear H1; replace H := bS H; obtain ⟨⟨t287, t288, t289⟩, A7, H⟩ := H
   replace H : (some (t287, t288, t289, true)) = some (r1, r2, r3, r4) := H
   simp only [Option.some.injEq, Prod.mk.injEq] at H
   obtain ⟨rfl, rfl, rfl, rfl⟩ := H
   go_enter Try.func89, Try.ntmps89
   go_wp2_with (first | ((with_reducible refine gate_dst (N := 2) rfl ?_); refine boxev 2 #[.int .i64 a0_0, .int .i64 a0_1] 80 ?_; intro gb283 hg w8 hbox hb; have BK283 := ak (hbox); have GW283 := ak (hgl hg (belowd HB)); have GE283 := ak (hgl hg (belowd HB)); replace HB := ak (below_step (belowd HB) hb); clear hb hbox hg) | ((with_reducible refine gate_dst (N := 4) rfl ?_); refine boxev 4 #[.int .i64 0, .int .i64 0] 80 ?_; intro gb284 hg w9 hbox hb; have BK284 := ak (hbox); have GW284 := ak (hgl hg (belowg1 HB GE283)); have GE284 := ak (hgl hg (belowg1 HB GE283)); replace HB := ak (below_step (belowg1 HB GE283) hb); have NB283_284 := ak ((by rw [hg]; exact Nat.ne_of_lt (blk_lt (blkd BK283)) : gb283 ≠ gb284)); have NB284_283 := ak ((by rw [hg]; exact Nat.ne_of_gt (blk_lt (blkd BK283)) : gb284 ≠ gb283)); replace BK283 := ak (blk_below (blkd BK283) hb); clear hb hbox hg; have hnb10 := NB283_284.out; have hnc10 := NB284_283.out; obtain ⟨hcz11_0, hcz11_1, hfz11_0, hfz11_1⟩ := box2 BK283) | ((with_reducible refine gate_callee (f := 90) rfl ?_); refine goesLa (some 10) rfl Try.func90 #[.agg #[.int .i64 a0_0, .int .i64 a0_1]] rfl ?_; (with_reducible refine (spec_GoodWindow.calls k a0_0 a0_1 true _ A3.out).mono ?_); rintro e w12 ⟨rfl, hb⟩; refine ⟨_, rfl, ?_⟩; replace BK283 := ak (blk_below (blkd BK283) hb); replace BK284 := ak (blk_below (blkd BK284) hb); replace HB := ak (below_step (belowg2 HB GE283 GE284) hb); (try clear hb)) | (go_at_call 150; (with_reducible refine (spec_l16Number.calls a1 true _ A5.out).mono ?_); rintro e w' ⟨rfl, ⟨nd, rfl⟩⟩; (try (rw [drewN_self w12]; generalize hq_ : World.drewN w12 _ = w12; have n0_ : Aside0 (w12.heap[gb283]? = some (.cells #[.int .i64 a0_0, .int .i64 a0_1] 80 (0, 0))) := ⟨by rw [← hq_]; exact (blkd BK283)⟩; have n1_ : Aside0 (w12.heap[gb284]? = some (.cells #[.int .i64 0, .int .i64 0] 80 (0, 0))) := ⟨by rw [← hq_]; exact (blkd BK284)⟩; have n2_ : Aside0 (Below w.heap.size w w12) := ⟨by rw [← hq_]; exact (belowg2 HB GE283 GE284)⟩; clear BK283 BK284 HB hq_; have BK283 := n0_; have BK284 := n1_; have HB := n2_; clear n0_ n1_ n2_)); obtain ⟨hcz13_0, hcz13_1, hfz13_0, hfz13_1⟩ := box2 BK283) | ((with_reducible refine gate_callee (f := 146) rfl ?_); refine goesLa (some 21) rfl Try.func146 #[.agg #[.int .i64 a0_0, .int .i64 a0_1], .int .i64 a1] rfl ?_; (with_reducible refine (spec_l16Take.calls k a0_0 a0_1 a1 t287 t288 t289 _ A7.out).mono ?_); rintro e w14 ⟨rfl, hb⟩; refine ⟨_, rfl, ?_⟩; replace BK283 := ak (blk_below (blkd BK283) hb); replace BK284 := ak (blk_below (blkd BK284) hb); replace HB := ak (below_step (belowg2 HB GE283 GE284) hb); (try clear hb)) | ((with_reducible refine gate_dst (N := 7) rfl ?_); refine boxev 7 #[.int .i64 0, .int .i64 0] 80 ?_; intro gb290 hg w15 hbox hb; have BK290 := ak (hbox); have GW290 := ak (hgl hg (belowg2 HB GE283 GE284)); have GE290 := ak (hgl hg (belowg2 HB GE283 GE284)); replace HB := ak (below_step (belowg2 HB GE283 GE284) hb); have NB283_290 := ak ((by rw [hg]; exact Nat.ne_of_lt (blk_lt (blkd BK283)) : gb283 ≠ gb290)); have NB290_283 := ak ((by rw [hg]; exact Nat.ne_of_gt (blk_lt (blkd BK283)) : gb290 ≠ gb283)); replace BK283 := ak (blk_below (blkd BK283) hb); have NB284_290 := ak ((by rw [hg]; exact Nat.ne_of_lt (blk_lt (blkd BK284)) : gb284 ≠ gb290)); have NB290_284 := ak ((by rw [hg]; exact Nat.ne_of_gt (blk_lt (blkd BK284)) : gb290 ≠ gb284)); replace BK284 := ak (blk_below (blkd BK284) hb); clear hb hbox hg; have hnb16 := NB290_283.out; have hnc16 := NB283_290.out; have hnb17 := NB290_284.out; have hnc17 := NB284_290.out; obtain ⟨hcz18_0, hcz18_1, hfz18_0, hfz18_1⟩ := box2 BK290; obtain ⟨hcz19_0, hcz19_1, hfz19_0, hfz19_1⟩ := box2 BK284))
   refine bodyPost_ret (results_ctt rfl _ _ gb284 80 #[.int .i64 t287, .int .i64 t288] (0, 0) _ rfl (by (with_reducible repeat (first | refine blk_drewN ?_ _ | refine blk_drew ?_ | refine blk_alloc ?_ _)); refine blk_put (cs := #[.int .i64 t287, .int .i64 0]) ?_ 1 _ rfl; (with_reducible repeat (first | refine blk_drewN ?_ _ | refine blk_drew ?_ | refine blk_alloc ?_ _)); refine blk_put (cs := #[.int .i64 0, .int .i64 0]) ?_ 0 _ rfl; (with_reducible repeat (first | refine blk_drewN ?_ _ | refine blk_drew ?_ | refine blk_alloc ?_ _)); refine blk_far ?_ NB284_290.out _; (with_reducible repeat (first | refine blk_drewN ?_ _ | refine blk_drew ?_ | refine blk_alloc ?_ _)); refine blk_far ?_ NB284_290.out _; (with_reducible repeat (first | refine blk_drewN ?_ _ | refine blk_drew ?_ | refine blk_alloc ?_ _)); exact BK284.out) Try.underlying80 rfl (by kernel_rfl)) rfl ?_
   exact ⟨er2, belowg3 HB GE283 GE284 GE290⟩
  ·replace c6 := Bool.eq_false_iff.mpr c6
   subst c6
   have H1 : (some (0, 0, 0, false)) = some (r1, r2, r3, r4) := by rw [if_neg (show ¬ (false = true) by decide)] at H; exact H
   clear H
   have H := H1
   clear H1
   simp only [Option.some.injEq, Prod.mk.injEq] at H
   obtain ⟨rfl, rfl, rfl, rfl⟩ := H
   go_enter Try.func89, Try.ntmps89
   go_wp2_with (first | ((with_reducible refine gate_dst (N := 2) rfl ?_); refine boxev 2 #[.int .i64 a0_0, .int .i64 a0_1] 80 ?_; intro gb283 hg w20 hbox hb; have BK283 := ak (hbox); have GW283 := ak (hgl hg (belowd HB)); have GE283 := ak (hgl hg (belowd HB)); replace HB := ak (below_step (belowd HB) hb); clear hb hbox hg) | ((with_reducible refine gate_dst (N := 4) rfl ?_); refine boxev 4 #[.int .i64 0, .int .i64 0] 80 ?_; intro gb284 hg w21 hbox hb; have BK284 := ak (hbox); have GW284 := ak (hgl hg (belowg1 HB GE283)); have GE284 := ak (hgl hg (belowg1 HB GE283)); replace HB := ak (below_step (belowg1 HB GE283) hb); have NB283_284 := ak ((by rw [hg]; exact Nat.ne_of_lt (blk_lt (blkd BK283)) : gb283 ≠ gb284)); have NB284_283 := ak ((by rw [hg]; exact Nat.ne_of_gt (blk_lt (blkd BK283)) : gb284 ≠ gb283)); replace BK283 := ak (blk_below (blkd BK283) hb); clear hb hbox hg; have hnb22 := NB283_284.out; have hnc22 := NB284_283.out; obtain ⟨hcz23_0, hcz23_1, hfz23_0, hfz23_1⟩ := box2 BK283) | ((with_reducible refine gate_callee (f := 90) rfl ?_); refine goesLa (some 10) rfl Try.func90 #[.agg #[.int .i64 a0_0, .int .i64 a0_1]] rfl ?_; (with_reducible refine (spec_GoodWindow.calls k a0_0 a0_1 true _ A3.out).mono ?_); rintro e w24 ⟨rfl, hb⟩; refine ⟨_, rfl, ?_⟩; replace BK283 := ak (blk_below (blkd BK283) hb); replace BK284 := ak (blk_below (blkd BK284) hb); replace HB := ak (below_step (belowg2 HB GE283 GE284) hb); (try clear hb)) | (go_at_call 150; (with_reducible refine (spec_l16Number.calls a1 false _ A5.out).mono ?_); rintro e w' ⟨rfl, ⟨nd, rfl⟩⟩; (try (rw [drewN_self w24]; generalize hq_ : World.drewN w24 _ = w24; have n0_ : Aside0 (w24.heap[gb283]? = some (.cells #[.int .i64 a0_0, .int .i64 a0_1] 80 (0, 0))) := ⟨by rw [← hq_]; exact (blkd BK283)⟩; have n1_ : Aside0 (w24.heap[gb284]? = some (.cells #[.int .i64 0, .int .i64 0] 80 (0, 0))) := ⟨by rw [← hq_]; exact (blkd BK284)⟩; have n2_ : Aside0 (Below w.heap.size w w24) := ⟨by rw [← hq_]; exact (belowg2 HB GE283 GE284)⟩; clear BK283 BK284 HB hq_; have BK283 := n0_; have BK284 := n1_; have HB := n2_; clear n0_ n1_ n2_)); obtain ⟨hcz25_0, hcz25_1, hfz25_0, hfz25_1⟩ := box2 BK284))
   refine bodyPost_ret (results_ctt rfl _ _ gb284 80 #[.int .i64 0, .int .i64 0] (0, 0) _ rfl (by (with_reducible repeat (first | refine blk_drewN ?_ _ | refine blk_drew ?_ | refine blk_alloc ?_ _)); refine blk_put (cs := #[.int .i64 0, .int .i64 0]) ?_ 1 _ rfl; (with_reducible repeat (first | refine blk_drewN ?_ _ | refine blk_drew ?_ | refine blk_alloc ?_ _)); refine blk_put (cs := #[.int .i64 0, .int .i64 0]) ?_ 0 _ rfl; (with_reducible repeat (first | refine blk_drewN ?_ _ | refine blk_drew ?_ | refine blk_alloc ?_ _)); exact BK284.out) Try.underlying80 rfl (by kernel_rfl)) rfl ?_
   exact ⟨er2, belowg2 HB GE283 GE284⟩
 ·replace c4 := Bool.eq_false_iff.mpr c4
  subst c4
  have H1 : (some (0, 0, 0, false)) = some (r1, r2, r3, r4) := by rw [if_neg (show ¬ (false = true) by decide)] at H; exact H
  clear H
  have H := H1
  clear H1
  simp only [Option.some.injEq, Prod.mk.injEq] at H
  obtain ⟨rfl, rfl, rfl, rfl⟩ := H
  go_enter Try.func89, Try.ntmps89
  go_wp2_with (first | ((with_reducible refine gate_dst (N := 2) rfl ?_); refine boxev 2 #[.int .i64 a0_0, .int .i64 a0_1] 80 ?_; intro gb283 hg w26 hbox hb; have BK283 := ak (hbox); have GW283 := ak (hgl hg (belowd HB)); have GE283 := ak (hgl hg (belowd HB)); replace HB := ak (below_step (belowd HB) hb); clear hb hbox hg) | ((with_reducible refine gate_dst (N := 4) rfl ?_); refine boxev 4 #[.int .i64 0, .int .i64 0] 80 ?_; intro gb284 hg w27 hbox hb; have BK284 := ak (hbox); have GW284 := ak (hgl hg (belowg1 HB GE283)); have GE284 := ak (hgl hg (belowg1 HB GE283)); replace HB := ak (below_step (belowg1 HB GE283) hb); have NB283_284 := ak ((by rw [hg]; exact Nat.ne_of_lt (blk_lt (blkd BK283)) : gb283 ≠ gb284)); have NB284_283 := ak ((by rw [hg]; exact Nat.ne_of_gt (blk_lt (blkd BK283)) : gb284 ≠ gb283)); replace BK283 := ak (blk_below (blkd BK283) hb); clear hb hbox hg; have hnb28 := NB283_284.out; have hnc28 := NB284_283.out; obtain ⟨hcz29_0, hcz29_1, hfz29_0, hfz29_1⟩ := box2 BK283) | ((with_reducible refine gate_callee (f := 90) rfl ?_); refine goesLa (some 10) rfl Try.func90 #[.agg #[.int .i64 a0_0, .int .i64 a0_1]] rfl ?_; (with_reducible refine (spec_GoodWindow.calls k a0_0 a0_1 false _ A3.out).mono ?_); rintro e w30 ⟨rfl, hb⟩; refine ⟨_, rfl, ?_⟩; replace BK283 := ak (blk_below (blkd BK283) hb); replace BK284 := ak (blk_below (blkd BK284) hb); replace HB := ak (below_step (belowg2 HB GE283 GE284) hb); (try clear hb); obtain ⟨hcz31_0, hcz31_1, hfz31_0, hfz31_1⟩ := box2 BK284))
  refine bodyPost_ret (results_ctt rfl _ _ gb284 80 #[.int .i64 0, .int .i64 0] (0, 0) _ rfl (by (with_reducible repeat (first | refine blk_drewN ?_ _ | refine blk_drew ?_ | refine blk_alloc ?_ _)); refine blk_put (cs := #[.int .i64 0, .int .i64 0]) ?_ 1 _ rfl; (with_reducible repeat (first | refine blk_drewN ?_ _ | refine blk_drew ?_ | refine blk_alloc ?_ _)); refine blk_put (cs := #[.int .i64 0, .int .i64 0]) ?_ 0 _ rfl; (with_reducible repeat (first | refine blk_drewN ?_ _ | refine blk_drew ?_ | refine blk_alloc ?_ _)); exact BK284.out) Try.underlying80 rfl (by kernel_rfl)) rfl ?_
  exact ⟨er2, belowg2 HB GE283 GE284⟩

end Go.Proofs.Ytonejnaanklfjaa.QFnTakenOnce
