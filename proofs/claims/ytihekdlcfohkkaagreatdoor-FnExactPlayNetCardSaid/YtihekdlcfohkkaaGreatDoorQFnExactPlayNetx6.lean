-- printed by this session's own program (wip/tools/pp.py: the kit's print.py with changes); Lean checks it
import Derived.Test.YtihekdlcfohkkaaGreatDoorQFnExactPlayNetx0
import Derived.Test.YtihekdlcfohkkaaGreatDoorQFnExactPlayNetx2
import Derived.Test.YtihekdlcfohkkaaGreatDoorQFnExactPlayNetx4
import Derived.Test.YtihekdlcfohkkaaGreatDoorQFnExactPlayNetx5
namespace Go.Proofs.YtihekdlcfohkkaaGreatDoor.QFnExactPlayNet
open Go.RowKit Go.Proofs.YtihekdlcfohkkaaGreatDoorW.PrintWords Go.Proofs.YtihekdlcfohkkaaGreatDoorW.PrintLast Go.Proofs.YtihekdlcfohkkaaGreatDoorW.PrintMore
attribute [local go_sem] max2_int min2_int max_two min_two max_three min_three max_four min_four strLss strGtr strLeq strGeq   -- for this text's walks alone
set_option linter.unusedVariables false
set_option linter.unusedSimpArgs false

/-! ### spec_BuildOnion: function 116 -/
mutual
def spec_BuildOnion.j0 : Nat → List Int → List Int → ByteArray → Bool → Option (ByteArray × Bool)
  | 0, _, _, _, _ => none
  | k + 1, x0, x1, x2, x35 => if x35 = true then (some ((⟨#[]⟩ : ByteArray), false)) else ((spec_l7PadBody.f x2).bind fun t220 => (if 8 ≤ 281474976710656 then ((some (List.replicate 8 0 : List Int)).bind fun y221 => (if t220.size + (strOfNums y221).size ≤ 9223372036854775807 then (spec_BuildOnion.l0 k x0 x1 (t220 ++ (strOfNums y221)) (wrap64 ((x0.length : Int) - 1))) else (none))) else (none)))
def spec_BuildOnion.l0 : Nat → List Int → List Int → ByteArray → Int → Option (ByteArray × Bool)
  | 0, _, _, _, _ => none
  | k + 1, x0, x1, x8, x9 => if x9 ≥ 0 then (if 0 ≤ 22 then (if 22 ≤ (x8.size : Int) then (if 0 ≤ x9 then (if x9 < (x1.length : Int) then (if 0 ≤ 16 then (if 16 ≤ ((x8.extract 0 22).size : Int) then ((spec_l7Check.f k ((x8.extract 0 22).extract 0 16)).bind fun t225 => ((some (([(rd x1 x9) % 256, (t225) % 256] : List Int) : List Int)).bind fun y226 => (if (strOfNums y226).size + (x8.extract 0 22).size ≤ 9223372036854775807 then (if x9 < (x0.length : Int) then ((spec_l7Pad.f k (rd x0 x9) 24).bind fun t230 => ((spec_l7Xor.f k ((strOfNums y226) ++ (x8.extract 0 22)) t230).bind fun t231 => (spec_BuildOnion.l0 k x0 x1 t231 (wrap64 (x9 - 1))))) else (none)) else (none)))) else (none)) else (none)) else (none)) else (none)) else (none)) else (none)) else (some (x8, true))
end
def spec_BuildOnion.f (k : Nat) (l0 : List Int) (l1 : List Int) (a2 : ByteArray) : Option (ByteArray × Bool) := (spec_l1In.f (l0.length : Int) 1 4).bind fun t216 => (if t216 = true then ((spec_l1All.f k l0 0 65535).bind fun t217 => (if t217 = true then (if (l1.length : Int) = (l0.length : Int) then ((spec_l1All.f k l1 1 250).bind fun t218 => (if t218 = true then ((spec_l7Body.f a2).bind fun t219 => (spec_BuildOnion.j0 k l0 l1 a2 (!t219))) else (spec_BuildOnion.j0 k l0 l1 a2 true))) else (spec_BuildOnion.j0 k l0 l1 a2 true)) else (spec_BuildOnion.j0 k l0 l1 a2 true))) else (spec_BuildOnion.j0 k l0 l1 a2 true))
theorem spec_BuildOnion.mono_l : ∀ k, (∀ y0 y1 y2 y3, LeO (spec_BuildOnion.j0 k y0 y1 y2 y3) (spec_BuildOnion.j0 (k + 1) y0 y1 y2 y3)) ∧ (∀ y0 y1 y2 y3, LeO (spec_BuildOnion.l0 k y0 y1 y2 y3) (spec_BuildOnion.l0 (k + 1) y0 y1 y2 y3))
 | 0 => ⟨fun _ _ _ _ r h => by simp [spec_BuildOnion.j0] at h, fun _ _ _ _ r h => by simp [spec_BuildOnion.l0] at h⟩
 | k + 1 => by
  obtain ⟨ih0, ih1⟩ := spec_BuildOnion.mono_l k
  refine ⟨?_, ?_⟩
  ·intro y0 y1 y2 y3
   unfold spec_BuildOnion.j0
   repeat' (first | (with_reducible first | exact ih0 _ _ _ _ | exact ih1 _ _ _ _ | exact spec_l1All.mono _ _ _ _ | exact spec_l7Check.mono _ _ | exact spec_l7Pad.mono _ _ _ | exact spec_l7Xor.mono _ _ _ | exact LeO.refl _ | exact LeO.none _ | refine LeO.ite ?_ ?_ | refine LeO.bind ?_ (fun _ => ?_)) | exact ih0 _ _ _ _ | exact ih1 _ _ _ _ | exact spec_l1All.mono _ _ _ _ | exact spec_l7Check.mono _ _ | exact spec_l7Pad.mono _ _ _ | exact spec_l7Xor.mono _ _ _ | exact LeO.none _ | refine LeO.ite ?_ ?_ | refine LeO.bind ?_ (fun _ => ?_))
  ·intro y0 y1 y2 y3
   unfold spec_BuildOnion.l0
   repeat' (first | (with_reducible first | exact ih0 _ _ _ _ | exact ih1 _ _ _ _ | exact spec_l1All.mono _ _ _ _ | exact spec_l7Check.mono _ _ | exact spec_l7Pad.mono _ _ _ | exact spec_l7Xor.mono _ _ _ | exact LeO.refl _ | exact LeO.none _ | refine LeO.ite ?_ ?_ | refine LeO.bind ?_ (fun _ => ?_)) | exact ih0 _ _ _ _ | exact ih1 _ _ _ _ | exact spec_l1All.mono _ _ _ _ | exact spec_l7Check.mono _ _ | exact spec_l7Pad.mono _ _ _ | exact spec_l7Xor.mono _ _ _ | exact LeO.none _ | refine LeO.ite ?_ ?_ | refine LeO.bind ?_ (fun _ => ?_))
theorem spec_BuildOnion.mono : ∀ a0 a1 a2 k, LeO (spec_BuildOnion.f k a0 a1 a2) (spec_BuildOnion.f (k + 1) a0 a1 a2) := by
 intro a0 a1 a2 k
 obtain ⟨ih0, ih1⟩ := spec_BuildOnion.mono_l k
 unfold spec_BuildOnion.f
 repeat' (first | (with_reducible first | exact ih0 _ _ _ _ | exact ih1 _ _ _ _ | exact spec_l1All.mono _ _ _ _ | exact spec_l7Check.mono _ _ | exact spec_l7Pad.mono _ _ _ | exact spec_l7Xor.mono _ _ _ | exact LeO.refl _ | exact LeO.none _ | refine LeO.ite ?_ ?_ | refine LeO.bind ?_ (fun _ => ?_)) | exact ih0 _ _ _ _ | exact ih1 _ _ _ _ | exact spec_l1All.mono _ _ _ _ | exact spec_l7Check.mono _ _ | exact spec_l7Pad.mono _ _ _ | exact spec_l7Xor.mono _ _ _ | exact LeO.none _ | refine LeO.ite ?_ ?_ | refine LeO.bind ?_ (fun _ => ?_))
def spec_BuildOnion.T8 : Bool × List (List Nat × List Nat) := (true, [([], []), ([], []), ([0, 1], [0, 1]), ([2], [2]), ([3], [3]), ([], []), ([5], [5]), ([6], [6]), ([7], [7]), ([4, 8], [4, 8]), ([9], [9]), ([], []), ([10, 11], [10, 11]), ([12, 7, 0, 1, 2, 3, 4, 5, 6, 7, 8, 9, 10, 11, 12], [5, 11, 12])])
def spec_BuildOnion.B8 : List Nat := [0, 0, 3, 7, 15, 0, 32, 96, 224, 511, 1023, 0, 4095, 8191]
theorem spec_BuildOnion.tab8 : rtab .any (opsOf Tryz.f116 8) = spec_BuildOnion.T8 := by kernel_rfl
theorem spec_BuildOnion.bits8 : waitsOk spec_BuildOnion.T8.2 spec_BuildOnion.B8 = true := by kernel_rfl
set_option maxHeartbeats 8000000 in
set_option maxRecDepth 100000 in
theorem spec_BuildOnion.calls (k : Nat) (A0 : Option Addr) (c0 : Nat) (l0 : List Int) (A1 : Option Addr) (c1 : Nat) (l1 : List Int) (a2 : ByteArray) (r1 : ByteArray) (r2 : Bool) (w : World) (hr0 : Kd.C (Kd.int .i64) w A0 l0.length l0) (hc0 : l0.length ≤ c0) (hr1 : Kd.C (Kd.int .i64) w A1 l1.length l1) (hc1 : l1.length ≤ c1) (h : spec_BuildOnion.f k l0 l1 a2 = some (r1, r2)) :
  Calls Tryz.prog 116 #[.slice A0 l0.length c0, .slice A1 l1.length c1, .string a2] w fun e w' => e = .returned (.tuple #[.string r1, .bool r2]) ∧ Below w.heap.size w w' := by
 have HR0 := Aside0.mk hr0; have HC0 := Aside0.mk hc0; clear hr0 hc0; have HR1 := Aside0.mk hr1; have HC1 := Aside0.mk hc1; clear hr1 hc1
 have HB := Aside0.mk (Below.refl w.heap.size w)
 have H : ((spec_l1In.f (l0.length : Int) 1 4).bind fun t216 => (if t216 = true then ((spec_l1All.f k l0 0 65535).bind fun t217 => (if t217 = true then (if (l1.length : Int) = (l0.length : Int) then ((spec_l1All.f k l1 1 250).bind fun t218 => (if t218 = true then ((spec_l7Body.f a2).bind fun t219 => (spec_BuildOnion.j0 k l0 l1 a2 (!t219))) else (spec_BuildOnion.j0 k l0 l1 a2 true))) else (spec_BuildOnion.j0 k l0 l1 a2 true)) else (spec_BuildOnion.j0 k l0 l1 a2 true))) else (spec_BuildOnion.j0 k l0 l1 a2 true))) = some (r1, r2) := h
 clear h; have HC4 := Aside0.mk H; clear H
 go_enter Tryz.func116, Tryz.ntmps116
 go_upto_region 1 with (fail)
 go_cut [35] (fun v35 wc => ∃ (kq : Nat) (x35_3 : Bool), v35 = .bool x35_3 ∧ Aside0 (spec_BuildOnion.j0 kq l0 l1 a2 x35_3 = some (r1, r2)) ∧ Aside0 (kq ≤ k) ∧ Aside0 (Below w.heap.size w wc))
 case first =>
  have H := HC4.out; clear HC4; replace H := bS H; obtain ⟨t216, A5, H⟩ := H
  replace H : (if t216 = true then ((spec_l1All.f k l0 0 65535).bind fun t217 => (if t217 = true then (if (l1.length : Int) = (l0.length : Int) then ((spec_l1All.f k l1 1 250).bind fun t218 => (if t218 = true then ((spec_l7Body.f a2).bind fun t219 => (spec_BuildOnion.j0 k l0 l1 a2 (!t219))) else (spec_BuildOnion.j0 k l0 l1 a2 true))) else (spec_BuildOnion.j0 k l0 l1 a2 true)) else (spec_BuildOnion.j0 k l0 l1 a2 true))) else (spec_BuildOnion.j0 k l0 l1 a2 true)) = some (r1, r2) := H
  by_cases c6 : t216 = true
  ·subst c6
   have H1 : ((spec_l1All.f k l0 0 65535).bind fun t217 => (if t217 = true then (if (l1.length : Int) = (l0.length : Int) then ((spec_l1All.f k l1 1 250).bind fun t218 => (if t218 = true then ((spec_l7Body.f a2).bind fun t219 => (spec_BuildOnion.j0 k l0 l1 a2 (!t219))) else (spec_BuildOnion.j0 k l0 l1 a2 true))) else (spec_BuildOnion.j0 k l0 l1 a2 true)) else (spec_BuildOnion.j0 k l0 l1 a2 true))) = some (r1, r2) := by rw [if_pos rfl] at H; exact H
   clear H
   have H := H1
   clear H1; replace H := bS H; obtain ⟨t217, A7, H⟩ := H
   replace H : (if t217 = true then (if (l1.length : Int) = (l0.length : Int) then ((spec_l1All.f k l1 1 250).bind fun t218 => (if t218 = true then ((spec_l7Body.f a2).bind fun t219 => (spec_BuildOnion.j0 k l0 l1 a2 (!t219))) else (spec_BuildOnion.j0 k l0 l1 a2 true))) else (spec_BuildOnion.j0 k l0 l1 a2 true)) else (spec_BuildOnion.j0 k l0 l1 a2 true)) = some (r1, r2) := H
   by_cases c8 : t217 = true
   ·subst c8
    have H1 : (if (l1.length : Int) = (l0.length : Int) then ((spec_l1All.f k l1 1 250).bind fun t218 => (if t218 = true then ((spec_l7Body.f a2).bind fun t219 => (spec_BuildOnion.j0 k l0 l1 a2 (!t219))) else (spec_BuildOnion.j0 k l0 l1 a2 true))) else (spec_BuildOnion.j0 k l0 l1 a2 true)) = some (r1, r2) := by rw [if_pos rfl] at H; exact H
    clear H
    have H := H1
    clear H1
    by_cases c9 : (l1.length : Int) = (l0.length : Int)
    ·rw [if_pos c9] at H
     have c9b0 : ((l1.length : Int) == (l0.length : Int)) = true := beq_iff_eq.mpr c9
     have c9b1 : ((l1.length : Int) != (l0.length : Int)) = false := bne_eq_false_iff_eq.mpr c9
     have c9b2 : (l1.length == l0.length) = true := by first | simpa using c9 | (simp at c9 ⊢; omega)
     clear c9
     (first | rw [c9b0] | (simp only [i64_w, i32_w]; rw [c9b0]) | skip)
     replace H := bS H; obtain ⟨t218, A10, H⟩ := H
     replace H : (if t218 = true then ((spec_l7Body.f a2).bind fun t219 => (spec_BuildOnion.j0 k l0 l1 a2 (!t219))) else (spec_BuildOnion.j0 k l0 l1 a2 true)) = some (r1, r2) := H
     by_cases c11 : t218 = true
     ·subst c11
      have H1 : ((spec_l7Body.f a2).bind fun t219 => (spec_BuildOnion.j0 k l0 l1 a2 (!t219))) = some (r1, r2) := by rw [if_pos rfl] at H; exact H
      clear H
      have H := H1
      clear H1; replace H := bS H; obtain ⟨t219, A12, H⟩ := H
      replace H : (spec_BuildOnion.j0 k l0 l1 a2 (!t219)) = some (r1, r2) := H
      have H' := Aside0.mk H
      clear H
      go_wp2_with (first | ((with_reducible refine gate_callee (f := 79) rfl ?_); refine goesLa (some 12) rfl Tryz.func79 #[.int .i64 (l0.length : Int), .int .i64 1, .int .i64 4] rfl ?_; (with_reducible refine (spec_l1In.calls (l0.length : Int) 1 4 true _ A5.out).mono ?_); rintro e w' ⟨rfl, ⟨nd, rfl⟩⟩; refine ⟨_, rfl, ?_⟩) | (go_at_call 81; (with_reducible refine (spec_l1All.calls k _ _ l0 0 65535 true _ ?side1 ?side2 A7.out).mono ?_); (case side1 => exact cd (Kd.C_below HR0.out (belowd HB))); (case side2 => exact HC0.out); rintro e w' ⟨rfl, ⟨nd, rfl⟩⟩) | (go_at_call 81; (with_reducible refine (spec_l1All.calls k _ _ l1 1 250 true _ ?side1 ?side2 A10.out).mono ?_); (case side1 => exact cd (Kd.C_below HR1.out (belowd HB))); (case side2 => exact HC1.out); rintro e w' ⟨rfl, ⟨nd, rfl⟩⟩) | (go_at_call 128; (with_reducible refine (spec_l7Body.calls a2 t219 _ A12.out).mono ?_); rintro e w' ⟨rfl, ⟨nd, rfl⟩⟩))
      go_meet
      case rel => exact ⟨_, (!t219), er, H', ⟨by first | omega | exact Nat.le_refl _⟩, ⟨belowd HB⟩⟩
     ·replace c11 := Bool.eq_false_iff.mpr c11
      subst c11
      have H1 : (spec_BuildOnion.j0 k l0 l1 a2 true) = some (r1, r2) := by rw [if_neg (show ¬ (false = true) by decide)] at H; exact H
      clear H
      have H := H1
      clear H1
      have H' := Aside0.mk H
      clear H
      go_wp2_with (first | ((with_reducible refine gate_callee (f := 79) rfl ?_); refine goesLa (some 12) rfl Tryz.func79 #[.int .i64 (l0.length : Int), .int .i64 1, .int .i64 4] rfl ?_; (with_reducible refine (spec_l1In.calls (l0.length : Int) 1 4 true _ A5.out).mono ?_); rintro e w' ⟨rfl, ⟨nd, rfl⟩⟩; refine ⟨_, rfl, ?_⟩) | (go_at_call 81; (with_reducible refine (spec_l1All.calls k _ _ l0 0 65535 true _ ?side1 ?side2 A7.out).mono ?_); (case side1 => exact cd (Kd.C_below HR0.out (belowd HB))); (case side2 => exact HC0.out); rintro e w' ⟨rfl, ⟨nd, rfl⟩⟩) | (go_at_call 81; (with_reducible refine (spec_l1All.calls k _ _ l1 1 250 false _ ?side1 ?side2 A10.out).mono ?_); (case side1 => exact cd (Kd.C_below HR1.out (belowd HB))); (case side2 => exact HC1.out); rintro e w' ⟨rfl, ⟨nd, rfl⟩⟩))
      go_meet
      case rel => exact ⟨_, (true), er, H', ⟨by first | omega | exact Nat.le_refl _⟩, ⟨belowd HB⟩⟩
    ·rw [if_neg c9] at H
     have c9b0 : ((l1.length : Int) == (l0.length : Int)) = false := beq_eq_false_iff_ne.mpr c9
     have c9b1 : ((l1.length : Int) != (l0.length : Int)) = true := bne_iff_ne.mpr c9
     have c9b2 : (l1.length == l0.length) = false := by first | simpa using c9 | (simp at c9 ⊢; omega)
     (first | rw [c9b0] | (simp only [i64_w, i32_w]; rw [c9b0]) | skip)
     have H' := Aside0.mk H
     clear H
     go_wp2_with (first | ((with_reducible refine gate_callee (f := 79) rfl ?_); refine goesLa (some 12) rfl Tryz.func79 #[.int .i64 (l0.length : Int), .int .i64 1, .int .i64 4] rfl ?_; (with_reducible refine (spec_l1In.calls (l0.length : Int) 1 4 true _ A5.out).mono ?_); rintro e w' ⟨rfl, ⟨nd, rfl⟩⟩; refine ⟨_, rfl, ?_⟩) | (go_at_call 81; (with_reducible refine (spec_l1All.calls k _ _ l0 0 65535 true _ ?side1 ?side2 A7.out).mono ?_); (case side1 => exact cd (Kd.C_below HR0.out (belowd HB))); (case side2 => exact HC0.out); rintro e w' ⟨rfl, ⟨nd, rfl⟩⟩))
     go_meet
     case rel => exact ⟨_, (true), er, H', ⟨by first | omega | exact Nat.le_refl _⟩, ⟨belowd HB⟩⟩
   ·replace c8 := Bool.eq_false_iff.mpr c8
    subst c8
    have H1 : (spec_BuildOnion.j0 k l0 l1 a2 true) = some (r1, r2) := by rw [if_neg (show ¬ (false = true) by decide)] at H; exact H
    clear H
    have H := H1
    clear H1
    have H' := Aside0.mk H
    clear H
    go_wp2_with (first | ((with_reducible refine gate_callee (f := 79) rfl ?_); refine goesLa (some 12) rfl Tryz.func79 #[.int .i64 (l0.length : Int), .int .i64 1, .int .i64 4] rfl ?_; (with_reducible refine (spec_l1In.calls (l0.length : Int) 1 4 true _ A5.out).mono ?_); rintro e w' ⟨rfl, ⟨nd, rfl⟩⟩; refine ⟨_, rfl, ?_⟩) | (go_at_call 81; (with_reducible refine (spec_l1All.calls k _ _ l0 0 65535 false _ ?side1 ?side2 A7.out).mono ?_); (case side1 => exact cd (Kd.C_below HR0.out (belowd HB))); (case side2 => exact HC0.out); rintro e w' ⟨rfl, ⟨nd, rfl⟩⟩))
    go_meet
    case rel => exact ⟨_, (true), er, H', ⟨by first | omega | exact Nat.le_refl _⟩, ⟨belowd HB⟩⟩
  ·replace c6 := Bool.eq_false_iff.mpr c6
   subst c6
   have H1 : (spec_BuildOnion.j0 k l0 l1 a2 true) = some (r1, r2) := by rw [if_neg (show ¬ (false = true) by decide)] at H; exact H
   clear H
   have H := H1
   clear H1
   have H' := Aside0.mk H
   clear H
   go_wp2_with (first | ((with_reducible refine gate_callee (f := 79) rfl ?_); refine goesLa (some 12) rfl Tryz.func79 #[.int .i64 (l0.length : Int), .int .i64 1, .int .i64 4] rfl ?_; (with_reducible refine (spec_l1In.calls (l0.length : Int) 1 4 false _ A5.out).mono ?_); rintro e w' ⟨rfl, ⟨nd, rfl⟩⟩; refine ⟨_, rfl, ?_⟩))
   go_meet
   case rel => exact ⟨_, (true), er, H', ⟨by first | omega | exact Nat.le_refl _⟩, ⟨belowd HB⟩⟩
 case rest =>
  clear HC4; (try clear c1)
  obtain ⟨kq, x35_3, rfl, HA, HJ3, HB⟩ := hcut
  cases kq with
  | zero => exact absurd HA.out (by simp [spec_BuildOnion.j0])
  | succ kj3 =>
   have H := HA.out; clear HA
   simp only [spec_BuildOnion.j0] at H
   by_cases c13 : x35_3 = true
   ·subst c13
    have H1 : (some ((⟨#[]⟩ : ByteArray), false)) = some (r1, r2) := by rw [if_pos rfl] at H; exact H
    clear H
    have H := H1
    clear H1
    simp only [Option.some.injEq, Prod.mk.injEq] at H
    obtain ⟨rfl, rfl⟩ := H; go_wp2
    go_ret2
    exact ⟨er2, belowd HB⟩
   ·replace c13 := Bool.eq_false_iff.mpr c13
    subst c13
    have H1 : ((spec_l7PadBody.f a2).bind fun t220 => (if 8 ≤ 281474976710656 then ((some (List.replicate 8 0 : List Int)).bind fun y221 => (if t220.size + (strOfNums y221).size ≤ 9223372036854775807 then (spec_BuildOnion.l0 kj3 l0 l1 (t220 ++ (strOfNums y221)) (wrap64 ((l0.length : Int) - 1))) else (none))) else (none))) = some (r1, r2) := by rw [if_neg (show ¬ (false = true) by decide)] at H; exact H
    clear H
    have H := H1
    clear H1; replace H := bS H; obtain ⟨t220, A14, H⟩ := H
    replace H : (if 8 ≤ 281474976710656 then ((some (List.replicate 8 0 : List Int)).bind fun y221 => (if t220.size + (strOfNums y221).size ≤ 9223372036854775807 then (spec_BuildOnion.l0 kj3 l0 l1 (t220 ++ (strOfNums y221)) (wrap64 ((l0.length : Int) - 1))) else (none))) else (none)) = some (r1, r2) := H
    replace H := ifS H; obtain ⟨c15, H⟩ := H; have c15b0 := eq_true c15
    have c15b1 : decide (8 ≤ 281474976710656) = true := decide_eq_true c15
    clear c15
    obtain ⟨y221, hy_⟩ : ∃ y_ : List Int, y_ = (List.replicate 8 0) := ⟨_, rfl⟩
    replace H : (if t220.size + (strOfNums y221).size ≤ 9223372036854775807 then (spec_BuildOnion.l0 kj3 l0 l1 (t220 ++ (strOfNums y221)) (wrap64 ((l0.length : Int) - 1))) else (none)) = some (r1, r2) := yH
    have Ny221 := ak hy_; clear hy_; replace H := ifS H; obtain ⟨c16, H⟩ := H; have c16b0 := eq_true c16
    have c16b1 : decide (t220.size + (strOfNums y221).size ≤ 9223372036854775807) = true := decide_eq_true c16
    try have c16b2 : (9223372036854775807 < t220.size + (strOfNums y221).size) = False := eq_false (Nat.not_lt.2 c16)
    have H' := Aside0.mk H
    clear H
    try go_wp2
    replace HB := ak (below_drew1 HB.out)
    refine start_ (n := 6) (S := fun w' => True) (ds := []) (bl 6 0) (by kernel_rfl) rfl rfl trivial (fun hHeld => ?_)
    generalize wc.drew = w17 at HB hHeld ⊢
    refine pure_ (i := 0) (N := some 36) (v := ?_) (a' := ?_) (bl 6 1) rfl rfl (by kernel_rfl) (fun _ _ _ h => h) (Or.inl ⟨by rfl, ?_⟩) ?_ ?_
    rotate_left
    ·intro w'
     go_simp
     with_reducible rfl
    rotate_left
    ·simp only [Act.put, List.setIfInBounds_toArray, List.set_cons_zero, List.set_cons_succ, i64_w, i32_w]
     rfl
    refine join_ (σ := Value) 2 (bl 6 15) (fun s_ => [(37, .string t220), (38, s_), (39, .string (strOfNums y221))]) (fun s_ w' => (Kd.R (Kd.int .u8) 5 w' w.heap.size (fun _ => True) s_ y221) ∧ (Below w.heap.size w w')) ?_ ?_
    rotate_left
    ·intro hCont
     refine two_ (i := 1) (j := 2) (Ni := some 37) (Nj := some 38) (bl 6 3) (bl 6 5) rfl rfl rfl rfl (by kernel_rfl) (by decide) (by decide) (fun K hK => ?_) (fun K hK => ?_)
     ·skip
      refine goes_ Tryz.func129 (by kernel_rfl) rfl #[.string a2] (by rfl) rfl rfl (by (try simp only [List.map_toArray, List.map_cons, List.map_nil]); first | done | rfl | (simp only [List.length_drop, List.length_take]; rfl)) ?_
      with_reducible refine (spec_l7PadBody.calls a2 t220 _ A14.out).mono ?_
      rintro e w18 ⟨rfl, hb⟩
      refine ⟨_, rfl, ?_⟩
      replace HB := ak (below_step (belowd HB) hb)
      (try clear hb); (try clear hb2); (try clear hk); (try clear hi)
      refine hK.out _ _ trivial (fun hHeld => ?_)
      clear hK K
      refine norm_ (a' := ?_) ?_ ?_
      rotate_left
      ·show Act.put _ (some 37) _ = _
       simp only [Act.put, List.setIfInBounds_toArray, List.set_cons_zero, List.set_cons_succ, i64_w, i32_w]
       rfl
      refine one_ (i := 2) (N := some 38) (bl 6 7) rfl rfl (by kernel_rfl) (by decide) (fun K hK => ?_)
      refine Kd.R_make_step (Kd.int .u8) _ 5 (by rfl) (N := 38) rfl 56 _ _ rfl 8 rfl rfl Tryz.underlying56 (.int .u8 0) 1 info5 rfl (by decide) (by omega) 0 (ok := fun _ => True) (okp := fun _ => True) rfl (fun _ hk => hk) trivial (by omega) (by omega) (Below.refl _ _) (Nat.le_refl _) ?_
      intro v222 w19 ho20 hb hg_ hnew_
      clear hg_ hnew_
      (first | rw [← Ny221.out] at ho20 | (simp only [Int.reduceToNat] at ho20; rw [← Ny221.out] at ho20))
      have HO223 := ak (Kd.R_lower ho20 (below_size (belowd HB)))
      replace HB := ak (below_step (belowd HB) hb)
      clear hb ho20
      refine hK.out _ _ trivial (fun hHeld => ?_)
      clear hK K
      refine norm_ (a' := ?_) ?_ ?_
      rotate_left
      ·show Act.put _ (some 38) _ = _
       simp only [Act.put, List.setIfInBounds_toArray, List.set_cons_zero, List.set_cons_succ, i64_w, i32_w]
       rfl
      refine one_ (i := 3) (N := some 39) (bl 6 15) rfl rfl (by kernel_rfl) (by decide) (fun K hK => ?_)
      have hcv21 := own_string (P := Tryz.prog) Tryz.underlying56 Tryz.underlying5 Tryz.underlying9 (Kd.own_of_R HO223.out)
      refine value_ (w1 := ?_) (v := ?_) (by rfl) rfl ?_ ?_
      rotate_left 2
      ·go_simp
       constructor
       ·rfl
       ·rfl
      clear hcv21
      refine hK.out _ _ trivial (fun hHeld => ?_)
      clear hK K
      refine norm_ (a' := ?_) ?_ ?_
      rotate_left
      ·show Act.put _ (some 39) _ = _
       simp only [Act.put, List.setIfInBounds_toArray, List.set_cons_zero, List.set_cons_succ, i64_w, i32_w]
       rfl
      exact norm_ (by simp only [putAll, Act.put, List.setIfInBounds_toArray, List.set_cons_zero, List.set_cons_succ]) (hCont (v222) _ ⟨(rdl HO223), (belowd HB)⟩)
     ·skip
      refine Kd.R_make_step (Kd.int .u8) _ 5 (by rfl) (N := 38) rfl 56 _ _ rfl 8 rfl rfl Tryz.underlying56 (.int .u8 0) 1 info5 rfl (by decide) (by omega) 0 (ok := fun _ => True) (okp := fun _ => True) rfl (fun _ hk => hk) trivial (by omega) (by omega) (Below.refl _ _) (Nat.le_refl _) ?_
      intro v222 w18 ho19 hb hg_ hnew_
      clear hg_ hnew_
      (first | rw [← Ny221.out] at ho19 | (simp only [Int.reduceToNat] at ho19; rw [← Ny221.out] at ho19))
      have HO223 := ak (Kd.R_lower ho19 (below_size (belowd HB)))
      replace HB := ak (below_step (belowd HB) hb)
      clear hb ho19
      refine hK.out _ _ trivial (fun hHeld => ?_)
      clear hK K
      refine norm_ (a' := ?_) ?_ ?_
      rotate_left
      ·show Act.put _ (some 38) _ = _
       simp only [Act.put, List.setIfInBounds_toArray, List.set_cons_zero, List.set_cons_succ, i64_w, i32_w]
       rfl
      refine two_ (i := 1) (j := 3) (Ni := some 37) (Nj := some 39) (bl 6 7) (bl 6 13) rfl rfl rfl rfl (by kernel_rfl) (by decide) (by decide) (fun K hK => ?_) (fun K hK => ?_)
      ·skip
       refine goes_ Tryz.func129 (by kernel_rfl) rfl #[.string a2] (by rfl) rfl rfl (by (try simp only [List.map_toArray, List.map_cons, List.map_nil]); first | done | rfl | (simp only [List.length_drop, List.length_take]; rfl)) ?_
       with_reducible refine (spec_l7PadBody.calls a2 t220 _ A14.out).mono ?_
       rintro e w20 ⟨rfl, hb⟩
       refine ⟨_, rfl, ?_⟩
       replace HO223 := ak (Kd.R_below (rdl HO223) hb)
       replace HB := ak (below_step (belowd HB) hb)
       (try clear hb); (try clear hb2); (try clear hk); (try clear hi)
       refine hK.out _ _ trivial (fun hHeld => ?_)
       clear hK K
       refine norm_ (a' := ?_) ?_ ?_
       rotate_left
       ·show Act.put _ (some 37) _ = _
        simp only [Act.put, List.setIfInBounds_toArray, List.set_cons_zero, List.set_cons_succ, i64_w, i32_w]
        rfl
       refine one_ (i := 3) (N := some 39) (bl 6 15) rfl rfl (by kernel_rfl) (by decide) (fun K hK => ?_)
       have hcv21 := own_string (P := Tryz.prog) Tryz.underlying56 Tryz.underlying5 Tryz.underlying9 (Kd.own_of_R HO223.out)
       refine value_ (w1 := ?_) (v := ?_) (by rfl) rfl ?_ ?_
       rotate_left 2
       ·go_simp
        constructor
        ·rfl
        ·rfl
       clear hcv21
       refine hK.out _ _ trivial (fun hHeld => ?_)
       clear hK K
       refine norm_ (a' := ?_) ?_ ?_
       rotate_left
       ·show Act.put _ (some 39) _ = _
        simp only [Act.put, List.setIfInBounds_toArray, List.set_cons_zero, List.set_cons_succ, i64_w, i32_w]
        rfl
       exact norm_ (by simp only [putAll, Act.put, List.setIfInBounds_toArray, List.set_cons_zero, List.set_cons_succ]) (hCont (v222) _ ⟨(rdl HO223), (belowd HB)⟩)
      ·skip
       have hcv20 := own_string (P := Tryz.prog) Tryz.underlying56 Tryz.underlying5 Tryz.underlying9 (Kd.own_of_R HO223.out)
       refine value_ (w1 := ?_) (v := ?_) (by rfl) rfl ?_ ?_
       rotate_left 2
       ·go_simp
        constructor
        ·rfl
        ·rfl
       clear hcv20
       refine hK.out _ _ trivial (fun hHeld => ?_)
       clear hK K
       refine norm_ (a' := ?_) ?_ ?_
       rotate_left
       ·show Act.put _ (some 39) _ = _
        simp only [Act.put, List.setIfInBounds_toArray, List.set_cons_zero, List.set_cons_succ, i64_w, i32_w]
        rfl
       refine one_ (i := 1) (N := some 37) (bl 6 15) rfl rfl (by kernel_rfl) (by decide) (fun K hK => ?_)
       refine goes_ Tryz.func129 (by kernel_rfl) rfl #[.string a2] (by rfl) rfl rfl (by (try simp only [List.map_toArray, List.map_cons, List.map_nil]); first | done | rfl | (simp only [List.length_drop, List.length_take]; rfl)) ?_
       with_reducible refine (spec_l7PadBody.calls a2 t220 _ A14.out).mono ?_
       rintro e w21 ⟨rfl, hb⟩
       refine ⟨_, rfl, ?_⟩
       replace HO223 := ak (Kd.R_below (rdl HO223) hb)
       replace HB := ak (below_step (belowd HB) hb)
       (try clear hb); (try clear hb2); (try clear hk); (try clear hi)
       refine hK.out _ _ trivial (fun hHeld => ?_)
       clear hK K
       refine norm_ (a' := ?_) ?_ ?_
       rotate_left
       ·show Act.put _ (some 37) _ = _
        simp only [Act.put, List.setIfInBounds_toArray, List.set_cons_zero, List.set_cons_succ, i64_w, i32_w]
        rfl
       exact norm_ (by simp only [putAll, Act.put, List.setIfInBounds_toArray, List.set_cons_zero, List.set_cons_succ]) (hCont (v222) _ ⟨(rdl HO223), (belowd HB)⟩)
    rintro v222 w22 ⟨h0_, h1_⟩
    have n0_ : Aside0 (Kd.R (Kd.int .u8) 5 w22 w.heap.size (fun _ => True) v222 y221) := ⟨h0_⟩
    have n1_ : Aside0 (Below w.heap.size w w22) := ⟨h1_⟩
    clear HB; clear h0_ h1_
    have HO223 := n0_
    have HB := n1_
    clear n0_ n1_
    have hHeld := trivial
    refine norm_ (a' := ?_) ?_ ?_
    rotate_left
    ·simp only [putAll, Act.put, List.setIfInBounds_toArray, List.set_cons_zero, List.set_cons_succ]
     rfl
    refine pure_ (i := 4) (N := some 40) (v := ?_) (a' := ?_) (bl 6 31) rfl rfl (by kernel_rfl) (fun _ _ _ h => h) (Or.inl ⟨by rfl, ?_⟩) ?_ ?_
    rotate_left
    ·intro w'
     go_simp
     with_reducible rfl
    rotate_left
    ·simp only [Act.put, List.setIfInBounds_toArray, List.set_cons_zero, List.set_cons_succ, i64_w, i32_w]
     rfl
    refine pure_ (i := 5) (N := some 8) (v := ?_) (a' := ?_) (bl 6 63) rfl rfl (by kernel_rfl) (fun _ _ _ h => h) (Or.inl ⟨by rfl, ?_⟩) ?_ ?_
    rotate_left
    ·intro w'
     go_simp
     with_reducible rfl
    rotate_left
    ·simp only [Act.put, List.setIfInBounds_toArray, List.set_cons_zero, List.set_cons_succ, i64_w, i32_w]
     rfl
    refine done_ (by kernel_rfl) ?_
    try go_wp2
    go_loopg [8, 9] kj3 (fun kq v8 v9 w' => ∃ (x8_2 : ByteArray) (x9_2 : Int), v8 = .string x8_2 ∧ v9 = .int .i64 x9_2 ∧ Aside0 (spec_BuildOnion.l0 kq l0 l1 x8_2 x9_2 = some (r1, r2)) ∧ Aside0 (kq ≤ kj3) ∧ Aside0 (Below w.heap.size w w'))
    case atStart => exact ⟨(t220 ++ (strOfNums y221)), (wrap64 ((l0.length : Int) - 1)), er, er, H', ⟨Nat.le_refl _⟩, ⟨belowd HB⟩⟩
    case round =>
     clear H'
     (try clear c13); (try clear c15b0); (try clear c15b1); (try clear c16); (try clear c16b0); (try clear c16b1); (try clear c16b2)
     obtain ⟨x8_2, x9_2, rfl, rfl, HA, HK2, HB⟩ := hrel
     cases gk with
     | zero => exact absurd HA.out (by simp [spec_BuildOnion.l0])
     | succ k2 =>
      have H := HA.out; clear HA
      simp only [spec_BuildOnion.l0] at H
      by_cases c23 : x9_2 ≥ 0
      ·rw [if_pos c23] at H
       have c23b0 : decide (0 ≤ x9_2) = true := decide_eq_true c23
       clear c23; replace H := ifS H; obtain ⟨c24, H⟩ := H; have c24b0 := eq_true c24
       have c24b1 : decide (0 ≤ 22) = true := decide_eq_true c24
       clear c24; replace H := ifS H; obtain ⟨c25, H⟩ := H; have c25b0 := eq_true c25
       have c25b1 : decide (22 ≤ (x8_2.size : Int)) = true := decide_eq_true c25
       clear c25; replace H := ifS H; obtain ⟨c26, H⟩ := H; have c26b0 := decide_eq_true c26; clear c26; replace H := ifS H; obtain ⟨c27, H⟩ := H; have c27b0 := decide_eq_true c27; clear c27; replace H := ifS H; obtain ⟨c28, H⟩ := H; have c28b0 := eq_true c28
       have c28b1 : decide (0 ≤ 16) = true := decide_eq_true c28
       clear c28; replace H := ifS H; obtain ⟨c29, H⟩ := H; have c29b0 := eq_true c29
       have c29b1 : decide (16 ≤ ((x8_2.extract 0 22).size : Int)) = true := decide_eq_true c29
       (try have c29x0 := c29b0; simp only [ByteArray.size_extract, Nat.sub_zero, Nat.min_self] at c29x0)
       clear c29; replace H := bS H; obtain ⟨t225, A30, H⟩ := H
       replace H : ((some (([(rd l1 x9_2) % 256, (t225) % 256] : List Int) : List Int)).bind fun y226 => (if (strOfNums y226).size + (x8_2.extract 0 22).size ≤ 9223372036854775807 then (if x9_2 < (l0.length : Int) then ((spec_l7Pad.f k2 (rd l0 x9_2) 24).bind fun t230 => ((spec_l7Xor.f k2 ((strOfNums y226) ++ (x8_2.extract 0 22)) t230).bind fun t231 => (spec_BuildOnion.l0 k2 l0 l1 t231 (wrap64 (x9_2 - 1))))) else (none)) else (none))) = some (r1, r2) := H
       obtain ⟨y226, hy_⟩ : ∃ y_ : List Int, y_ = (([(rd l1 x9_2) % 256, (t225) % 256] : List Int)) := ⟨_, rfl⟩
       replace H : (if (strOfNums y226).size + (x8_2.extract 0 22).size ≤ 9223372036854775807 then (if x9_2 < (l0.length : Int) then ((spec_l7Pad.f k2 (rd l0 x9_2) 24).bind fun t230 => ((spec_l7Xor.f k2 ((strOfNums y226) ++ (x8_2.extract 0 22)) t230).bind fun t231 => (spec_BuildOnion.l0 k2 l0 l1 t231 (wrap64 (x9_2 - 1))))) else (none)) else (none)) = some (r1, r2) := yH
       have Ny226 := ak hy_; clear hy_; replace H := ifS H; obtain ⟨c31, H⟩ := H; have c31b0 := eq_true c31
       have c31b1 : decide ((strOfNums y226).size + (x8_2.extract 0 22).size ≤ 9223372036854775807) = true := decide_eq_true c31
       try have c31b2 : (9223372036854775807 < (strOfNums y226).size + (x8_2.extract 0 22).size) = False := eq_false (Nat.not_lt.2 c31)
       (try have c31x0 := c31b0; simp only [ByteArray.size_extract, Nat.sub_zero, Nat.min_self] at c31x0)
       (try have c31x2 := c31b2; simp only [ByteArray.size_extract, Nat.sub_zero, Nat.min_self] at c31x2)
       replace H := ifS H; obtain ⟨c32, H⟩ := H; have c32b0 := decide_eq_true c32; clear c32; replace H := bS H; obtain ⟨t230, A33, H⟩ := H
       replace H : ((spec_l7Xor.f k2 ((strOfNums y226) ++ (x8_2.extract 0 22)) t230).bind fun t231 => (spec_BuildOnion.l0 k2 l0 l1 t231 (wrap64 (x9_2 - 1)))) = some (r1, r2) := H
       replace H := bS H; obtain ⟨t231, A34, H⟩ := H
       replace H : (spec_BuildOnion.l0 k2 l0 l1 t231 (wrap64 (x9_2 - 1))) = some (r1, r2) := H
       have H' := Aside0.mk H
       clear H
       try go_wp2
       replace HB := ak (below_drew1 HB.out)
       have p224 : 0 ≤ (x9_2 : Int) := da
       have q224 : x9_2 < (l1.length : Int) := da
       obtain ⟨ad224, e224, hx224_0⟩ := Kd.at_int HR1.out x9_2 p224 q224
       have hw224_0 := hx224_0
       cases e224
       replace hx224_0 := (HB.out.cell (World.block_lt_of_cell? w _ hx224_0)).trans hx224_0
       replace p224 := eq_true p224; replace q224 := eq_true q224
       refine start_ (n := 14) (S := fun w' => w'.cell? (ad224.add (x9_2).toNat) = some (.int .i64 (rd l1 x9_2))) (ds := []) (bl 14 0) (by kernel_rfl) rfl rfl (((HB.out.cell (World.block_lt_of_cell? w _ hw224_0)).trans hw224_0)) (fun hHeld => ?_); refine with_tabW spec_BuildOnion.tab8 spec_BuildOnion.bits8 (fun HT_ HW_ => ?_)
       generalize wr.drew = w35 at HB hx224_0 hHeld ⊢
       refine pureA 0 (some 50) 14 1 HT_ ?_
       refine pureA 1 (some 51) 14 3 HT_ ?_
       refine pureA 2 (some 52) 14 7 HT_ ?_
       refine pureA 5 (some 55) 14 39 HT_ ?_
       refine pureA 6 (some 56) 14 103 HT_ ?_
       refine pureA 11 (some 61) 14 2151 HT_ ?_
       refine takeA 3 (some 53) 14 2159 HT_ HW_ hHeld ?_ (hy := by intro w' s0; go_simp; with_reducible rfl)
       refine pureA 4 (some 54) 14 2175 HT_ ?_
       refine oneA 7 (some 57) 14 2303 HT_ (fun K hK => ?_)
       refine goes_ Tryz.func112 (by kernel_rfl) rfl #[.string ((x8_2.extract 0 22).extract 0 16)] (by rfl) rfl rfl (by (try simp only [List.map_toArray, List.map_cons, List.map_nil]); first | done | rfl | (simp only [List.length_drop, List.length_take]; rfl)) ?_
       with_reducible refine (spec_l7Check.calls k2 ((x8_2.extract 0 22).extract 0 16) t225 _ A30.out).mono ?_
       rintro e w' ⟨rfl, ⟨nd, rfl⟩⟩
       refine ⟨_, rfl, ?_⟩
       refine hK.out _ _ (((HB.out.cell (World.block_lt_of_cell? w _ hw224_0)).trans hw224_0)) (fun hHeld => ?_)
       clear hK K
       refine norm_ (a' := ?_) ?_ ?_
       rotate_left
       ·show Act.put _ (some 57) _ = _
        simp only [Act.put, List.setIfInBounds_toArray, List.set_cons_zero, List.set_cons_succ, i64_w, i32_w]
        rfl
       refine pureA 8 (some 58) 14 2559 HT_ ?_
       refine oneA 9 (some 59) 14 3071 HT_ (fun K hK => ?_)
       refine Kd.R_lit_step (Kd.int .u8) _ 5 ?hg (N := 59) ?hd (xs := ([(rd l1 x9_2) % 256, (t225) % 256] : List Int)) (inner := [.int .u8 ((rd l1 x9_2) % 256), .int .u8 ((t225) % 256)]) (ok := fun _ => True) (okp := fun _ => True) ?hr ?hp (fun _ hk => hk) trivial (Below.refl _ _) (Nat.le_refl _) (by simp) ?_; (case hd => rfl); (case hg => rfl); (case hr => first | (go_simp; done) | (go_simp; rfl)); (case hp => exact (Reps.one (show Kd.M (Kd.int .u8) _ _ _ ((rd l1 x9_2) % 256) [.int .u8 ((rd l1 x9_2) % 256)] from rfl) (Reps.one (show Kd.M (Kd.int .u8) _ _ _ ((t225) % 256) [.int .u8 ((t225) % 256)] from rfl) (Reps.none _ _))))
       intro v227 w36 ho37 hb hg_ hnew_
       clear hg_ hnew_
       (first | rw [← Ny226.out] at ho37 | (simp only [Int.reduceToNat] at ho37; rw [← Ny226.out] at ho37))
       have HO228 := ak (Kd.R_lower ho37 (below_size (belowd HB)))
       replace HB := ak (below_step (belowd HB) hb)
       clear hb ho37
       refine hK.out _ _ (((HB.out.cell (World.block_lt_of_cell? w _ hw224_0)).trans hw224_0)) (fun hHeld => ?_)
       clear hK K
       refine norm_ (a' := ?_) ?_ ?_
       rotate_left
       ·show Act.put _ (some 59) _ = _
        simp only [Act.put, List.setIfInBounds_toArray, List.set_cons_zero, List.set_cons_succ, i64_w, i32_w]
        rfl
       refine oneA 10 (some 60) 14 4095 HT_ (fun K hK => ?_)
       have hcv38 := own_string (P := Tryz.prog) Tryz.underlying56 Tryz.underlying5 Tryz.underlying9 (Kd.own_of_R HO228.out)
       refine value_ (w1 := ?_) (v := ?_) (by rfl) rfl ?_ ?_
       rotate_left 2
       ·go_simp
        constructor
        ·rfl
        ·rfl
       clear hcv38
       refine hK.out _ _ (((HB.out.cell (World.block_lt_of_cell? w _ hw224_0)).trans hw224_0)) (fun hHeld => ?_)
       clear hK K
       refine norm_ (a' := ?_) ?_ ?_
       rotate_left
       ·show Act.put _ (some 60) _ = _
        simp only [Act.put, List.setIfInBounds_toArray, List.set_cons_zero, List.set_cons_succ, i64_w, i32_w]
        rfl
       refine pureA 12 (some 62) 14 8191 HT_ ?_
       refine pureA 13 (some 8) 14 16383 HT_ ?_
       refine done_ (done_of HT_.out (by kernel_rfl)) ?_
       have p229 : 0 ≤ (x9_2 : Int) := da
       have q229 : x9_2 < (l0.length : Int) := da
       obtain ⟨ad229, e229, hx229_0⟩ := Kd.at_int HR0.out x9_2 p229 q229
       cases e229
       replace hx229_0 := (HB.out.cell (World.block_lt_of_cell? w _ hx229_0)).trans hx229_0
       replace p229 := eq_true p229; replace q229 := eq_true q229
       try go_wp2_with (first | ((with_reducible refine gate_callee (f := 111) rfl ?_); refine goesLa (some 68) rfl Tryz.func111 #[.int .i64 (rd l0 x9_2), .int .i64 24] rfl ?_; (with_reducible refine (spec_l7Pad.calls k2 (rd l0 x9_2) 24 t230 _ A33.out).mono ?_); rintro e w39 ⟨rfl, hb⟩; refine ⟨_, rfl, ?_⟩; replace HO228 := ak (Kd.R_below (rdl HO228) hb); replace HB := ak (below_step (belowd HB) hb); (try clear hb)) | ((with_reducible refine gate_callee (f := 110) rfl ?_); refine goesLa (some 69) rfl Tryz.func110 #[.string ((strOfNums y226) ++ (x8_2.extract 0 22)), .string t230] rfl ?_; (with_reducible refine (spec_l7Xor.calls k2 ((strOfNums y226) ++ (x8_2.extract 0 22)) t230 t231 _ A34.out).mono ?_); rintro e w40 ⟨rfl, hb⟩; refine ⟨_, rfl, ?_⟩; replace HO228 := ak (Kd.R_below (rdl HO228) hb); replace HB := ak (below_step (belowd HB) hb); (try clear hb)))
       go_roundg k2
       case measure => have := HJ3.out; have := HK2.out; omega
       case rel => exact ⟨(t231), (wrap64 (x9_2 - 1)), er, er, H', ⟨by have := HJ3.out; have := HK2.out; omega⟩, ⟨belowd HB⟩⟩
      ·rw [if_neg c23] at H
       have c23b0 : decide (0 ≤ x9_2) = false := decide_eq_false c23
       clear c23
       simp only [Option.some.injEq, Prod.mk.injEq] at H
       obtain ⟨rfl, rfl⟩ := H; go_wp2
       go_ret2
       exact ⟨er2, belowd HB⟩

/-! ### spec_l17Say: function 96 -/
def spec_l17Say.g (k : Nat) (n : Nt) (u : Int) (t : ByteArray) (H : List Int) : Option (Nt × Bool) := (if 0 ≤ wrap64 ((H.length : Int) - 1) ∧ wrap64 ((H.length : Int) - 1) < (H.length : Int) then (spec_BuildOnion.f k n.ks (H.set (wrap64 ((H.length : Int) - 1)).toNat (wrap64 (u + 2))) (strOfNums [wrap64 (n.sd + 1) % 256] ++ t)).bind fun (s, o) => if o = true then (spec_l17Come.f k ⟨n.ks, n.ps, n.ss, n.ib, wrap64 (n.sd + 1)⟩ 0 s).bind fun m => some (m, true) else none else none)
def spec_l17Say.f (k : Nat) (n : Nt) (u : Int) (t : ByteArray) : Option (Nt × Bool) := (spec_l1In.f u 0 3).bind fun c => if c = false then some (n, false) else if 14 < (t.size : Int) then some (n, false) else if n.sd = 60 then some (n, false) else if n.ks.length ≤ 1048576 then spec_l17Say.g k n u t (List.replicate n.ks.length 1) else none
set_option maxHeartbeats 16000000 in
set_option maxRecDepth 100000 in
theorem spec_l17Say.calls {k : Nat} {v0 v1 v2 v3 : Value} {n m : Nt} {u : Int} {t : ByteArray} {r : Bool} {L : List SA} {w0 w : World} (hs : Sep w0 w (netA v0 v1 v2 v3 n ++ L)) (h : spec_l17Say.f k n u t = some (m, r)) :
    Calls Tryz.prog 96 #[.agg #[v0, v1, v2, v3, .int .i64 n.sd], .int .i64 u, .string t] w fun e w' => e = .returned (.tuple #[.agg #[v0, v1, v2, v3, .int .i64 m.sd], .bool r]) ∧ Sep w0 w' (netA v0 v1 v2 v3 m ++ L) := by
 have hu27 := Tryz.underlying27
 obtain ⟨ks, ps, ss, ib, sd⟩ := n
 have HS : Sep w0 w (rA KI 3 v0 ks :: sA KT 62 v1 ps :: sA KT 62 v2 ss :: sA KT 62 v3 ib :: L) := hs
 clear hs
 unfold spec_l17Say.f at h
 dsimp only at h ⊢
 obtain ⟨A0, c0, rfl⟩ := HS.slR 0
 obtain ⟨A1, c1, rfl⟩ := HS.slS 1
 obtain ⟨A2, c2, rfl⟩ := HS.slS 2
 obtain ⟨A3, c3, rfl⟩ := HS.slS 3
 replace h := bS h; obtain ⟨c, T1, h⟩ := h
 cases c with
 | false =>
  rw [if_pos rfl] at h
  skip
  obtain ⟨rfl, rfl⟩ := (Prod.mk.injEq _ _ _ _).mp (Option.some.inj h)
  clear h
  go_enter Tryz.func96, Tryz.ntmps96
  go_wp2_with (first | ((with_reducible refine gate_dst (N := 3) rfl ?_); refine boxev 3 #[.slice A0 ks.length c0, .slice A1 ps.length c1, .slice A2 ss.length c2, .slice A3 ib.length c3, .int .i64 sd] 27 ?_; intro b3 hg_ W_ ho_ hb_; replace HS := HS.box hg_ ho_ hb_; clear hg_ ho_ hb_; obtain ⟨z30, z31, z32, z33, z34, f30, f31, f32, f33, f34⟩ := box5 (HS.blk 0)) | ((with_reducible refine gate_dst (N := 6) rfl ?_); refine boxev 6 #[.slice none 0 0, .slice none 0 0, .slice none 0 0, .slice none 0 0, .int .i64 0] 27 ?_; intro b6 hg_ W_ ho_ hb_; replace HS := HS.box hg_ ho_ hb_; clear hg_ ho_ hb_; clear z30 z31 z32 z33 z34 f30 f31 f32 f33 f34; obtain ⟨z60, z61, z62, z63, z64, f60, f61, f62, f63, f64⟩ := box5 (HS.blk 0); clear z60 z61 z62 z63 z64 f60 f61 f62 f63 f64; obtain ⟨z60, z61, z62, z63, z64, f60, f61, f62, f63, f64⟩ := box5 (HS.blk 0); obtain ⟨z30, z31, z32, z33, z34, f30, f31, f32, f33, f34⟩ := box5 (HS.blk 1)) | (go_at_call 79; refine (spec_l1In.calls _ _ _ _ _ T1.out).mono ?_; rintro e W_ ⟨rfl, nd_, rfl⟩; replace HS := HS.drewN nd_; generalize World.drewN _ nd_ = W_ at HS ⊢; clear z60 z61 z62 z63 z64 f60 f61 f62 f63 f64 z30 z31 z32 z33 z34 f30 f31 f32 f33 f34; obtain ⟨z60, z61, z62, z63, z64, f60, f61, f62, f63, f64⟩ := box5 (HS.blk 0); obtain ⟨z30, z31, z32, z33, z34, f30, f31, f32, f33, f34⟩ := box5 (HS.blk 1)))
  have HF := HS.put5I 0 (.slice A0 ks.length c0) (.slice A1 ps.length c1) (.slice A2 ss.length c2) (.slice A3 ib.length c3) (.int .i64 sd)
  refine bodyPost_ret (results_ct rfl _ _ b6 27 #[.slice A0 ks.length c0, .slice A1 ps.length c1, .slice A2 ss.length c2, .slice A3 ib.length c3, .int .i64 sd] (0, 0) _ rfl (by exact (HF.blk 0).out) Tryz.underlying27 rfl (by kernel_rfl)) rfl ?_
  replace HS := HF
  replace HS := HS.tail
  replace HS := HS.tail
  exact ⟨rfl, HS⟩
 | true =>
  rw [if_neg (by decide)] at h
  by_cases c1_ : 14 < (t.size : Int)
  ·rw [if_pos c1_] at h
   have cb1 : decide (14 < (t.size : Int)) = true := decide_eq_true c1_
   clear c1_
   obtain ⟨rfl, rfl⟩ := (Prod.mk.injEq _ _ _ _).mp (Option.some.inj h)
   clear h
   go_enter Tryz.func96, Tryz.ntmps96
   go_wp2_with (first | ((with_reducible refine gate_dst (N := 3) rfl ?_); refine boxev 3 #[.slice A0 ks.length c0, .slice A1 ps.length c1, .slice A2 ss.length c2, .slice A3 ib.length c3, .int .i64 sd] 27 ?_; intro b3 hg_ W_ ho_ hb_; replace HS := HS.box hg_ ho_ hb_; clear hg_ ho_ hb_; obtain ⟨z30, z31, z32, z33, z34, f30, f31, f32, f33, f34⟩ := box5 (HS.blk 0)) | ((with_reducible refine gate_dst (N := 6) rfl ?_); refine boxev 6 #[.slice none 0 0, .slice none 0 0, .slice none 0 0, .slice none 0 0, .int .i64 0] 27 ?_; intro b6 hg_ W_ ho_ hb_; replace HS := HS.box hg_ ho_ hb_; clear hg_ ho_ hb_; clear z30 z31 z32 z33 z34 f30 f31 f32 f33 f34; obtain ⟨z60, z61, z62, z63, z64, f60, f61, f62, f63, f64⟩ := box5 (HS.blk 0); clear z60 z61 z62 z63 z64 f60 f61 f62 f63 f64; obtain ⟨z60, z61, z62, z63, z64, f60, f61, f62, f63, f64⟩ := box5 (HS.blk 0); obtain ⟨z30, z31, z32, z33, z34, f30, f31, f32, f33, f34⟩ := box5 (HS.blk 1)) | (go_at_call 79; refine (spec_l1In.calls _ _ _ _ _ T1.out).mono ?_; rintro e W_ ⟨rfl, nd_, rfl⟩; replace HS := HS.drewN nd_; generalize World.drewN _ nd_ = W_ at HS ⊢; clear z60 z61 z62 z63 z64 f60 f61 f62 f63 f64 z30 z31 z32 z33 z34 f30 f31 f32 f33 f34; obtain ⟨z60, z61, z62, z63, z64, f60, f61, f62, f63, f64⟩ := box5 (HS.blk 0); obtain ⟨z30, z31, z32, z33, z34, f30, f31, f32, f33, f34⟩ := box5 (HS.blk 1)))
   have HF := HS.put5I 0 (.slice A0 ks.length c0) (.slice A1 ps.length c1) (.slice A2 ss.length c2) (.slice A3 ib.length c3) (.int .i64 sd)
   refine bodyPost_ret (results_ct rfl _ _ b6 27 #[.slice A0 ks.length c0, .slice A1 ps.length c1, .slice A2 ss.length c2, .slice A3 ib.length c3, .int .i64 sd] (0, 0) _ rfl (by exact (HF.blk 0).out) Tryz.underlying27 rfl (by kernel_rfl)) rfl ?_
   replace HS := HF
   replace HS := HS.tail
   replace HS := HS.tail
   exact ⟨rfl, HS⟩
  ·rw [if_neg c1_] at h
   have cb1 : decide (14 < (t.size : Int)) = false := decide_eq_false c1_
   have hts : t.size ≤ 14 := by omega
   clear c1_
   by_cases c2_ : sd = 60
   ·rw [if_pos c2_] at h
    have cb2 : (sd == 60) = true := beq_iff_eq.2 c2_
    clear c2_
    obtain ⟨rfl, rfl⟩ := (Prod.mk.injEq _ _ _ _).mp (Option.some.inj h)
    clear h
    go_enter Tryz.func96, Tryz.ntmps96
    go_wp2_with (first | ((with_reducible refine gate_dst (N := 3) rfl ?_); refine boxev 3 #[.slice A0 ks.length c0, .slice A1 ps.length c1, .slice A2 ss.length c2, .slice A3 ib.length c3, .int .i64 sd] 27 ?_; intro b3 hg_ W_ ho_ hb_; replace HS := HS.box hg_ ho_ hb_; clear hg_ ho_ hb_; obtain ⟨z30, z31, z32, z33, z34, f30, f31, f32, f33, f34⟩ := box5 (HS.blk 0)) | ((with_reducible refine gate_dst (N := 6) rfl ?_); refine boxev 6 #[.slice none 0 0, .slice none 0 0, .slice none 0 0, .slice none 0 0, .int .i64 0] 27 ?_; intro b6 hg_ W_ ho_ hb_; replace HS := HS.box hg_ ho_ hb_; clear hg_ ho_ hb_; clear z30 z31 z32 z33 z34 f30 f31 f32 f33 f34; obtain ⟨z60, z61, z62, z63, z64, f60, f61, f62, f63, f64⟩ := box5 (HS.blk 0); clear z60 z61 z62 z63 z64 f60 f61 f62 f63 f64; obtain ⟨z60, z61, z62, z63, z64, f60, f61, f62, f63, f64⟩ := box5 (HS.blk 0); obtain ⟨z30, z31, z32, z33, z34, f30, f31, f32, f33, f34⟩ := box5 (HS.blk 1)) | (go_at_call 79; refine (spec_l1In.calls _ _ _ _ _ T1.out).mono ?_; rintro e W_ ⟨rfl, nd_, rfl⟩; replace HS := HS.drewN nd_; generalize World.drewN _ nd_ = W_ at HS ⊢; clear z60 z61 z62 z63 z64 f60 f61 f62 f63 f64 z30 z31 z32 z33 z34 f30 f31 f32 f33 f34; obtain ⟨z60, z61, z62, z63, z64, f60, f61, f62, f63, f64⟩ := box5 (HS.blk 0); obtain ⟨z30, z31, z32, z33, z34, f30, f31, f32, f33, f34⟩ := box5 (HS.blk 1)))
    have HF := HS.put5I 0 (.slice A0 ks.length c0) (.slice A1 ps.length c1) (.slice A2 ss.length c2) (.slice A3 ib.length c3) (.int .i64 sd)
    refine bodyPost_ret (results_ct rfl _ _ b6 27 #[.slice A0 ks.length c0, .slice A1 ps.length c1, .slice A2 ss.length c2, .slice A3 ib.length c3, .int .i64 sd] (0, 0) _ rfl (by exact (HF.blk 0).out) Tryz.underlying27 rfl (by kernel_rfl)) rfl ?_
    replace HS := HF
    replace HS := HS.tail
    replace HS := HS.tail
    exact ⟨rfl, HS⟩
   ·rw [if_neg c2_] at h
    have cb2 : (sd == 60) = false := beq_eq_false_iff_ne.2 c2_
    clear c2_
    replace h := ifS h; obtain ⟨hkl, h⟩ := h
    have KL := ak hkl; clear hkl
    have H' := ak h; clear h
    go_enter Tryz.func96, Tryz.ntmps96
    go_upto_region 5 with (first | ((with_reducible refine gate_dst (N := 3) rfl ?_); refine boxev 3 #[.slice A0 ks.length c0, .slice A1 ps.length c1, .slice A2 ss.length c2, .slice A3 ib.length c3, .int .i64 sd] 27 ?_; intro b3 hg_ W_ ho_ hb_; replace HS := HS.box hg_ ho_ hb_; clear hg_ ho_ hb_; obtain ⟨z30, z31, z32, z33, z34, f30, f31, f32, f33, f34⟩ := box5 (HS.blk 0)) | ((with_reducible refine gate_dst (N := 6) rfl ?_); refine boxev 6 #[.slice none 0 0, .slice none 0 0, .slice none 0 0, .slice none 0 0, .int .i64 0] 27 ?_; intro b6 hg_ W_ ho_ hb_; replace HS := HS.box hg_ ho_ hb_; clear hg_ ho_ hb_; clear z30 z31 z32 z33 z34 f30 f31 f32 f33 f34; obtain ⟨z60, z61, z62, z63, z64, f60, f61, f62, f63, f64⟩ := box5 (HS.blk 0); clear z60 z61 z62 z63 z64 f60 f61 f62 f63 f64; obtain ⟨z60, z61, z62, z63, z64, f60, f61, f62, f63, f64⟩ := box5 (HS.blk 0); obtain ⟨z30, z31, z32, z33, z34, f30, f31, f32, f33, f34⟩ := box5 (HS.blk 1)) | (go_at_call 79; refine (spec_l1In.calls _ _ _ _ _ T1.out).mono ?_; rintro e W_ ⟨rfl, nd_, rfl⟩; replace HS := HS.drewN nd_; generalize World.drewN _ nd_ = W_ at HS ⊢; clear z60 z61 z62 z63 z64 f60 f61 f62 f63 f64 z30 z31 z32 z33 z34 f30 f31 f32 f33 f34; obtain ⟨z60, z61, z62, z63, z64, f60, f61, f62, f63, f64⟩ := box5 (HS.blk 0); obtain ⟨z30, z31, z32, z33, z34, f30, f31, f32, f33, f34⟩ := box5 (HS.blk 1)))
    clear z60 z61 z62 z63 z64 f60 f61 f62 f63 f64 z30 z31 z32 z33 z34 f30 f31 f32 f33 f34
    replace HS := HS.nilrow KI 3
    go_loopg [8, 28] ks.length (fun kq v8 v28 w' => ∃ (j : Nat) (H : List Int), v28 = .int .i64 (j : Int) ∧ H = List.replicate j 1 ∧ j ≤ ks.length ∧ ks.length - j ≤ kq ∧ Sep w0 w' (rA KI 3 v8 H :: bA b3 #[.slice A0 ks.length c0, .slice A1 ps.length c1, .slice A2 ss.length c2, .slice A3 ib.length c3, .int .i64 sd] 27 :: bA b6 #[.slice none 0 0, .slice none 0 0, .slice none 0 0, .slice none 0 0, .int .i64 0] 27 :: rA KI 3 (.slice A0 ks.length c0) ks :: sA KT 62 (.slice A1 ps.length c1) ps :: sA KT 62 (.slice A2 ss.length c2) ss :: sA KT 62 (.slice A3 ib.length c3) ib :: L))
    case atStart => exact ⟨0, [], rfl, rfl, Nat.zero_le _, Nat.le_refl _, HS.fr6.fr6.fr6.fr6.fr5.fr6.fr6⟩
    case round =>
     clear HS
     obtain ⟨j, H, rfl, hHj, j1, j2, HS⟩ := hrel
     by_cases hj : j < ks.length
     ·have hjb : decide ((j : Int) < (ks.length : Int)) = true := decide_eq_true (by omega)
      obtain ⟨A8, c8, rfl⟩ := HS.slR 0
      go_wp2_with (first | ((with_reducible refine gate_dst (N := 31) rfl ?_); refine Kd.R_lit KI _ 3 ?hg (N := 31) ?hd (xs := ([1] : List Int)) (inner := [.int .i64 1]) (ok := fun _ => True) (okp := fun _ => True) ?hr ?hp (fun _ hk => hk) trivial (Below.refl _ _) (Nat.le_refl _) (by simp) ?_; (case hd => rfl); (case hg => rfl); (case hr => first | (go_simp; done) | (go_simp; rfl)); (case hp => exact (Reps.one (show Kd.M KI _ _ _ 1 [.int .i64 1] from rfl) (Reps.none _ _))); intro vone W_ ho_ hb_ _ _; replace HS := HS.new (A := rA KI 3 vone ([1])) hb_ ho_; clear ho_ hb_; obtain ⟨A9, c9, rfl⟩ := HS.slR 0) | ((with_reducible refine gate_builtin (b := .append) (xs := #[.tmp 30, .tmp 31]) rfl ?_); at_builtin; have HU := (HS.rdR 0).2.2; replace HS := HS.fr1; refine Sep.appendW KI rfl (.tmp 30) (.tmp 31) 22 3 (.int .i64 0) 8 rfl Tryz.underlying22 info3 rfl (by decide) (by omega) (.slice A8 H.length c8) H [1] A9 1 c9 rfl rfl HS HU (fun _ _ _ _ h => h) (nw_hops hHj j1 KL.out) ?_; clear HS HU; intro v8' W_ HS))
      replace HS := HS.fr1.tail
      go_roundg (ks.length - (j + 1))
      case measure => omega
      case rel => exact ⟨j + 1, _, nw_next hj KL.out, (by rw [hHj, List.replicate_succ']), hj, Nat.le_refl _, HS⟩
     ·obtain rfl : j = ks.length := by omega
      have hjb : decide ((ks.length : Int) < (ks.length : Int)) = false := decide_eq_false (by omega)
      have h := H'.out; clear H'
      rw [← hHj] at h
      clear hHj j1 j2 hj KL
      unfold spec_l17Say.g at h
      dsimp only at h
      replace h := ifS h; obtain ⟨⟨hi0, hi1⟩, h⟩ := h
      obtain ⟨gH, qH, rfl⟩ := HS.addrR 0 (hx := by omega)
      obtain ⟨hHc, hHf⟩ := HS.rfree 0 (wrap64 ((H.length : Int) - 1)) hi0 hi1
      generalize hi_ : wrap64 ((H.length : Int) - 1) = i at h hi0 hi1 hHc hHf
      have pi0 : (0 ≤ i) = True := eq_true hi0
      have pi1 : (i < (H.length : Int)) = True := eq_true hi1
      go_upto_region 9 with fail
      clear hHc hHf pi0 pi1
      replace HS := HS.rput i (wrap64 (u + 2))
      obtain ⟨W5_, e5_, H5_⟩ := HS.gen
      rw [e5_]
      clear HS e5_
      have HS := H5_
      clear H5_
      generalize hG : H.set i.toNat (wrap64 (u + 2)) = G at HS h
      have hGl : G.length = H.length := by rw [← hG, List.length_set]
      rw [← hGl] at HS
      simp only [← hGl]
      clear hi_ hi0 hi1 hG hGl
      obtain ⟨B, hB⟩ : ∃ B, strOfNums [wrap64 (sd + 1) % 256] = B := ⟨_, rfl⟩
      rw [hB] at h
      have hBs : B.size = 1 := by rw [← hB]; rfl
      have hs1 : decide (B.size + t.size ≤ 9223372036854775807) = true := decide_eq_true (by omega)
      have hs2 : (9223372036854775807 < B.size + t.size) = False := eq_false (by omega)
      clear hBs
      obtain ⟨z30, z31, z32, z33, z34, f30, f31, f32, f33, f34⟩ := box5 (HS.blk 1)
      go_upto_region 10 with fail
      clear z30 z31 z32 z33 z34 f30 f31 f32 f33 f34
      obtain ⟨W5_, e5_, H5_⟩ := (HS.putI 1 4 (.int .i64 (wrap64 (sd + 1))) #[.slice A0 ks.length c0, .slice A1 ps.length c1, .slice A2 ss.length c2, .slice A3 ib.length c3, .int .i64 (wrap64 (sd + 1))]).gen
      rw [e5_]
      clear HS e5_
      have HS := H5_
      clear H5_
      replace h := bS h; obtain ⟨⟨s, o⟩, T2, h⟩ := h
      replace h := ifS h; obtain ⟨rfl, h⟩ := h
      replace h := bS h; obtain ⟨⟨ks1, ps1, ss1, ib1, sd1⟩, T3, h⟩ := h
      obtain ⟨e1, e2, e3⟩ := spec_l17Come.keeps T3.out
      dsimp only at e1 e2 e3
      replace e1 := e1.symm; replace e2 := e2.symm; replace e3 := e3.symm
      subst e1 e2 e3
      obtain ⟨rfl, rfl⟩ := (Prod.mk.injEq _ _ _ _).mp (Option.some.inj h)
      clear h
      obtain ⟨z60, z61, z62, z63, z64, f60, f61, f62, f63, f64⟩ := box5 (HS.blk 2)
      obtain ⟨z30, z31, z32, z33, z34, f30, f31, f32, f33, f34⟩ := box5 (HS.blk 1)
      go_wp2_with (first | ((with_reducible refine gate_dst (N := 52) rfl ?_); refine Kd.R_lit (Kd.int .u8) _ 5 ?hg (N := 52) ?hd (xs := ([wrap64 (sd + 1) % 256] : List Int)) (inner := [.int .u8 (wrap64 (sd + 1) % 256)]) (ok := fun _ => True) (okp := fun _ => True) ?hr ?hp (fun _ hk => hk) trivial (Below.refl _ _) (Nat.le_refl _) (by simp) ?_; (case hd => rfl); (case hg => rfl); (case hr => first | (go_simp; done) | (go_simp; rfl)); (case hp => exact (Reps.one (show Kd.M (Kd.int .u8) _ _ _ (wrap64 (sd + 1) % 256) [.int .u8 (wrap64 (sd + 1) % 256)] from rfl) (Reps.none _ _))); intro vby W_ ho_ hb_ _ _; replace HS := HS.new (A := rA (Kd.int .u8) 5 vby ([wrap64 (sd + 1) % 256])) hb_ ho_; clear ho_ hb_; have hcv := HS.text 0 (P := Tryz.prog) Tryz.underlying56 Tryz.underlying5 Tryz.underlying9; rw [hB] at hcv; clear z60 z61 z62 z63 z64 f60 f61 f62 f63 f64 z30 z31 z32 z33 z34 f30 f31 f32 f33 f34; obtain ⟨z60, z61, z62, z63, z64, f60, f61, f62, f63, f64⟩ := box5 (HS.blk 3); obtain ⟨z30, z31, z32, z33, z34, f30, f31, f32, f33, f34⟩ := box5 (HS.blk 2)) | (go_at_call 116; have HC_ := spec_BuildOnion.calls k _ _ ks _ _ G (B ++ t) s true _ (HS.rdR 4).2.2 (HS.rdR 4).2.1 (HS.rdR 1).2.2 (HS.rdR 1).2.1 T2.out; refine HC_.mono ?_; clear HC_; rintro e W_ ⟨rfl, hb_⟩; replace HS := HS.below hb_; clear hb_ hcv; clear z60 z61 z62 z63 z64 f60 f61 f62 f63 f64 z30 z31 z32 z33 z34 f30 f31 f32 f33 f34; obtain ⟨z60, z61, z62, z63, z64, f60, f61, f62, f63, f64⟩ := box5 (HS.blk 3); obtain ⟨z30, z31, z32, z33, z34, f30, f31, f32, f33, f34⟩ := box5 (HS.blk 2)) | (go_at_call 89; have HC_ := spec_l17Come.calls (n := ⟨ks, ps, ss, ib, wrap64 (sd + 1)⟩) (HS.fr7.fr7.fr7.fr7) T3.out; refine HC_.mono ?_; clear HC_; rintro e W_ ⟨rfl, HS'_⟩; clear HS; have HS := HS'_; clear HS'_; dsimp only [netA, List.cons_append, List.nil_append] at HS; clear z60 z61 z62 z63 z64 f60 f61 f62 f63 f64 z30 z31 z32 z33 z34 f30 f31 f32 f33 f34; obtain ⟨z60, z61, z62, z63, z64, f60, f61, f62, f63, f64⟩ := box5 (HS.blk 7); obtain ⟨z30, z31, z32, z33, z34, f30, f31, f32, f33, f34⟩ := box5 (HS.blk 6)))
      have HF := HS.put5I 7 (.slice A0 ks.length c0) (.slice A1 ps.length c1) (.slice A2 ss.length c2) (.slice A3 ib.length c3) (.int .i64 (wrap64 (sd + 1)))
      refine bodyPost_ret (results_ct rfl _ _ b6 27 #[.slice A0 ks.length c0, .slice A1 ps.length c1, .slice A2 ss.length c2, .slice A3 ib.length c3, .int .i64 (wrap64 (sd + 1))] (0, 0) _ rfl (by exact (HF.blk 7).out) Tryz.underlying27 rfl (by kernel_rfl)) rfl ?_
      replace HS := HF
      replace HS := HS.fr4.tail
      replace HS := HS.fr4.tail
      replace HS := HS.fr4.tail
      replace HS := HS.fr4.tail
      exact ⟨rfl, HS⟩

end Go.Proofs.YtihekdlcfohkkaaGreatDoor.QFnExactPlayNet
