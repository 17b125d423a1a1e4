-- printed by this session's own program (wip/tools/pp.py: the kit's print.py with changes); Lean checks it
import Derived.Test.YtkgogglnipdcfaaQFnExactTallyOfx0
import Derived.Test.YtkgogglnipdcfaaQFnExactTallyOfx3
import Derived.Test.YtkgogglnipdcfaaQFnExactTallyOfx4
import Derived.Test.YtkgogglnipdcfaaQFnExactTallyOfx5
namespace Go.Proofs.Ytkgogglnipdcfaa.QFnExactTallyOf
open Go.RowKit Go.Proofs.YtkgogglnipdcfaaW.PrintWords Go.Proofs.YtkgogglnipdcfaaW.PrintLast Go.Proofs.YtkgogglnipdcfaaW.PrintMore
attribute [local go_sem] max2_int min2_int max_two min_two max_three min_three max_four min_four strLss strGtr strLeq strGeq   -- for this text's walks alone
set_option linter.unusedVariables false
set_option linter.unusedSimpArgs false

/-! ### spec_TallyOf: function 69 -/
mutual
def spec_TallyOf.j0 : Nat → Int → Int → List (S85) → List (S91) → Bool → Option ((List (S110)) × Bool)
  | 0, _, _, _, _, _ => none
  | k + 1, x0, x1, x2, x3, x35 => if x35 = true then (some (([] : List (S110)), false)) else (spec_TallyOf.l0 k x0 x1 x2 x3 x2 (x2.length : Int) 0)
def spec_TallyOf.l0 : Nat → Int → Int → List (S85) → List (S91) → List (S85) → Int → Int → Option ((List (S110)) × Bool)
  | 0, _, _, _, _, _, _, _ => none
  | k + 1, x0, x1, x2, x3, x36, x37, x38 => if x38 < x37 then (if 0 ≤ x38 then (if x38 < (x36.length : Int) then ((spec_GoodClaim.f ((rd_T85 x36 x38).f0) ((rd_T85 x36 x38).f1) ((rd_T85 x36 x38).f2)).bind fun t220 => (if t220 = true then (spec_TallyOf.l0 k x0 x1 x2 x3 x36 x37 (wrap64 (x38 + 1))) else (some (([] : List (S110)), false)))) else (none)) else (none)) else (spec_TallyOf.l1 k x0 x1 x2 x3 ([] : List (S110)) 0)
def spec_TallyOf.l1 : Nat → Int → Int → List (S85) → List (S91) → List (S110) → Int → Option ((List (S110)) × Bool)
  | 0, _, _, _, _, _, _ => none
  | k + 1, x0, x1, x2, x3, x12, x13 => if x13 < x0 then ((spec_l14Debits.f k x1 x3 x13).bind fun t221 => (spec_TallyOf.l2 k x0 x1 x2 x3 x12 x13 t221 x2 (x2.length : Int) 0 x13 0 (t221.length : Int))) else (some (x12, true))
def spec_TallyOf.l2 : Nat → Int → Int → List (S85) → List (S91) → List (S110) → Int → List (S85) → List (S85) → Int → Int → Int → Int → Int → Option ((List (S110)) × Bool)
  | 0, _, _, _, _, _, _, _, _, _, _, _, _, _ => none
  | k + 1, x0, x1, x2, x3, x12, x13, x14, x59, x60, x61, x225000, x225001, x225002 => if x61 < x60 then (if 0 ≤ x61 then (if x61 < (x59.length : Int) then (if ((rd_T85 x59 x61).f0) = x13 then (if x61 ≤ (x2.length : Int) then ((spec_l14HasClaim.f k (x2.take (x61 : Int).toNat) ((rd_T85 x59 x61).f0) ((rd_T85 x59 x61).f1) ((rd_T85 x59 x61).f2)).bind fun t234 => (if t234 = true then (spec_TallyOf.l2 k x0 x1 x2 x3 x12 x13 x14 x59 x60 (wrap64 (x61 + 1)) x225000 x225001 x225002) else ((spec_l14HasClaim.f k x14 ((rd_T85 x59 x61).f0) ((rd_T85 x59 x61).f1) ((rd_T85 x59 x61).f2)).bind fun t235 => (if t235 = true then (spec_TallyOf.l2 k x0 x1 x2 x3 x12 x13 x14 x59 x60 (wrap64 (x61 + 1)) x225000 x225001 x225002) else (spec_TallyOf.l2 k x0 x1 x2 x3 x12 x13 x14 x59 x60 (wrap64 (x61 + 1)) x225000 (wrap64 (x225001 + 1)) x225002))))) else (none)) else (spec_TallyOf.l2 k x0 x1 x2 x3 x12 x13 x14 x59 x60 (wrap64 (x61 + 1)) x225000 x225001 x225002)) else (none)) else (none)) else (if x12.length < 5864062014805 then (spec_TallyOf.l1 k x0 x1 x2 x3 (x12 ++ [(⟨x225000, x225001, x225002⟩ : S110)]) (wrap64 (x13 + 1))) else (none))
end
def spec_TallyOf.f (k : Nat) (a0 : Int) (a1 : Int) (l2 : List (S85)) (l3 : List (S91)) : Option ((List (S110)) × Bool) := (spec_l1In.f a0 1 12).bind fun t215 => (if t215 = true then ((spec_l1In.f a1 0 2).bind fun t216 => (if t216 = true then (if (l2.length : Int) > 60 then (spec_TallyOf.j0 k a0 a1 l2 l3 true) else ((spec_l12Good.f k l3).bind fun t217 => (spec_TallyOf.j0 k a0 a1 l2 l3 (!t217)))) else (spec_TallyOf.j0 k a0 a1 l2 l3 true))) else (spec_TallyOf.j0 k a0 a1 l2 l3 true))
theorem spec_TallyOf.mono_l : ∀ k, (∀ y0 y1 y2 y3 y4, LeO (spec_TallyOf.j0 k y0 y1 y2 y3 y4) (spec_TallyOf.j0 (k + 1) y0 y1 y2 y3 y4)) ∧ (∀ y0 y1 y2 y3 y4 y5 y6, LeO (spec_TallyOf.l0 k y0 y1 y2 y3 y4 y5 y6) (spec_TallyOf.l0 (k + 1) y0 y1 y2 y3 y4 y5 y6)) ∧ (∀ y0 y1 y2 y3 y4 y5, LeO (spec_TallyOf.l1 k y0 y1 y2 y3 y4 y5) (spec_TallyOf.l1 (k + 1) y0 y1 y2 y3 y4 y5)) ∧ (∀ y0 y1 y2 y3 y4 y5 y6 y7 y8 y9 y10 y11 y12, LeO (spec_TallyOf.l2 k y0 y1 y2 y3 y4 y5 y6 y7 y8 y9 y10 y11 y12) (spec_TallyOf.l2 (k + 1) y0 y1 y2 y3 y4 y5 y6 y7 y8 y9 y10 y11 y12))
 | 0 => ⟨fun _ _ _ _ _ r h => by simp [spec_TallyOf.j0] at h, fun _ _ _ _ _ _ _ r h => by simp [spec_TallyOf.l0] at h, fun _ _ _ _ _ _ r h => by simp [spec_TallyOf.l1] at h, fun _ _ _ _ _ _ _ _ _ _ _ _ _ r h => by simp [spec_TallyOf.l2] at h⟩
 | k + 1 => by
  obtain ⟨ih0, ih1, ih2, ih3⟩ := spec_TallyOf.mono_l k
  refine ⟨?_, ?_, ?_, ?_⟩
  ·intro y0 y1 y2 y3 y4
   unfold spec_TallyOf.j0
   repeat' (first | (with_reducible first | exact ih0 _ _ _ _ _ | exact ih1 _ _ _ _ _ _ _ | exact ih2 _ _ _ _ _ _ | exact ih3 _ _ _ _ _ _ _ _ _ _ _ _ _ | exact spec_l12Good.mono _ _ | exact spec_l14Debits.mono _ _ _ _ | exact spec_l14HasClaim.mono _ _ _ _ _ | exact LeO.refl _ | exact LeO.none _ | refine LeO.ite ?_ ?_ | refine LeO.bind ?_ (fun _ => ?_)) | exact ih0 _ _ _ _ _ | exact ih1 _ _ _ _ _ _ _ | exact ih2 _ _ _ _ _ _ | exact ih3 _ _ _ _ _ _ _ _ _ _ _ _ _ | exact spec_l12Good.mono _ _ | exact spec_l14Debits.mono _ _ _ _ | exact spec_l14HasClaim.mono _ _ _ _ _ | exact LeO.none _ | refine LeO.ite ?_ ?_ | refine LeO.bind ?_ (fun _ => ?_))
  ·intro y0 y1 y2 y3 y4 y5 y6
   unfold spec_TallyOf.l0
   repeat' (first | (with_reducible first | exact ih0 _ _ _ _ _ | exact ih1 _ _ _ _ _ _ _ | exact ih2 _ _ _ _ _ _ | exact ih3 _ _ _ _ _ _ _ _ _ _ _ _ _ | exact spec_l12Good.mono _ _ | exact spec_l14Debits.mono _ _ _ _ | exact spec_l14HasClaim.mono _ _ _ _ _ | exact LeO.refl _ | exact LeO.none _ | refine LeO.ite ?_ ?_ | refine LeO.bind ?_ (fun _ => ?_)) | exact ih0 _ _ _ _ _ | exact ih1 _ _ _ _ _ _ _ | exact ih2 _ _ _ _ _ _ | exact ih3 _ _ _ _ _ _ _ _ _ _ _ _ _ | exact spec_l12Good.mono _ _ | exact spec_l14Debits.mono _ _ _ _ | exact spec_l14HasClaim.mono _ _ _ _ _ | exact LeO.none _ | refine LeO.ite ?_ ?_ | refine LeO.bind ?_ (fun _ => ?_))
  ·intro y0 y1 y2 y3 y4 y5
   unfold spec_TallyOf.l1
   repeat' (first | (with_reducible first | exact ih0 _ _ _ _ _ | exact ih1 _ _ _ _ _ _ _ | exact ih2 _ _ _ _ _ _ | exact ih3 _ _ _ _ _ _ _ _ _ _ _ _ _ | exact spec_l12Good.mono _ _ | exact spec_l14Debits.mono _ _ _ _ | exact spec_l14HasClaim.mono _ _ _ _ _ | exact LeO.refl _ | exact LeO.none _ | refine LeO.ite ?_ ?_ | refine LeO.bind ?_ (fun _ => ?_)) | exact ih0 _ _ _ _ _ | exact ih1 _ _ _ _ _ _ _ | exact ih2 _ _ _ _ _ _ | exact ih3 _ _ _ _ _ _ _ _ _ _ _ _ _ | exact spec_l12Good.mono _ _ | exact spec_l14Debits.mono _ _ _ _ | exact spec_l14HasClaim.mono _ _ _ _ _ | exact LeO.none _ | refine LeO.ite ?_ ?_ | refine LeO.bind ?_ (fun _ => ?_))
  ·intro y0 y1 y2 y3 y4 y5 y6 y7 y8 y9 y10 y11 y12
   unfold spec_TallyOf.l2
   repeat' (first | (with_reducible first | exact ih0 _ _ _ _ _ | exact ih1 _ _ _ _ _ _ _ | exact ih2 _ _ _ _ _ _ | exact ih3 _ _ _ _ _ _ _ _ _ _ _ _ _ | exact spec_l12Good.mono _ _ | exact spec_l14Debits.mono _ _ _ _ | exact spec_l14HasClaim.mono _ _ _ _ _ | exact LeO.refl _ | exact LeO.none _ | refine LeO.ite ?_ ?_ | refine LeO.bind ?_ (fun _ => ?_)) | exact ih0 _ _ _ _ _ | exact ih1 _ _ _ _ _ _ _ | exact ih2 _ _ _ _ _ _ | exact ih3 _ _ _ _ _ _ _ _ _ _ _ _ _ | exact spec_l12Good.mono _ _ | exact spec_l14Debits.mono _ _ _ _ | exact spec_l14HasClaim.mono _ _ _ _ _ | exact LeO.none _ | refine LeO.ite ?_ ?_ | refine LeO.bind ?_ (fun _ => ?_))
theorem spec_TallyOf.mono : ∀ a0 a1 a2 a3 k, LeO (spec_TallyOf.f k a0 a1 a2 a3) (spec_TallyOf.f (k + 1) a0 a1 a2 a3) := by
 intro a0 a1 a2 a3 k
 obtain ⟨ih0, ih1, ih2, ih3⟩ := spec_TallyOf.mono_l k
 unfold spec_TallyOf.f
 repeat' (first | (with_reducible first | exact ih0 _ _ _ _ _ | exact ih1 _ _ _ _ _ _ _ | exact ih2 _ _ _ _ _ _ | exact ih3 _ _ _ _ _ _ _ _ _ _ _ _ _ | exact spec_l12Good.mono _ _ | exact spec_l14Debits.mono _ _ _ _ | exact spec_l14HasClaim.mono _ _ _ _ _ | exact LeO.refl _ | exact LeO.none _ | refine LeO.ite ?_ ?_ | refine LeO.bind ?_ (fun _ => ?_)) | exact ih0 _ _ _ _ _ | exact ih1 _ _ _ _ _ _ _ | exact ih2 _ _ _ _ _ _ | exact ih3 _ _ _ _ _ _ _ _ _ _ _ _ _ | exact spec_l12Good.mono _ _ | exact spec_l14Debits.mono _ _ _ _ | exact spec_l14HasClaim.mono _ _ _ _ _ | exact LeO.none _ | refine LeO.ite ?_ ?_ | refine LeO.bind ?_ (fun _ => ?_))
def spec_TallyOf.T18 : Bool × List (List Nat × List Nat) := (true, [([], []), ([0], [0]), ([], []), ([1, 2], [1, 2]), ([3], [3]), ([4], [4]), ([4], [4]), ([5, 6, 4], [4, 5, 6]), ([4], [4]), ([7, 8, 4, 4], [4, 7, 8]), ([9, 4], [4, 9]), ([4, 10], [4, 10]), ([11, 9], [11]), ([12], [12]), ([12], [12]), ([13, 14, 12, 12], [12, 13, 14]), ([15, 12], [12, 15]), ([12, 16], [12, 16])])
def spec_TallyOf.B18 : List Nat := [0, 1, 0, 7, 15, 31, 31, 127, 31, 511, 1023, 2047, 4095, 8191, 8191, 32767, 65535, 131071]
theorem spec_TallyOf.tab18 : rtab .any (opsOf Try.f69 18) = spec_TallyOf.T18 := by kernel_rfl
theorem spec_TallyOf.bits18 : waitsOk spec_TallyOf.T18.2 spec_TallyOf.B18 = true := by kernel_rfl
set_option maxHeartbeats 8000000 in
set_option maxRecDepth 100000 in
theorem spec_TallyOf.calls (k : Nat) (a0 : Int) (a1 : Int) (A2 : Option Addr) (c2 : Nat) (l2 : List (S85)) (A3 : Option Addr) (c3 : Nat) (l3 : List (S91)) (r1 : List (S110)) (r2 : Bool) (w : World) (hr2 : Kd.C k85 w A2 l2.length l2) (hc2 : l2.length ≤ c2) (hr3 : Kd.C k91 w A3 l3.length l3) (hc3 : l3.length ≤ c3) (h : spec_TallyOf.f k a0 a1 l2 l3 = some (r1, r2)) :
  Calls Try.prog 69 #[.int .i64 a0, .int .i64 a1, .slice A2 l2.length c2, .slice A3 l3.length c3] w fun e w' => ∃ v0_ : Value, e = .returned (.tuple #[v0_, .bool r2]) ∧ Kd.R k110 110 w' w.heap.size (fun _ => True) v0_ r1 ∧ Below w.heap.size w w' := by
 have hu85 := Try.underlying85
 have hu110 := Try.underlying110
 have HR2 := Aside0.mk hr2; have HC2 := Aside0.mk hc2; clear hr2 hc2; have HR3 := Aside0.mk hr3; have HC3 := Aside0.mk hc3; clear hr3 hc3
 have HB := Aside0.mk (Below.refl w.heap.size w)
 have H : ((spec_l1In.f a0 1 12).bind fun t215 => (if t215 = true then ((spec_l1In.f a1 0 2).bind fun t216 => (if t216 = true then (if (l2.length : Int) > 60 then (spec_TallyOf.j0 k a0 a1 l2 l3 true) else ((spec_l12Good.f k l3).bind fun t217 => (spec_TallyOf.j0 k a0 a1 l2 l3 (!t217)))) else (spec_TallyOf.j0 k a0 a1 l2 l3 true))) else (spec_TallyOf.j0 k a0 a1 l2 l3 true))) = some (r1, r2) := h
 clear h; have HC5 := Aside0.mk H; clear H
 go_enter Try.func69, Try.ntmps69
 go_upto_region 1 with (fail)
 go_cut [35] (fun v35 wc => ∃ (kq : Nat) (x35_4 : Bool), v35 = .bool x35_4 ∧ Aside0 (spec_TallyOf.j0 kq a0 a1 l2 l3 x35_4 = some (r1, r2)) ∧ Aside0 (kq ≤ k) ∧ Aside0 (Below w.heap.size w wc))
 case first =>
  have H := HC5.out; clear HC5; replace H := bS H; obtain ⟨t215, A6, H⟩ := H
  replace H : (if t215 = true then ((spec_l1In.f a1 0 2).bind fun t216 => (if t216 = true then (if (l2.length : Int) > 60 then (spec_TallyOf.j0 k a0 a1 l2 l3 true) else ((spec_l12Good.f k l3).bind fun t217 => (spec_TallyOf.j0 k a0 a1 l2 l3 (!t217)))) else (spec_TallyOf.j0 k a0 a1 l2 l3 true))) else (spec_TallyOf.j0 k a0 a1 l2 l3 true)) = some (r1, r2) := H
  by_cases c7 : t215 = true
  ·subst c7
   have H1 : ((spec_l1In.f a1 0 2).bind fun t216 => (if t216 = true then (if (l2.length : Int) > 60 then (spec_TallyOf.j0 k a0 a1 l2 l3 true) else ((spec_l12Good.f k l3).bind fun t217 => (spec_TallyOf.j0 k a0 a1 l2 l3 (!t217)))) else (spec_TallyOf.j0 k a0 a1 l2 l3 true))) = some (r1, r2) := by rw [if_pos rfl] at H; exact H
   clear H
   have H := H1
   clear H1; replace H := bS H; obtain ⟨t216, A8, H⟩ := H
   replace H : (if t216 = true then (if (l2.length : Int) > 60 then (spec_TallyOf.j0 k a0 a1 l2 l3 true) else ((spec_l12Good.f k l3).bind fun t217 => (spec_TallyOf.j0 k a0 a1 l2 l3 (!t217)))) else (spec_TallyOf.j0 k a0 a1 l2 l3 true)) = some (r1, r2) := H
   by_cases c9 : t216 = true
   ·subst c9
    have H1 : (if (l2.length : Int) > 60 then (spec_TallyOf.j0 k a0 a1 l2 l3 true) else ((spec_l12Good.f k l3).bind fun t217 => (spec_TallyOf.j0 k a0 a1 l2 l3 (!t217)))) = some (r1, r2) := by rw [if_pos rfl] at H; exact H
    clear H
    have H := H1
    clear H1
    by_cases c10 : (l2.length : Int) > 60
    ·rw [if_pos c10] at H
     have c10b0 : decide (60 < (l2.length : Int)) = true := decide_eq_true c10
     have c10b1 : decide (60 < l2.length) = true := decide_eq_true (by omega)
     clear c10
     (first | rw [c10b0] | (simp only [i64_w, i32_w]; rw [c10b0]) | skip)
     have H' := Aside0.mk H
     clear H
     go_wp2_with (first | ((with_reducible refine gate_callee (f := 153) rfl ?_); refine goesLa (some 19) rfl Try.func153 #[.int .i64 a0, .int .i64 1, .int .i64 12] rfl ?_; (with_reducible refine (spec_l1In.calls a0 1 12 true _ A6.out).mono ?_); rintro e w' ⟨rfl, ⟨nd, rfl⟩⟩; refine ⟨_, rfl, ?_⟩) | (go_at_call 153; (with_reducible refine (spec_l1In.calls a1 0 2 true _ A8.out).mono ?_); rintro e w' ⟨rfl, ⟨nd, rfl⟩⟩))
     go_meet
     case rel => exact ⟨_, (true), er, H', ⟨by first | omega | exact Nat.le_refl _⟩, ⟨belowd HB⟩⟩
    ·rw [if_neg c10] at H
     have c10b0 : decide (60 < (l2.length : Int)) = false := decide_eq_false c10
     have c10b1 : decide (60 < l2.length) = false := decide_eq_false (by omega)
     clear c10
     (first | rw [c10b0] | (simp only [i64_w, i32_w]; rw [c10b0]) | skip)
     replace H := bS H; obtain ⟨t217, A11, H⟩ := H
     replace H : (spec_TallyOf.j0 k a0 a1 l2 l3 (!t217)) = some (r1, r2) := H
     have H' := Aside0.mk H
     clear H
     go_wp2_with (first | ((with_reducible refine gate_callee (f := 153) rfl ?_); refine goesLa (some 19) rfl Try.func153 #[.int .i64 a0, .int .i64 1, .int .i64 12] rfl ?_; (with_reducible refine (spec_l1In.calls a0 1 12 true _ A6.out).mono ?_); rintro e w' ⟨rfl, ⟨nd, rfl⟩⟩; refine ⟨_, rfl, ?_⟩) | (go_at_call 153; (with_reducible refine (spec_l1In.calls a1 0 2 true _ A8.out).mono ?_); rintro e w' ⟨rfl, ⟨nd, rfl⟩⟩) | (go_at_call 135; (with_reducible refine (spec_l12Good.calls k _ _ l3 t217 _ ?side1 ?side2 A11.out).mono ?_); (case side1 => exact cd (Kd.C_below HR3.out (belowd HB))); (case side2 => exact HC3.out); rintro e w12 ⟨rfl, hb⟩; replace HB := ak (below_step (belowd HB) hb); (try clear hb)))
     go_meet
     case rel => exact ⟨_, (!t217), er, H', ⟨by first | omega | exact Nat.le_refl _⟩, ⟨belowd HB⟩⟩
   ·replace c9 := Bool.eq_false_iff.mpr c9
    subst c9
    have H1 : (spec_TallyOf.j0 k a0 a1 l2 l3 true) = some (r1, r2) := by rw [if_neg (show ¬ (false = true) by decide)] at H; exact H
    clear H
    have H := H1
    clear H1
    have H' := Aside0.mk H
    clear H
    go_wp2_with (first | ((with_reducible refine gate_callee (f := 153) rfl ?_); refine goesLa (some 19) rfl Try.func153 #[.int .i64 a0, .int .i64 1, .int .i64 12] rfl ?_; (with_reducible refine (spec_l1In.calls a0 1 12 true _ A6.out).mono ?_); rintro e w' ⟨rfl, ⟨nd, rfl⟩⟩; refine ⟨_, rfl, ?_⟩) | (go_at_call 153; (with_reducible refine (spec_l1In.calls a1 0 2 false _ A8.out).mono ?_); rintro e w' ⟨rfl, ⟨nd, rfl⟩⟩))
    go_meet
    case rel => exact ⟨_, (true), er, H', ⟨by first | omega | exact Nat.le_refl _⟩, ⟨belowd HB⟩⟩
  ·replace c7 := Bool.eq_false_iff.mpr c7
   subst c7
   have H1 : (spec_TallyOf.j0 k a0 a1 l2 l3 true) = some (r1, r2) := by rw [if_neg (show ¬ (false = true) by decide)] at H; exact H
   clear H
   have H := H1
   clear H1
   have H' := Aside0.mk H
   clear H
   go_wp2_with (first | ((with_reducible refine gate_callee (f := 153) rfl ?_); refine goesLa (some 19) rfl Try.func153 #[.int .i64 a0, .int .i64 1, .int .i64 12] rfl ?_; (with_reducible refine (spec_l1In.calls a0 1 12 false _ A6.out).mono ?_); rintro e w' ⟨rfl, ⟨nd, rfl⟩⟩; refine ⟨_, rfl, ?_⟩))
   go_meet
   case rel => exact ⟨_, (true), er, H', ⟨by first | omega | exact Nat.le_refl _⟩, ⟨belowd HB⟩⟩
 case rest =>
  clear HC5; (try clear c2); (try clear c3)
  obtain ⟨kq, x35_4, rfl, HA, HJ4, HB⟩ := hcut
  cases kq with
  | zero => exact absurd HA.out (by simp [spec_TallyOf.j0])
  | succ kj4 =>
   have H := HA.out; clear HA
   simp only [spec_TallyOf.j0] at H
   by_cases c13 : x35_4 = true
   ·subst c13
    have H1 : (some (([] : List (S110)), false)) = some (r1, r2) := by rw [if_pos rfl] at H; exact H
    clear H
    have H := H1
    clear H1
    simp only [Option.some.injEq, Prod.mk.injEq] at H
    obtain ⟨rfl, rfl⟩ := H; go_wp2
    go_ret2
    exact ⟨_, er2, by first | exact Kd.R_nil _ _ _ _ _ | exact Kd.N_nil _ _ _ _ _ | exact Kd.V_nil _ _ _ _ _ | exact Kd.Q_nil _ _ _ _ _ | exact Kd.S_nil _ _ _ _ _, belowd HB⟩
   ·replace c13 := Bool.eq_false_iff.mpr c13
    subst c13
    have H1 : (spec_TallyOf.l0 kj4 a0 a1 l2 l3 l2 (l2.length : Int) 0) = some (r1, r2) := by rw [if_neg (show ¬ (false = true) by decide)] at H; exact H
    clear H
    have H := H1
    clear H1
    have H' := Aside0.mk H
    clear H; go_wp2
    go_loopg [38] kj4 (fun kq v38 w' => ∃ (x38_2 : Int), v38 = .int .i64 x38_2 ∧ Aside0 (spec_TallyOf.l0 kq a0 a1 l2 l3 l2 (l2.length : Int) x38_2 = some (r1, r2)) ∧ Aside0 (kq ≤ kj4) ∧ Aside0 (Below w.heap.size w w'))
    case atStart => exact ⟨(0), er, H', ⟨Nat.le_refl _⟩, ⟨belowd HB⟩⟩
    case round =>
     clear H'
     (try clear c13)
     obtain ⟨x38_2, rfl, HA, HK2, HB⟩ := hrel
     cases gk with
     | zero => exact absurd HA.out (by simp [spec_TallyOf.l0])
     | succ k2 =>
      have H := HA.out; clear HA
      simp only [spec_TallyOf.l0] at H
      by_cases c14 : x38_2 < (l2.length : Int)
      ·rw [if_pos c14] at H
       have c14b0 : decide (x38_2 < (l2.length : Int)) = true := decide_eq_true c14
       clear c14; replace H := ifS H; obtain ⟨c15, H⟩ := H; have c15b0 := decide_eq_true c15; clear c15; replace H := ifS H; obtain ⟨c16, H⟩ := H; have c16b0 := decide_eq_true c16; clear c16; replace H := bS H; obtain ⟨t220, A17, H⟩ := H
       replace H : (if t220 = true then (spec_TallyOf.l0 k2 a0 a1 l2 l3 l2 (l2.length : Int) (wrap64 (x38_2 + 1))) else (some (([] : List (S110)), false))) = some (r1, r2) := H
       by_cases c18 : t220 = true
       ·subst c18
        have H1 : (spec_TallyOf.l0 k2 a0 a1 l2 l3 l2 (l2.length : Int) (wrap64 (x38_2 + 1))) = some (r1, r2) := by rw [if_pos rfl] at H; exact H
        clear H
        have H := H1
        clear H1
        have H' := Aside0.mk H
        clear H
        have p218 : 0 ≤ (x38_2 : Int) := da
        have q218 : x38_2 < (l2.length : Int) := da
        obtain ⟨ad218, e218, hx218_0, hx218_1, hx218_2⟩ := at_T85 HR2.out x38_2 p218 q218
        cases e218
        replace hx218_0 := (HB.out.cell (World.block_lt_of_cell? w _ hx218_0)).trans hx218_0
        replace hx218_1 := (HB.out.cell (World.block_lt_of_cell? w _ hx218_1)).trans hx218_1
        replace hx218_2 := (HB.out.cell (World.block_lt_of_cell? w _ hx218_2)).trans hx218_2
        replace p218 := eq_true p218; replace q218 := eq_true q218
        go_wp2_with (first | ((with_reducible refine gate_dst (N := 11) rfl ?_); (try (refine gate_guard (by rfl) ?_; dsimp only)); refine boxev 11 #[.int .i64 0, .int .i64 0, .int .i64 0] 85 ?_; intro gb219 hg w19 hbox hb; have BK219 := ak (hbox); have GW219 := ak (hgl hg (belowd HB)); have GE219 := ak (hgl hg (belowd HB)); replace HB := ak (below_step (belowd HB) hb); clear hb hbox hg; obtain ⟨hcz20_0, hcz20_1, hcz20_2, hfz20_0, hfz20_1, hfz20_2⟩ := box3 BK219) | ((with_reducible refine gate_callee (f := 152) rfl ?_); refine goesLa (some 43) rfl Try.func152 #[.agg #[.int .i64 ((rd_T85 l2 x38_2).f0), .int .i64 ((rd_T85 l2 x38_2).f1), .int .i64 ((rd_T85 l2 x38_2).f2)]] rfl ?_; (with_reducible refine (spec_GoodClaim.calls ((rd_T85 l2 x38_2).f0) ((rd_T85 l2 x38_2).f1) ((rd_T85 l2 x38_2).f2) true _ A17.out).mono ?_); rintro e w21 ⟨rfl, hb⟩; refine ⟨_, rfl, ?_⟩; replace BK219 := ak (blk_below (g := gb219) (o := .cells #[.int .i64 ((rd_T85 l2 x38_2).f0), .int .i64 ((rd_T85 l2 x38_2).f1), .int .i64 ((rd_T85 l2 x38_2).f2)] 85 (0, 0)) (by (with_reducible repeat (first | refine blk_drewN ?_ _ | refine blk_drew ?_ | refine blk_alloc ?_ _)); refine blk_put (cs := #[.int .i64 ((rd_T85 l2 x38_2).f0), .int .i64 ((rd_T85 l2 x38_2).f1), .int .i64 0]) ?_ 2 _ rfl; (with_reducible repeat (first | refine blk_drewN ?_ _ | refine blk_drew ?_ | refine blk_alloc ?_ _)); refine blk_put (cs := #[.int .i64 ((rd_T85 l2 x38_2).f0), .int .i64 0, .int .i64 0]) ?_ 1 _ rfl; (with_reducible repeat (first | refine blk_drewN ?_ _ | refine blk_drew ?_ | refine blk_alloc ?_ _)); refine blk_put (cs := #[.int .i64 0, .int .i64 0, .int .i64 0]) ?_ 0 _ rfl; (with_reducible repeat (first | refine blk_drewN ?_ _ | refine blk_drew ?_ | refine blk_alloc ?_ _)); exact BK219.out) hb); replace HB := ak (below_step (belowg1 HB GE219) hb); (try clear hb)))
        go_roundg k2
        case measure => have := HJ4.out; have := HK2.out; omega
        case rel => exact ⟨(wrap64 (x38_2 + 1)), er, H', ⟨by have := HJ4.out; have := HK2.out; omega⟩, ⟨belowg1 HB GE219⟩⟩
       ·replace c18 := Bool.eq_false_iff.mpr c18
        subst c18
        have H1 : (some (([] : List (S110)), false)) = some (r1, r2) := by rw [if_neg (show ¬ (false = true) by decide)] at H; exact H
        clear H
        have H := H1
        clear H1
        simp only [Option.some.injEq, Prod.mk.injEq] at H
        obtain ⟨rfl, rfl⟩ := H
        have p218 : 0 ≤ (x38_2 : Int) := da
        have q218 : x38_2 < (l2.length : Int) := da
        obtain ⟨ad218, e218, hx218_0, hx218_1, hx218_2⟩ := at_T85 HR2.out x38_2 p218 q218
        cases e218
        replace hx218_0 := (HB.out.cell (World.block_lt_of_cell? w _ hx218_0)).trans hx218_0
        replace hx218_1 := (HB.out.cell (World.block_lt_of_cell? w _ hx218_1)).trans hx218_1
        replace hx218_2 := (HB.out.cell (World.block_lt_of_cell? w _ hx218_2)).trans hx218_2
        replace p218 := eq_true p218; replace q218 := eq_true q218
        go_wp2_with (first | ((with_reducible refine gate_dst (N := 11) rfl ?_); (try (refine gate_guard (by rfl) ?_; dsimp only)); refine boxev 11 #[.int .i64 0, .int .i64 0, .int .i64 0] 85 ?_; intro gb219 hg w22 hbox hb; have BK219 := ak (hbox); have GW219 := ak (hgl hg (belowd HB)); have GE219 := ak (hgl hg (belowd HB)); replace HB := ak (below_step (belowd HB) hb); clear hb hbox hg; obtain ⟨hcz23_0, hcz23_1, hcz23_2, hfz23_0, hfz23_1, hfz23_2⟩ := box3 BK219) | ((with_reducible refine gate_callee (f := 152) rfl ?_); refine goesLa (some 43) rfl Try.func152 #[.agg #[.int .i64 ((rd_T85 l2 x38_2).f0), .int .i64 ((rd_T85 l2 x38_2).f1), .int .i64 ((rd_T85 l2 x38_2).f2)]] rfl ?_; (with_reducible refine (spec_GoodClaim.calls ((rd_T85 l2 x38_2).f0) ((rd_T85 l2 x38_2).f1) ((rd_T85 l2 x38_2).f2) false _ A17.out).mono ?_); rintro e w24 ⟨rfl, hb⟩; refine ⟨_, rfl, ?_⟩; replace BK219 := ak (blk_below (g := gb219) (o := .cells #[.int .i64 ((rd_T85 l2 x38_2).f0), .int .i64 ((rd_T85 l2 x38_2).f1), .int .i64 ((rd_T85 l2 x38_2).f2)] 85 (0, 0)) (by (with_reducible repeat (first | refine blk_drewN ?_ _ | refine blk_drew ?_ | refine blk_alloc ?_ _)); refine blk_put (cs := #[.int .i64 ((rd_T85 l2 x38_2).f0), .int .i64 ((rd_T85 l2 x38_2).f1), .int .i64 0]) ?_ 2 _ rfl; (with_reducible repeat (first | refine blk_drewN ?_ _ | refine blk_drew ?_ | refine blk_alloc ?_ _)); refine blk_put (cs := #[.int .i64 ((rd_T85 l2 x38_2).f0), .int .i64 0, .int .i64 0]) ?_ 1 _ rfl; (with_reducible repeat (first | refine blk_drewN ?_ _ | refine blk_drew ?_ | refine blk_alloc ?_ _)); refine blk_put (cs := #[.int .i64 0, .int .i64 0, .int .i64 0]) ?_ 0 _ rfl; (with_reducible repeat (first | refine blk_drewN ?_ _ | refine blk_drew ?_ | refine blk_alloc ?_ _)); exact BK219.out) hb); replace HB := ak (below_step (belowg1 HB GE219) hb); (try clear hb)))
        go_ret2
        exact ⟨_, er2, by first | exact Kd.R_nil _ _ _ _ _ | exact Kd.N_nil _ _ _ _ _ | exact Kd.V_nil _ _ _ _ _ | exact Kd.Q_nil _ _ _ _ _ | exact Kd.S_nil _ _ _ _ _, belowg1 HB GE219⟩
      ·rw [if_neg c14] at H
       have c14b0 : decide (x38_2 < (l2.length : Int)) = false := decide_eq_false c14
       clear c14
       have H' := Aside0.mk H
       clear H; go_wp2
       go_loopg [12, 13] k2 (fun kq v12 v13 w' => ∃ (x12_3 : List (S110)) (x13_3 : Int), v13 = .int .i64 x13_3 ∧ Aside0 (spec_TallyOf.l1 kq a0 a1 l2 l3 x12_3 x13_3 = some (r1, r2)) ∧ Aside0 (kq ≤ k2) ∧ Aside0 (Kd.R k110 110 w' w.heap.size (fun _ => True) v12 x12_3) ∧ Aside0 (Below w.heap.size w w'))
       case atStart => exact ⟨(([] : List (S110))), (0), er, H', ⟨Nat.le_refl _⟩, ⟨by first | exact Kd.R_nil _ _ _ _ _ | exact Kd.N_nil _ _ _ _ _ | exact Kd.V_nil _ _ _ _ _ | exact Kd.Q_nil _ _ _ _ _ | exact Kd.S_nil _ _ _ _ _⟩, ⟨belowd HB⟩⟩
       case round =>
        clear H'
        (try clear c14b0)
        obtain ⟨x12_3, x13_3, rfl, HA, HK3, HO_12, HB⟩ := hrel
        cases gk with
        | zero => exact absurd HA.out (by simp [spec_TallyOf.l1])
        | succ k3 =>
         have H := HA.out; clear HA
         simp only [spec_TallyOf.l1] at H
         by_cases c25 : x13_3 < a0
         ·rw [if_pos c25] at H
          have c25b0 : decide (x13_3 < a0) = true := decide_eq_true c25
          clear c25; replace H := bS H; obtain ⟨t221, A26, H⟩ := H
          replace H : (spec_TallyOf.l2 k3 a0 a1 l2 l3 x12_3 x13_3 t221 l2 (l2.length : Int) 0 x13_3 0 (t221.length : Int)) = some (r1, r2) := H
          have H' := Aside0.mk H
          clear H
          go_wp2_with (first | ((with_reducible refine gate_callee (f := 154) rfl ?_); refine goesLa (some 54) rfl Try.func154 #[.int .i64 a1, .slice A3 l3.length c3, .int .i64 x13_3] rfl ?_; (with_reducible refine (spec_l14Debits.calls k3 a1 _ _ l3 x13_3 t221 _ ?side1 ?side2 A26.out).mono ?_); (case side1 => exact cd (Kd.C_below HR3.out HB.out)); (case side2 => exact HC3.out); rintro e w27 ⟨v222, rfl, ho0, hb⟩; refine ⟨_, rfl, ?_⟩; replace HO_12 := ak (Kd.R_below (rdl HO_12) hb); have HO223 := ak (Kd.R_lower ho0 (below_size (belowd HB))); replace HB := ak (below_step (belowd HB) hb); (try clear hb); (try clear ho0); obtain ⟨Ao28, co28, eo28⟩ := Kd.R_slice HO223.out; subst eo28) | ((with_reducible refine gate_dst (N := 15) rfl ?_); (try (refine gate_guard (by rfl) ?_; dsimp only)); refine boxev 15 #[.int .i64 0, .int .i64 0, .int .i64 0] 110 ?_; intro gb224 hg w29 hbox hb; replace HO_12 := ak (Kd.R_below (Kd.R_elderB (rdl HO_12) gb224 (Nat.le_of_eq hg.symm)) hb); replace HO223 := ak (Kd.R_below (rdl HO223) hb); have BK224 := ak (hbox); have GW224 := ak (hgl hg (belowd HB)); have GE224 := ak (hgl hg (belowd HB)); replace HB := ak (below_step (belowd HB) hb); clear hb hbox hg; obtain ⟨hcz30_0, hcz30_1, hcz30_2, hfz30_0, hfz30_1, hfz30_2⟩ := box3 BK224))
          go_loopg [61] k3 (fun kq v61 w' => ∃ (x61_4 : Int) (x225001_4 : Int), v61 = .int .i64 x61_4 ∧ Aside0 (spec_TallyOf.l2 kq a0 a1 l2 l3 x12_3 x13_3 t221 l2 (l2.length : Int) x61_4 x13_3 x225001_4 (t221.length : Int) = some (r1, r2)) ∧ Aside0 (kq ≤ k3) ∧ Aside0 (Kd.R k110 110 w' w.heap.size (fun k_ => k_ ≠ gb224) u12 x12_3) ∧ Aside0 (Kd.R k85 85 w' w.heap.size (fun _ => True) (.slice Ao28 t221.length co28) t221) ∧ Aside0 (w'.heap[gb224]? = some (.cells #[.int .i64 x13_3, .int .i64 x225001_4, .int .i64 (t221.length : Int)] 110 (0, 0))) ∧ Aside0 (Below w.heap.size w w'))
          case atStart => exact ⟨(0), (0), er, H', ⟨Nat.le_refl _⟩, ⟨by (with_reducible repeat (first | apply Kd.R_alloc | apply Kd.R_drewN | apply Kd.R_drew)); exact Kd.R_mono (farsR (Kd.R_mono HO_12.out (fun k_ hk => (⟨hk, hk.2⟩ : _ ∧ k_ ≠ gb224)))) (fun _ hk => hk.1.2)⟩, ⟨by (with_reducible repeat (first | apply Kd.R_alloc | apply Kd.R_drewN | apply Kd.R_drew)); exact Kd.R_mono (farsR (Kd.R_types HO223.out BK224.out (by decide))) (fun _ hk => trivial)⟩, ⟨by (with_reducible repeat (first | refine blk_drewN ?_ _ | refine blk_drew ?_ | refine blk_alloc ?_ _)); refine blk_put (cs := #[.int .i64 x13_3, .int .i64 0, .int .i64 0]) ?_ 2 _ rfl; (with_reducible repeat (first | refine blk_drewN ?_ _ | refine blk_drew ?_ | refine blk_alloc ?_ _)); refine blk_put (cs := #[.int .i64 x13_3, .int .i64 0, .int .i64 0]) ?_ 1 _ rfl; (with_reducible repeat (first | refine blk_drewN ?_ _ | refine blk_drew ?_ | refine blk_alloc ?_ _)); refine blk_put (cs := #[.int .i64 0, .int .i64 0, .int .i64 0]) ?_ 0 _ rfl; (with_reducible repeat (first | refine blk_drewN ?_ _ | refine blk_drew ?_ | refine blk_alloc ?_ _)); exact BK224.out⟩, ⟨belowg1 HB GE224⟩⟩
          case round =>
           clear H'
           (try clear c3); (try clear c25b0); (try clear hcz30_0); (try clear hcz30_1); (try clear hcz30_2); (try clear hfz30_0); (try clear hfz30_1); (try clear hfz30_2)
           obtain ⟨x61_4, x225001_4, rfl, HA, HK4, HO_12, HO_14, BK224, HB⟩ := hrel
           cases gk with
           | zero => exact absurd HA.out (by simp [spec_TallyOf.l2])
           | succ k4 =>
            have H := HA.out; clear HA
            simp only [spec_TallyOf.l2] at H
            by_cases c31 : x61_4 < (l2.length : Int)
            ·rw [if_pos c31] at H
             have c31b0 : decide (x61_4 < (l2.length : Int)) = true := decide_eq_true c31
             clear c31; replace H := ifS H; obtain ⟨c32, H⟩ := H; have c32b0 := decide_eq_true c32; clear c32; replace H := ifS H; obtain ⟨c33, H⟩ := H; have c33b0 := decide_eq_true c33; clear c33
             by_cases c34 : ((rd_T85 l2 x61_4).f0) = x13_3
             ·rw [if_pos c34] at H
              have c34b0 : (((rd_T85 l2 x61_4).f0) == x13_3) = true := beq_iff_eq.mpr c34
              have c34b1 : (((rd_T85 l2 x61_4).f0) != x13_3) = false := bne_eq_false_iff_eq.mpr c34
              clear c34
              have c35b0 := eq_true (da : 0 ≤ x61_4)
              replace H := ifS H; obtain ⟨c36, H⟩ := H; have c36b0 := eq_true c36
              have c36b1 : decide (x61_4 ≤ (l2.length : Int)) = true := decide_eq_true c36
              clear c36
              obtain ⟨y230, hy_⟩ : ∃ y_ : List (S85), y_ = (l2.take (x61_4 : Int).toNat) := ⟨_, rfl⟩
              replace H : ((spec_l14HasClaim.f k4 y230 ((rd_T85 l2 x61_4).f0) ((rd_T85 l2 x61_4).f1) ((rd_T85 l2 x61_4).f2)).bind fun t234 => (if t234 = true then (spec_TallyOf.l2 k4 a0 a1 l2 l3 x12_3 x13_3 t221 l2 (l2.length : Int) (wrap64 (x61_4 + 1)) x13_3 x225001_4 (t221.length : Int)) else ((spec_l14HasClaim.f k4 t221 ((rd_T85 l2 x61_4).f0) ((rd_T85 l2 x61_4).f1) ((rd_T85 l2 x61_4).f2)).bind fun t235 => (if t235 = true then (spec_TallyOf.l2 k4 a0 a1 l2 l3 x12_3 x13_3 t221 l2 (l2.length : Int) (wrap64 (x61_4 + 1)) x13_3 x225001_4 (t221.length : Int)) else (spec_TallyOf.l2 k4 a0 a1 l2 l3 x12_3 x13_3 t221 l2 (l2.length : Int) (wrap64 (x61_4 + 1)) x13_3 (wrap64 (x225001_4 + 1)) (t221.length : Int)))))) = some (r1, r2) := yH
              have Ny230 := ak hy_; clear hy_; replace H := bS H; obtain ⟨t234, A37, H⟩ := H
              replace H : (if t234 = true then (spec_TallyOf.l2 k4 a0 a1 l2 l3 x12_3 x13_3 t221 l2 (l2.length : Int) (wrap64 (x61_4 + 1)) x13_3 x225001_4 (t221.length : Int)) else ((spec_l14HasClaim.f k4 t221 ((rd_T85 l2 x61_4).f0) ((rd_T85 l2 x61_4).f1) ((rd_T85 l2 x61_4).f2)).bind fun t235 => (if t235 = true then (spec_TallyOf.l2 k4 a0 a1 l2 l3 x12_3 x13_3 t221 l2 (l2.length : Int) (wrap64 (x61_4 + 1)) x13_3 x225001_4 (t221.length : Int)) else (spec_TallyOf.l2 k4 a0 a1 l2 l3 x12_3 x13_3 t221 l2 (l2.length : Int) (wrap64 (x61_4 + 1)) x13_3 (wrap64 (x225001_4 + 1)) (t221.length : Int))))) = some (r1, r2) := H
              by_cases c38 : t234 = true
              ·subst c38
               have H1 : (spec_TallyOf.l2 k4 a0 a1 l2 l3 x12_3 x13_3 t221 l2 (l2.length : Int) (wrap64 (x61_4 + 1)) x13_3 x225001_4 (t221.length : Int)) = some (r1, r2) := by rw [if_pos rfl] at H; exact H
               clear H
               have H := H1
               clear H1
               have H' := Aside0.mk H
               clear H
               have p228 : 0 ≤ (x61_4 : Int) := da
               have q228 : x61_4 < (l2.length : Int) := da
               obtain ⟨ad228, e228, hx228_0, hx228_1, hx228_2⟩ := at_T85 HR2.out x61_4 p228 q228
               cases e228
               replace hx228_0 := (HB.out.cell (World.block_lt_of_cell? w _ hx228_0)).trans hx228_0
               replace hx228_1 := (HB.out.cell (World.block_lt_of_cell? w _ hx228_1)).trans hx228_1
               replace hx228_2 := (HB.out.cell (World.block_lt_of_cell? w _ hx228_2)).trans hx228_2
               replace p228 := eq_true p228; replace q228 := eq_true q228
               try go_wp2_with (first | ((with_reducible refine gate_dst (N := 17) rfl ?_); (try (refine gate_guard (by rfl) ?_; dsimp only)); refine boxev 17 #[.int .i64 0, .int .i64 0, .int .i64 0] 85 ?_; intro gb229 hg w39 hbox hb; replace HO_12 := ak (Kd.R_below (rdl HO_12) hb); replace HO_14 := ak (Kd.R_below (Kd.R_elderB (rdl HO_14) gb229 (Nat.le_of_eq hg.symm)) hb); have BK229 := ak (hbox); have GW229 := ak (hgl hg (belowg1 HB GE224)); have GE229 := ak (hgl hg (belowg1 HB GE224)); replace HB := ak (below_step (belowg1 HB GE224) hb); have NB224_229 := ak ((by rw [hg]; exact Nat.ne_of_lt (blk_lt (blkd BK224)) : gb224 ≠ gb229)); have NB229_224 := ak ((by rw [hg]; exact Nat.ne_of_gt (blk_lt (blkd BK224)) : gb229 ≠ gb224)); replace BK224 := ak (blk_below (blkd BK224) hb); clear hb hbox hg; have hnb40 := NB229_224.out; have hnc40 := NB224_229.out; obtain ⟨hcz41_0, hcz41_1, hcz41_2, hfz41_0, hfz41_1, hfz41_2⟩ := box3 BK229))
               have n0_ : Aside0 (Kd.R k110 110 (((w39.setCell ⟨gb229, 0, none⟩ (.int .i64 ((rd_T85 l2 x61_4).f0))).setCell ⟨gb229, 1, none⟩ (.int .i64 ((rd_T85 l2 x61_4).f1))).setCell ⟨gb229, 2, none⟩ (.int .i64 ((rd_T85 l2 x61_4).f2))) w.heap.size (fun k_ => k_ ≠ gb224) u12 x12_3) := ⟨by (with_reducible repeat (first | apply Kd.R_alloc | apply Kd.R_drewN | apply Kd.R_drew)); exact Kd.R_mono (farsR (Kd.R_types HO_12.out BK229.out (by decide))) (fun _ hk => hk.1)⟩
               have n1_ : Aside0 (Kd.R k85 85 (((w39.setCell ⟨gb229, 0, none⟩ (.int .i64 ((rd_T85 l2 x61_4).f0))).setCell ⟨gb229, 1, none⟩ (.int .i64 ((rd_T85 l2 x61_4).f1))).setCell ⟨gb229, 2, none⟩ (.int .i64 ((rd_T85 l2 x61_4).f2))) w.heap.size (fun k_ => k_ ≠ gb229) (.slice Ao28 t221.length co28) t221) := ⟨by (with_reducible repeat (first | apply Kd.R_alloc | apply Kd.R_drewN | apply Kd.R_drew)); exact Kd.R_mono (farsR (Kd.R_mono HO_14.out (fun k_ hk => (⟨hk, hk.2⟩ : _ ∧ k_ ≠ gb229)))) (fun _ hk => hk.1.2)⟩
               have n2_ : Aside0 ((((w39.setCell ⟨gb229, 0, none⟩ (.int .i64 ((rd_T85 l2 x61_4).f0))).setCell ⟨gb229, 1, none⟩ (.int .i64 ((rd_T85 l2 x61_4).f1))).setCell ⟨gb229, 2, none⟩ (.int .i64 ((rd_T85 l2 x61_4).f2))).heap[gb224]? = some (.cells #[.int .i64 x13_3, .int .i64 x225001_4, .int .i64 (t221.length : Int)] 110 (0, 0))) := ⟨by (with_reducible repeat (first | refine blk_drewN ?_ _ | refine blk_drew ?_ | refine blk_alloc ?_ _)); refine blk_far ?_ NB224_229.out _; (with_reducible repeat (first | refine blk_drewN ?_ _ | refine blk_drew ?_ | refine blk_alloc ?_ _)); refine blk_far ?_ NB224_229.out _; (with_reducible repeat (first | refine blk_drewN ?_ _ | refine blk_drew ?_ | refine blk_alloc ?_ _)); refine blk_far ?_ NB224_229.out _; (with_reducible repeat (first | refine blk_drewN ?_ _ | refine blk_drew ?_ | refine blk_alloc ?_ _)); exact BK224.out⟩
               have n3_ : Aside0 ((((w39.setCell ⟨gb229, 0, none⟩ (.int .i64 ((rd_T85 l2 x61_4).f0))).setCell ⟨gb229, 1, none⟩ (.int .i64 ((rd_T85 l2 x61_4).f1))).setCell ⟨gb229, 2, none⟩ (.int .i64 ((rd_T85 l2 x61_4).f2))).heap[gb229]? = some (.cells #[.int .i64 ((rd_T85 l2 x61_4).f0), .int .i64 ((rd_T85 l2 x61_4).f1), .int .i64 ((rd_T85 l2 x61_4).f2)] 85 (0, 0))) := ⟨by (with_reducible repeat (first | refine blk_drewN ?_ _ | refine blk_drew ?_ | refine blk_alloc ?_ _)); refine blk_put (cs := #[.int .i64 ((rd_T85 l2 x61_4).f0), .int .i64 ((rd_T85 l2 x61_4).f1), .int .i64 0]) ?_ 2 _ rfl; (with_reducible repeat (first | refine blk_drewN ?_ _ | refine blk_drew ?_ | refine blk_alloc ?_ _)); refine blk_put (cs := #[.int .i64 ((rd_T85 l2 x61_4).f0), .int .i64 0, .int .i64 0]) ?_ 1 _ rfl; (with_reducible repeat (first | refine blk_drewN ?_ _ | refine blk_drew ?_ | refine blk_alloc ?_ _)); refine blk_put (cs := #[.int .i64 0, .int .i64 0, .int .i64 0]) ?_ 0 _ rfl; (with_reducible repeat (first | refine blk_drewN ?_ _ | refine blk_drew ?_ | refine blk_alloc ?_ _)); exact BK229.out⟩
               have n4_ : Aside0 (Below w.heap.size w (((w39.setCell ⟨gb229, 0, none⟩ (.int .i64 ((rd_T85 l2 x61_4).f0))).setCell ⟨gb229, 1, none⟩ (.int .i64 ((rd_T85 l2 x61_4).f1))).setCell ⟨gb229, 2, none⟩ (.int .i64 ((rd_T85 l2 x61_4).f2)))) := ⟨belowg2 HB GE224 GE229⟩
               (try clear HO_12); (try clear HO_14); (try clear BK224); (try clear BK229); (try clear HB)
               generalize (((w39.setCell ⟨gb229, 0, none⟩ (.int .i64 ((rd_T85 l2 x61_4).f0))).setCell ⟨gb229, 1, none⟩ (.int .i64 ((rd_T85 l2 x61_4).f1))).setCell ⟨gb229, 2, none⟩ (.int .i64 ((rd_T85 l2 x61_4).f2))) = w42 at n0_ n1_ n2_ n3_ n4_ ⊢
               have HO_12 := n0_
               have HO_14 := n1_
               have BK224 := n2_
               have BK229 := n3_
               have HB := n4_
               clear n0_ n1_ n2_ n3_ n4_
               replace HO_12 := ak (Kd.R_drew HO_12.out)
               replace HO_14 := ak (Kd.R_drew HO_14.out)
               replace BK224 := ak (blk_drew BK224.out)
               replace BK229 := ak (blk_drew BK229.out)
               replace HB := ak (below_drew1 HB.out)
               have q44 : (x61_4 : Int) ≤ ((l2.length : Int) : Int) := da
               obtain ⟨i044, hi044, _, hsz44, _⟩ := info_parts info85
               have hroom44 : l2.length ≤ c2 := HC2.out
               have hC44 : Kd.C k85 _ (some ad228) l2.length l2 := HR2.out
               have hcut44 := cut_to (P := Try.prog) 70 85 .i64 Try.underlying70 hi044 (some ad228) l2.length c2 x61_4 (da) q44 hroom44
               have hr44 := Kd.C_take (m := (x61_4 : Int).toNat) hC44 (by omega)
               have hy44 : y230.length = (x61_4 : Int).toNat := (by rw [Ny230.out, List.length_take]; omega)
               rw [← Ny230.out] at hr44
               rw [← hy44] at hcut44
               have HR233 := Aside0.mk hr44
               have HC233 := Aside0.mk (show y230.length ≤ c2 from by omega)
               clear hr44 hC44 hroom44 hi044 hsz44; have KY44 := Aside0.mk hy44; clear hy44; replace q44 := eq_true q44
               refine start_ (n := 18) (S := fun w' => w'.cell? ⟨gb229, 0, none⟩ = some (.int .i64 ((rd_T85 l2 x61_4).f0)) ∧ w'.cell? ⟨gb229, 1, none⟩ = some (.int .i64 ((rd_T85 l2 x61_4).f1)) ∧ w'.cell? ⟨gb229, 2, none⟩ = some (.int .i64 ((rd_T85 l2 x61_4).f2))) (ds := []) (bl 18 0) (by kernel_rfl) rfl rfl ⟨bq BK229 0, bq BK229 1, bq BK229 2⟩ (fun hHeld => ?_); refine with_tabW spec_TallyOf.tab18 spec_TallyOf.bits18 (fun HT_ HW_ => ?_)
               generalize w42.drew = w43 at HO_12 HO_14 BK224 BK229 HB HR233 hHeld ⊢
               refine pureA 0 (some 66) 18 1 HT_ ?_
               refine pureA 2 (some 68) 18 5 HT_ ?_
               refine takeA 1 (some 67) 18 7 HT_ HW_ hHeld ?_ (hy := by rintro w' ⟨s0, s1, s2⟩; go_simp; with_reducible rfl)
               refine pureA 3 (some 69) 18 15 HT_ ?_
               refine pureA 4 (some 70) 18 31 HT_ ?_
               refine pureA 5 (some 71) 18 63 HT_ ?_
               refine pureA 6 (some 72) 18 127 HT_ ?_
               refine pureA 7 (some 73) 18 255 HT_ ?_
               refine takeA 8 (some 74) 18 511 HT_ HW_ hHeld ?_ (hy := by rintro w' ⟨s0, s1, s2⟩; go_simp; with_reducible rfl)
               refine oneA 9 (some 75) 18 1023 HT_ (fun K hK => ?_)
               refine goes_ Try.func156 (by kernel_rfl) rfl #[.slice (some ad228) y230.length c2, .agg #[.int .i64 ((rd_T85 l2 x61_4).f0), .int .i64 ((rd_T85 l2 x61_4).f1), .int .i64 ((rd_T85 l2 x61_4).f2)]] (by rfl) rfl rfl (by (try simp only [List.map_toArray, List.map_cons, List.map_nil]); first | done | rfl | (simp only [List.length_drop, List.length_take]; rfl)) ?_
               with_reducible refine (spec_l14HasClaim.calls k4 _ _ y230 ((rd_T85 l2 x61_4).f0) ((rd_T85 l2 x61_4).f1) ((rd_T85 l2 x61_4).f2) true _ ?side1 ?side2 A37.out).mono ?_
               (case side1 => exact cd (Kd.C_below HR233.out HB.out))
               (case side2 => exact HC233.out)
               rintro e w45 ⟨rfl, hb⟩
               refine ⟨_, rfl, ?_⟩
               replace HO_12 := ak (Kd.R_below (rdl HO_12) hb)
               replace HO_14 := ak (Kd.R_below (rdl HO_14) hb)
               replace BK224 := ak (blk_below (blkd BK224) hb)
               replace BK229 := ak (blk_below (blkd BK229) hb)
               replace HB := ak (below_step (belowg2 HB GE224 GE229) hb)
               (try clear hb); (try clear hb2); (try clear hk); (try clear hi)
               refine hK.out _ _ ⟨bq BK229 0, bq BK229 1, bq BK229 2⟩ (fun hHeld => ?_)
               clear hK K
               refine norm_ (a' := ?_) ?_ ?_
               rotate_left
               ·show Act.put _ (some 75) _ = _
                simp only [Act.put, List.setIfInBounds_toArray, List.set_cons_zero, List.set_cons_succ, i64_w, i32_w]
                rfl
               refine pureA 10 (some 76) 18 2047 HT_ ?_
               refine pureA 11 (some 77) 18 4095 HT_ ?_
               refine pureA 12 (some 78) 18 8191 HT_ ?_
               refine pureB 13 (some 79) 18 16383 HT_ ?_
               refine pureB 14 (some 80) 18 32767 HT_ ?_
               refine pureB 15 (some 81) 18 65535 HT_ ?_
               refine pureB 16 (some 82) 18 131071 HT_ ?_
               refine pureA 17 (some 83) 18 262143 HT_ ?_
               refine done_ (done_of HT_.out (by kernel_rfl)) ?_
               try go_wp2
               go_roundg k4
               case measure => have := HJ4.out; have := HK2.out; have := HK3.out; have := HK4.out; omega
               case rel => exact ⟨(wrap64 (x61_4 + 1)), (x225001_4), er, H', ⟨by have := HJ4.out; have := HK2.out; have := HK3.out; have := HK4.out; omega⟩, ⟨rdl HO_12⟩, ⟨by (with_reducible repeat (first | apply Kd.R_alloc | apply Kd.R_drewN | apply Kd.R_drew)); exact Kd.R_mono HO_14.out (fun _ hk => trivial)⟩, ⟨blkd BK224⟩, ⟨belowg2 HB GE224 GE229⟩⟩
              ·replace c38 := Bool.eq_false_iff.mpr c38
               subst c38
               have H1 : ((spec_l14HasClaim.f k4 t221 ((rd_T85 l2 x61_4).f0) ((rd_T85 l2 x61_4).f1) ((rd_T85 l2 x61_4).f2)).bind fun t235 => (if t235 = true then (spec_TallyOf.l2 k4 a0 a1 l2 l3 x12_3 x13_3 t221 l2 (l2.length : Int) (wrap64 (x61_4 + 1)) x13_3 x225001_4 (t221.length : Int)) else (spec_TallyOf.l2 k4 a0 a1 l2 l3 x12_3 x13_3 t221 l2 (l2.length : Int) (wrap64 (x61_4 + 1)) x13_3 (wrap64 (x225001_4 + 1)) (t221.length : Int)))) = some (r1, r2) := by rw [if_neg (show ¬ (false = true) by decide)] at H; exact H
               clear H
               have H := H1
               clear H1; replace H := bS H; obtain ⟨t235, A46, H⟩ := H
               replace H : (if t235 = true then (spec_TallyOf.l2 k4 a0 a1 l2 l3 x12_3 x13_3 t221 l2 (l2.length : Int) (wrap64 (x61_4 + 1)) x13_3 x225001_4 (t221.length : Int)) else (spec_TallyOf.l2 k4 a0 a1 l2 l3 x12_3 x13_3 t221 l2 (l2.length : Int) (wrap64 (x61_4 + 1)) x13_3 (wrap64 (x225001_4 + 1)) (t221.length : Int))) = some (r1, r2) := H
               by_cases c47 : t235 = true
               ·subst c47
                have H1 : (spec_TallyOf.l2 k4 a0 a1 l2 l3 x12_3 x13_3 t221 l2 (l2.length : Int) (wrap64 (x61_4 + 1)) x13_3 x225001_4 (t221.length : Int)) = some (r1, r2) := by rw [if_pos rfl] at H; exact H
                clear H
                have H := H1
                clear H1
                have H' := Aside0.mk H
                clear H
                have p228 : 0 ≤ (x61_4 : Int) := da
                have q228 : x61_4 < (l2.length : Int) := da
                obtain ⟨ad228, e228, hx228_0, hx228_1, hx228_2⟩ := at_T85 HR2.out x61_4 p228 q228
                cases e228
                replace hx228_0 := (HB.out.cell (World.block_lt_of_cell? w _ hx228_0)).trans hx228_0
                replace hx228_1 := (HB.out.cell (World.block_lt_of_cell? w _ hx228_1)).trans hx228_1
                replace hx228_2 := (HB.out.cell (World.block_lt_of_cell? w _ hx228_2)).trans hx228_2
                replace p228 := eq_true p228; replace q228 := eq_true q228
                try go_wp2_with (first | ((with_reducible refine gate_dst (N := 17) rfl ?_); (try (refine gate_guard (by rfl) ?_; dsimp only)); refine boxev 17 #[.int .i64 0, .int .i64 0, .int .i64 0] 85 ?_; intro gb229 hg w48 hbox hb; replace HO_12 := ak (Kd.R_below (rdl HO_12) hb); replace HO_14 := ak (Kd.R_below (Kd.R_elderB (rdl HO_14) gb229 (Nat.le_of_eq hg.symm)) hb); have BK229 := ak (hbox); have GW229 := ak (hgl hg (belowg1 HB GE224)); have GE229 := ak (hgl hg (belowg1 HB GE224)); replace HB := ak (below_step (belowg1 HB GE224) hb); have NB224_229 := ak ((by rw [hg]; exact Nat.ne_of_lt (blk_lt (blkd BK224)) : gb224 ≠ gb229)); have NB229_224 := ak ((by rw [hg]; exact Nat.ne_of_gt (blk_lt (blkd BK224)) : gb229 ≠ gb224)); replace BK224 := ak (blk_below (blkd BK224) hb); clear hb hbox hg; have hnb49 := NB229_224.out; have hnc49 := NB224_229.out; obtain ⟨hcz50_0, hcz50_1, hcz50_2, hfz50_0, hfz50_1, hfz50_2⟩ := box3 BK229))
                have n0_ : Aside0 (Kd.R k110 110 (((w48.setCell ⟨gb229, 0, none⟩ (.int .i64 ((rd_T85 l2 x61_4).f0))).setCell ⟨gb229, 1, none⟩ (.int .i64 ((rd_T85 l2 x61_4).f1))).setCell ⟨gb229, 2, none⟩ (.int .i64 ((rd_T85 l2 x61_4).f2))) w.heap.size (fun k_ => k_ ≠ gb224) u12 x12_3) := ⟨by (with_reducible repeat (first | apply Kd.R_alloc | apply Kd.R_drewN | apply Kd.R_drew)); exact Kd.R_mono (farsR (Kd.R_types HO_12.out BK229.out (by decide))) (fun _ hk => hk.1)⟩
                have n1_ : Aside0 (Kd.R k85 85 (((w48.setCell ⟨gb229, 0, none⟩ (.int .i64 ((rd_T85 l2 x61_4).f0))).setCell ⟨gb229, 1, none⟩ (.int .i64 ((rd_T85 l2 x61_4).f1))).setCell ⟨gb229, 2, none⟩ (.int .i64 ((rd_T85 l2 x61_4).f2))) w.heap.size (fun k_ => k_ ≠ gb229) (.slice Ao28 t221.length co28) t221) := ⟨by (with_reducible repeat (first | apply Kd.R_alloc | apply Kd.R_drewN | apply Kd.R_drew)); exact Kd.R_mono (farsR (Kd.R_mono HO_14.out (fun k_ hk => (⟨hk, hk.2⟩ : _ ∧ k_ ≠ gb229)))) (fun _ hk => hk.1.2)⟩
                have n2_ : Aside0 ((((w48.setCell ⟨gb229, 0, none⟩ (.int .i64 ((rd_T85 l2 x61_4).f0))).setCell ⟨gb229, 1, none⟩ (.int .i64 ((rd_T85 l2 x61_4).f1))).setCell ⟨gb229, 2, none⟩ (.int .i64 ((rd_T85 l2 x61_4).f2))).heap[gb224]? = some (.cells #[.int .i64 x13_3, .int .i64 x225001_4, .int .i64 (t221.length : Int)] 110 (0, 0))) := ⟨by (with_reducible repeat (first | refine blk_drewN ?_ _ | refine blk_drew ?_ | refine blk_alloc ?_ _)); refine blk_far ?_ NB224_229.out _; (with_reducible repeat (first | refine blk_drewN ?_ _ | refine blk_drew ?_ | refine blk_alloc ?_ _)); refine blk_far ?_ NB224_229.out _; (with_reducible repeat (first | refine blk_drewN ?_ _ | refine blk_drew ?_ | refine blk_alloc ?_ _)); refine blk_far ?_ NB224_229.out _; (with_reducible repeat (first | refine blk_drewN ?_ _ | refine blk_drew ?_ | refine blk_alloc ?_ _)); exact BK224.out⟩
                have n3_ : Aside0 ((((w48.setCell ⟨gb229, 0, none⟩ (.int .i64 ((rd_T85 l2 x61_4).f0))).setCell ⟨gb229, 1, none⟩ (.int .i64 ((rd_T85 l2 x61_4).f1))).setCell ⟨gb229, 2, none⟩ (.int .i64 ((rd_T85 l2 x61_4).f2))).heap[gb229]? = some (.cells #[.int .i64 ((rd_T85 l2 x61_4).f0), .int .i64 ((rd_T85 l2 x61_4).f1), .int .i64 ((rd_T85 l2 x61_4).f2)] 85 (0, 0))) := ⟨by (with_reducible repeat (first | refine blk_drewN ?_ _ | refine blk_drew ?_ | refine blk_alloc ?_ _)); refine blk_put (cs := #[.int .i64 ((rd_T85 l2 x61_4).f0), .int .i64 ((rd_T85 l2 x61_4).f1), .int .i64 0]) ?_ 2 _ rfl; (with_reducible repeat (first | refine blk_drewN ?_ _ | refine blk_drew ?_ | refine blk_alloc ?_ _)); refine blk_put (cs := #[.int .i64 ((rd_T85 l2 x61_4).f0), .int .i64 0, .int .i64 0]) ?_ 1 _ rfl; (with_reducible repeat (first | refine blk_drewN ?_ _ | refine blk_drew ?_ | refine blk_alloc ?_ _)); refine blk_put (cs := #[.int .i64 0, .int .i64 0, .int .i64 0]) ?_ 0 _ rfl; (with_reducible repeat (first | refine blk_drewN ?_ _ | refine blk_drew ?_ | refine blk_alloc ?_ _)); exact BK229.out⟩
                have n4_ : Aside0 (Below w.heap.size w (((w48.setCell ⟨gb229, 0, none⟩ (.int .i64 ((rd_T85 l2 x61_4).f0))).setCell ⟨gb229, 1, none⟩ (.int .i64 ((rd_T85 l2 x61_4).f1))).setCell ⟨gb229, 2, none⟩ (.int .i64 ((rd_T85 l2 x61_4).f2)))) := ⟨belowg2 HB GE224 GE229⟩
                (try clear HO_12); (try clear HO_14); (try clear BK224); (try clear BK229); (try clear HB)
                generalize (((w48.setCell ⟨gb229, 0, none⟩ (.int .i64 ((rd_T85 l2 x61_4).f0))).setCell ⟨gb229, 1, none⟩ (.int .i64 ((rd_T85 l2 x61_4).f1))).setCell ⟨gb229, 2, none⟩ (.int .i64 ((rd_T85 l2 x61_4).f2))) = w51 at n0_ n1_ n2_ n3_ n4_ ⊢
                have HO_12 := n0_
                have HO_14 := n1_
                have BK224 := n2_
                have BK229 := n3_
                have HB := n4_
                clear n0_ n1_ n2_ n3_ n4_
                replace HO_12 := ak (Kd.R_drew HO_12.out)
                replace HO_14 := ak (Kd.R_drew HO_14.out)
                replace BK224 := ak (blk_drew BK224.out)
                replace BK229 := ak (blk_drew BK229.out)
                replace HB := ak (below_drew1 HB.out)
                have q53 : (x61_4 : Int) ≤ ((l2.length : Int) : Int) := da
                obtain ⟨i053, hi053, _, hsz53, _⟩ := info_parts info85
                have hroom53 : l2.length ≤ c2 := HC2.out
                have hC53 : Kd.C k85 _ (some ad228) l2.length l2 := HR2.out
                have hcut53 := cut_to (P := Try.prog) 70 85 .i64 Try.underlying70 hi053 (some ad228) l2.length c2 x61_4 (da) q53 hroom53
                have hr53 := Kd.C_take (m := (x61_4 : Int).toNat) hC53 (by omega)
                have hy53 : y230.length = (x61_4 : Int).toNat := (by rw [Ny230.out, List.length_take]; omega)
                rw [← Ny230.out] at hr53
                rw [← hy53] at hcut53
                have HR233 := Aside0.mk hr53
                have HC233 := Aside0.mk (show y230.length ≤ c2 from by omega)
                clear hr53 hC53 hroom53 hi053 hsz53; have KY53 := Aside0.mk hy53; clear hy53; replace q53 := eq_true q53
                refine start_ (n := 18) (S := fun w' => w'.cell? ⟨gb229, 0, none⟩ = some (.int .i64 ((rd_T85 l2 x61_4).f0)) ∧ w'.cell? ⟨gb229, 1, none⟩ = some (.int .i64 ((rd_T85 l2 x61_4).f1)) ∧ w'.cell? ⟨gb229, 2, none⟩ = some (.int .i64 ((rd_T85 l2 x61_4).f2))) (ds := []) (bl 18 0) (by kernel_rfl) rfl rfl ⟨bq BK229 0, bq BK229 1, bq BK229 2⟩ (fun hHeld => ?_); refine with_tabW spec_TallyOf.tab18 spec_TallyOf.bits18 (fun HT_ HW_ => ?_)
                generalize w51.drew = w52 at HO_12 HO_14 BK224 BK229 HB HR233 hHeld ⊢
                refine pureA 0 (some 66) 18 1 HT_ ?_
                refine pureA 2 (some 68) 18 5 HT_ ?_
                refine takeA 1 (some 67) 18 7 HT_ HW_ hHeld ?_ (hy := by rintro w' ⟨s0, s1, s2⟩; go_simp; with_reducible rfl)
                refine pureA 3 (some 69) 18 15 HT_ ?_
                refine pureA 4 (some 70) 18 31 HT_ ?_
                refine pureA 5 (some 71) 18 63 HT_ ?_
                refine pureA 6 (some 72) 18 127 HT_ ?_
                refine pureA 7 (some 73) 18 255 HT_ ?_
                refine takeA 8 (some 74) 18 511 HT_ HW_ hHeld ?_ (hy := by rintro w' ⟨s0, s1, s2⟩; go_simp; with_reducible rfl)
                refine oneA 9 (some 75) 18 1023 HT_ (fun K hK => ?_)
                refine goes_ Try.func156 (by kernel_rfl) rfl #[.slice (some ad228) y230.length c2, .agg #[.int .i64 ((rd_T85 l2 x61_4).f0), .int .i64 ((rd_T85 l2 x61_4).f1), .int .i64 ((rd_T85 l2 x61_4).f2)]] (by rfl) rfl rfl (by (try simp only [List.map_toArray, List.map_cons, List.map_nil]); first | done | rfl | (simp only [List.length_drop, List.length_take]; rfl)) ?_
                with_reducible refine (spec_l14HasClaim.calls k4 _ _ y230 ((rd_T85 l2 x61_4).f0) ((rd_T85 l2 x61_4).f1) ((rd_T85 l2 x61_4).f2) false _ ?side1 ?side2 A37.out).mono ?_
                (case side1 => exact cd (Kd.C_below HR233.out HB.out))
                (case side2 => exact HC233.out)
                rintro e w54 ⟨rfl, hb⟩
                refine ⟨_, rfl, ?_⟩
                replace HO_12 := ak (Kd.R_below (rdl HO_12) hb)
                replace HO_14 := ak (Kd.R_below (rdl HO_14) hb)
                replace BK224 := ak (blk_below (blkd BK224) hb)
                replace BK229 := ak (blk_below (blkd BK229) hb)
                replace HB := ak (below_step (belowg2 HB GE224 GE229) hb)
                (try clear hb); (try clear hb2); (try clear hk); (try clear hi)
                refine hK.out _ _ ⟨bq BK229 0, bq BK229 1, bq BK229 2⟩ (fun hHeld => ?_)
                clear hK K
                refine norm_ (a' := ?_) ?_ ?_
                rotate_left
                ·show Act.put _ (some 75) _ = _
                 simp only [Act.put, List.setIfInBounds_toArray, List.set_cons_zero, List.set_cons_succ, i64_w, i32_w]
                 rfl
                refine pureA 10 (some 76) 18 2047 HT_ ?_
                refine pureA 11 (some 77) 18 4095 HT_ ?_
                refine pureA 12 (some 78) 18 8191 HT_ ?_
                refine pureA 13 (some 79) 18 16383 HT_ ?_
                refine takeA 14 (some 80) 18 32767 HT_ HW_ hHeld ?_ (hy := by rintro w' ⟨s0, s1, s2⟩; go_simp; with_reducible rfl)
                refine oneA 15 (some 81) 18 65535 HT_ (fun K hK => ?_)
                refine goes_ Try.func156 (by kernel_rfl) rfl #[.slice Ao28 t221.length co28, .agg #[.int .i64 ((rd_T85 l2 x61_4).f0), .int .i64 ((rd_T85 l2 x61_4).f1), .int .i64 ((rd_T85 l2 x61_4).f2)]] (by rfl) rfl rfl (by (try simp only [List.map_toArray, List.map_cons, List.map_nil]); first | done | rfl | (simp only [List.length_drop, List.length_take]; rfl)) ?_
                with_reducible refine (spec_l14HasClaim.calls k4 _ _ t221 ((rd_T85 l2 x61_4).f0) ((rd_T85 l2 x61_4).f1) ((rd_T85 l2 x61_4).f2) true _ ?side1 ?side2 A46.out).mono ?_
                (case side1 => exact cd (Kd.R_reads' HO_14.out).2.2)
                (case side2 => exact (Kd.R_reads' HO_14.out).2.1)
                rintro e w55 ⟨rfl, hb⟩
                refine ⟨_, rfl, ?_⟩
                replace HO_12 := ak (Kd.R_below (rdl HO_12) hb)
                replace HO_14 := ak (Kd.R_below (rdl HO_14) hb)
                replace BK224 := ak (blk_below (blkd BK224) hb)
                replace BK229 := ak (blk_below (blkd BK229) hb)
                replace HB := ak (below_step (belowg2 HB GE224 GE229) hb)
                (try clear hb); (try clear hb2); (try clear hk); (try clear hi)
                refine hK.out _ _ ⟨bq BK229 0, bq BK229 1, bq BK229 2⟩ (fun hHeld => ?_)
                clear hK K
                refine norm_ (a' := ?_) ?_ ?_
                rotate_left
                ·show Act.put _ (some 81) _ = _
                 simp only [Act.put, List.setIfInBounds_toArray, List.set_cons_zero, List.set_cons_succ, i64_w, i32_w]
                 rfl
                refine pureA 16 (some 82) 18 131071 HT_ ?_
                refine pureA 17 (some 83) 18 262143 HT_ ?_
                refine done_ (done_of HT_.out (by kernel_rfl)) ?_
                try go_wp2
                go_roundg k4
                case measure => have := HJ4.out; have := HK2.out; have := HK3.out; have := HK4.out; omega
                case rel => exact ⟨(wrap64 (x61_4 + 1)), (x225001_4), er, H', ⟨by have := HJ4.out; have := HK2.out; have := HK3.out; have := HK4.out; omega⟩, ⟨rdl HO_12⟩, ⟨by (with_reducible repeat (first | apply Kd.R_alloc | apply Kd.R_drewN | apply Kd.R_drew)); exact Kd.R_mono HO_14.out (fun _ hk => trivial)⟩, ⟨blkd BK224⟩, ⟨belowg2 HB GE224 GE229⟩⟩
               ·replace c47 := Bool.eq_false_iff.mpr c47
                subst c47
                have H1 : (spec_TallyOf.l2 k4 a0 a1 l2 l3 x12_3 x13_3 t221 l2 (l2.length : Int) (wrap64 (x61_4 + 1)) x13_3 (wrap64 (x225001_4 + 1)) (t221.length : Int)) = some (r1, r2) := by rw [if_neg (show ¬ (false = true) by decide)] at H; exact H
                clear H
                have H := H1
                clear H1
                have H' := Aside0.mk H
                clear H
                have p228 : 0 ≤ (x61_4 : Int) := da
                have q228 : x61_4 < (l2.length : Int) := da
                obtain ⟨ad228, e228, hx228_0, hx228_1, hx228_2⟩ := at_T85 HR2.out x61_4 p228 q228
                cases e228
                replace hx228_0 := (HB.out.cell (World.block_lt_of_cell? w _ hx228_0)).trans hx228_0
                replace hx228_1 := (HB.out.cell (World.block_lt_of_cell? w _ hx228_1)).trans hx228_1
                replace hx228_2 := (HB.out.cell (World.block_lt_of_cell? w _ hx228_2)).trans hx228_2
                replace p228 := eq_true p228; replace q228 := eq_true q228
                try go_wp2_with (first | ((with_reducible refine gate_dst (N := 17) rfl ?_); (try (refine gate_guard (by rfl) ?_; dsimp only)); refine boxev 17 #[.int .i64 0, .int .i64 0, .int .i64 0] 85 ?_; intro gb229 hg w56 hbox hb; replace HO_12 := ak (Kd.R_below (rdl HO_12) hb); replace HO_14 := ak (Kd.R_below (Kd.R_elderB (rdl HO_14) gb229 (Nat.le_of_eq hg.symm)) hb); have BK229 := ak (hbox); have GW229 := ak (hgl hg (belowg1 HB GE224)); have GE229 := ak (hgl hg (belowg1 HB GE224)); replace HB := ak (below_step (belowg1 HB GE224) hb); have NB224_229 := ak ((by rw [hg]; exact Nat.ne_of_lt (blk_lt (blkd BK224)) : gb224 ≠ gb229)); have NB229_224 := ak ((by rw [hg]; exact Nat.ne_of_gt (blk_lt (blkd BK224)) : gb229 ≠ gb224)); replace BK224 := ak (blk_below (blkd BK224) hb); clear hb hbox hg; have hnb57 := NB229_224.out; have hnc57 := NB224_229.out; obtain ⟨hcz58_0, hcz58_1, hcz58_2, hfz58_0, hfz58_1, hfz58_2⟩ := box3 BK229))
                have n0_ : Aside0 (Kd.R k110 110 (((w56.setCell ⟨gb229, 0, none⟩ (.int .i64 ((rd_T85 l2 x61_4).f0))).setCell ⟨gb229, 1, none⟩ (.int .i64 ((rd_T85 l2 x61_4).f1))).setCell ⟨gb229, 2, none⟩ (.int .i64 ((rd_T85 l2 x61_4).f2))) w.heap.size (fun k_ => k_ ≠ gb224) u12 x12_3) := ⟨by (with_reducible repeat (first | apply Kd.R_alloc | apply Kd.R_drewN | apply Kd.R_drew)); exact Kd.R_mono (farsR (Kd.R_types HO_12.out BK229.out (by decide))) (fun _ hk => hk.1)⟩
                have n1_ : Aside0 (Kd.R k85 85 (((w56.setCell ⟨gb229, 0, none⟩ (.int .i64 ((rd_T85 l2 x61_4).f0))).setCell ⟨gb229, 1, none⟩ (.int .i64 ((rd_T85 l2 x61_4).f1))).setCell ⟨gb229, 2, none⟩ (.int .i64 ((rd_T85 l2 x61_4).f2))) w.heap.size (fun k_ => k_ ≠ gb229) (.slice Ao28 t221.length co28) t221) := ⟨by (with_reducible repeat (first | apply Kd.R_alloc | apply Kd.R_drewN | apply Kd.R_drew)); exact Kd.R_mono (farsR (Kd.R_mono HO_14.out (fun k_ hk => (⟨hk, hk.2⟩ : _ ∧ k_ ≠ gb229)))) (fun _ hk => hk.1.2)⟩
                have n2_ : Aside0 ((((w56.setCell ⟨gb229, 0, none⟩ (.int .i64 ((rd_T85 l2 x61_4).f0))).setCell ⟨gb229, 1, none⟩ (.int .i64 ((rd_T85 l2 x61_4).f1))).setCell ⟨gb229, 2, none⟩ (.int .i64 ((rd_T85 l2 x61_4).f2))).heap[gb224]? = some (.cells #[.int .i64 x13_3, .int .i64 x225001_4, .int .i64 (t221.length : Int)] 110 (0, 0))) := ⟨by (with_reducible repeat (first | refine blk_drewN ?_ _ | refine blk_drew ?_ | refine blk_alloc ?_ _)); refine blk_far ?_ NB224_229.out _; (with_reducible repeat (first | refine blk_drewN ?_ _ | refine blk_drew ?_ | refine blk_alloc ?_ _)); refine blk_far ?_ NB224_229.out _; (with_reducible repeat (first | refine blk_drewN ?_ _ | refine blk_drew ?_ | refine blk_alloc ?_ _)); refine blk_far ?_ NB224_229.out _; (with_reducible repeat (first | refine blk_drewN ?_ _ | refine blk_drew ?_ | refine blk_alloc ?_ _)); exact BK224.out⟩
                have n3_ : Aside0 ((((w56.setCell ⟨gb229, 0, none⟩ (.int .i64 ((rd_T85 l2 x61_4).f0))).setCell ⟨gb229, 1, none⟩ (.int .i64 ((rd_T85 l2 x61_4).f1))).setCell ⟨gb229, 2, none⟩ (.int .i64 ((rd_T85 l2 x61_4).f2))).heap[gb229]? = some (.cells #[.int .i64 ((rd_T85 l2 x61_4).f0), .int .i64 ((rd_T85 l2 x61_4).f1), .int .i64 ((rd_T85 l2 x61_4).f2)] 85 (0, 0))) := ⟨by (with_reducible repeat (first | refine blk_drewN ?_ _ | refine blk_drew ?_ | refine blk_alloc ?_ _)); refine blk_put (cs := #[.int .i64 ((rd_T85 l2 x61_4).f0), .int .i64 ((rd_T85 l2 x61_4).f1), .int .i64 0]) ?_ 2 _ rfl; (with_reducible repeat (first | refine blk_drewN ?_ _ | refine blk_drew ?_ | refine blk_alloc ?_ _)); refine blk_put (cs := #[.int .i64 ((rd_T85 l2 x61_4).f0), .int .i64 0, .int .i64 0]) ?_ 1 _ rfl; (with_reducible repeat (first | refine blk_drewN ?_ _ | refine blk_drew ?_ | refine blk_alloc ?_ _)); refine blk_put (cs := #[.int .i64 0, .int .i64 0, .int .i64 0]) ?_ 0 _ rfl; (with_reducible repeat (first | refine blk_drewN ?_ _ | refine blk_drew ?_ | refine blk_alloc ?_ _)); exact BK229.out⟩
                have n4_ : Aside0 (Below w.heap.size w (((w56.setCell ⟨gb229, 0, none⟩ (.int .i64 ((rd_T85 l2 x61_4).f0))).setCell ⟨gb229, 1, none⟩ (.int .i64 ((rd_T85 l2 x61_4).f1))).setCell ⟨gb229, 2, none⟩ (.int .i64 ((rd_T85 l2 x61_4).f2)))) := ⟨belowg2 HB GE224 GE229⟩
                (try clear HO_12); (try clear HO_14); (try clear BK224); (try clear BK229); (try clear HB)
                generalize (((w56.setCell ⟨gb229, 0, none⟩ (.int .i64 ((rd_T85 l2 x61_4).f0))).setCell ⟨gb229, 1, none⟩ (.int .i64 ((rd_T85 l2 x61_4).f1))).setCell ⟨gb229, 2, none⟩ (.int .i64 ((rd_T85 l2 x61_4).f2))) = w59 at n0_ n1_ n2_ n3_ n4_ ⊢
                have HO_12 := n0_
                have HO_14 := n1_
                have BK224 := n2_
                have BK229 := n3_
                have HB := n4_
                clear n0_ n1_ n2_ n3_ n4_
                replace HO_12 := ak (Kd.R_drew HO_12.out)
                replace HO_14 := ak (Kd.R_drew HO_14.out)
                replace BK224 := ak (blk_drew BK224.out)
                replace BK229 := ak (blk_drew BK229.out)
                replace HB := ak (below_drew1 HB.out)
                have q61 : (x61_4 : Int) ≤ ((l2.length : Int) : Int) := da
                obtain ⟨i061, hi061, _, hsz61, _⟩ := info_parts info85
                have hroom61 : l2.length ≤ c2 := HC2.out
                have hC61 : Kd.C k85 _ (some ad228) l2.length l2 := HR2.out
                have hcut61 := cut_to (P := Try.prog) 70 85 .i64 Try.underlying70 hi061 (some ad228) l2.length c2 x61_4 (da) q61 hroom61
                have hr61 := Kd.C_take (m := (x61_4 : Int).toNat) hC61 (by omega)
                have hy61 : y230.length = (x61_4 : Int).toNat := (by rw [Ny230.out, List.length_take]; omega)
                rw [← Ny230.out] at hr61
                rw [← hy61] at hcut61
                have HR233 := Aside0.mk hr61
                have HC233 := Aside0.mk (show y230.length ≤ c2 from by omega)
                clear hr61 hC61 hroom61 hi061 hsz61; have KY61 := Aside0.mk hy61; clear hy61; replace q61 := eq_true q61
                refine start_ (n := 18) (S := fun w' => w'.cell? ⟨gb229, 0, none⟩ = some (.int .i64 ((rd_T85 l2 x61_4).f0)) ∧ w'.cell? ⟨gb229, 1, none⟩ = some (.int .i64 ((rd_T85 l2 x61_4).f1)) ∧ w'.cell? ⟨gb229, 2, none⟩ = some (.int .i64 ((rd_T85 l2 x61_4).f2))) (ds := []) (bl 18 0) (by kernel_rfl) rfl rfl ⟨bq BK229 0, bq BK229 1, bq BK229 2⟩ (fun hHeld => ?_); refine with_tabW spec_TallyOf.tab18 spec_TallyOf.bits18 (fun HT_ HW_ => ?_)
                generalize w59.drew = w60 at HO_12 HO_14 BK224 BK229 HB HR233 hHeld ⊢
                refine pureA 0 (some 66) 18 1 HT_ ?_
                refine pureA 2 (some 68) 18 5 HT_ ?_
                refine takeA 1 (some 67) 18 7 HT_ HW_ hHeld ?_ (hy := by rintro w' ⟨s0, s1, s2⟩; go_simp; with_reducible rfl)
                refine pureA 3 (some 69) 18 15 HT_ ?_
                refine pureA 4 (some 70) 18 31 HT_ ?_
                refine pureA 5 (some 71) 18 63 HT_ ?_
                refine pureA 6 (some 72) 18 127 HT_ ?_
                refine pureA 7 (some 73) 18 255 HT_ ?_
                refine takeA 8 (some 74) 18 511 HT_ HW_ hHeld ?_ (hy := by rintro w' ⟨s0, s1, s2⟩; go_simp; with_reducible rfl)
                refine oneA 9 (some 75) 18 1023 HT_ (fun K hK => ?_)
                refine goes_ Try.func156 (by kernel_rfl) rfl #[.slice (some ad228) y230.length c2, .agg #[.int .i64 ((rd_T85 l2 x61_4).f0), .int .i64 ((rd_T85 l2 x61_4).f1), .int .i64 ((rd_T85 l2 x61_4).f2)]] (by rfl) rfl rfl (by (try simp only [List.map_toArray, List.map_cons, List.map_nil]); first | done | rfl | (simp only [List.length_drop, List.length_take]; rfl)) ?_
                with_reducible refine (spec_l14HasClaim.calls k4 _ _ y230 ((rd_T85 l2 x61_4).f0) ((rd_T85 l2 x61_4).f1) ((rd_T85 l2 x61_4).f2) false _ ?side1 ?side2 A37.out).mono ?_
                (case side1 => exact cd (Kd.C_below HR233.out HB.out))
                (case side2 => exact HC233.out)
                rintro e w62 ⟨rfl, hb⟩
                refine ⟨_, rfl, ?_⟩
                replace HO_12 := ak (Kd.R_below (rdl HO_12) hb)
                replace HO_14 := ak (Kd.R_below (rdl HO_14) hb)
                replace BK224 := ak (blk_below (blkd BK224) hb)
                replace BK229 := ak (blk_below (blkd BK229) hb)
                replace HB := ak (below_step (belowg2 HB GE224 GE229) hb)
                (try clear hb); (try clear hb2); (try clear hk); (try clear hi)
                refine hK.out _ _ ⟨bq BK229 0, bq BK229 1, bq BK229 2⟩ (fun hHeld => ?_)
                clear hK K
                refine norm_ (a' := ?_) ?_ ?_
                rotate_left
                ·show Act.put _ (some 75) _ = _
                 simp only [Act.put, List.setIfInBounds_toArray, List.set_cons_zero, List.set_cons_succ, i64_w, i32_w]
                 rfl
                refine pureA 10 (some 76) 18 2047 HT_ ?_
                refine pureA 11 (some 77) 18 4095 HT_ ?_
                refine pureA 12 (some 78) 18 8191 HT_ ?_
                refine pureA 13 (some 79) 18 16383 HT_ ?_
                refine takeA 14 (some 80) 18 32767 HT_ HW_ hHeld ?_ (hy := by rintro w' ⟨s0, s1, s2⟩; go_simp; with_reducible rfl)
                refine oneA 15 (some 81) 18 65535 HT_ (fun K hK => ?_)
                refine goes_ Try.func156 (by kernel_rfl) rfl #[.slice Ao28 t221.length co28, .agg #[.int .i64 ((rd_T85 l2 x61_4).f0), .int .i64 ((rd_T85 l2 x61_4).f1), .int .i64 ((rd_T85 l2 x61_4).f2)]] (by rfl) rfl rfl (by (try simp only [List.map_toArray, List.map_cons, List.map_nil]); first | done | rfl | (simp only [List.length_drop, List.length_take]; rfl)) ?_
                with_reducible refine (spec_l14HasClaim.calls k4 _ _ t221 ((rd_T85 l2 x61_4).f0) ((rd_T85 l2 x61_4).f1) ((rd_T85 l2 x61_4).f2) false _ ?side1 ?side2 A46.out).mono ?_
                (case side1 => exact cd (Kd.R_reads' HO_14.out).2.2)
                (case side2 => exact (Kd.R_reads' HO_14.out).2.1)
                rintro e w63 ⟨rfl, hb⟩
                refine ⟨_, rfl, ?_⟩
                replace HO_12 := ak (Kd.R_below (rdl HO_12) hb)
                replace HO_14 := ak (Kd.R_below (rdl HO_14) hb)
                replace BK224 := ak (blk_below (blkd BK224) hb)
                replace BK229 := ak (blk_below (blkd BK229) hb)
                replace HB := ak (below_step (belowg2 HB GE224 GE229) hb)
                (try clear hb); (try clear hb2); (try clear hk); (try clear hi)
                refine hK.out _ _ ⟨bq BK229 0, bq BK229 1, bq BK229 2⟩ (fun hHeld => ?_)
                clear hK K
                refine norm_ (a' := ?_) ?_ ?_
                rotate_left
                ·show Act.put _ (some 81) _ = _
                 simp only [Act.put, List.setIfInBounds_toArray, List.set_cons_zero, List.set_cons_succ, i64_w, i32_w]
                 rfl
                refine pureA 16 (some 82) 18 131071 HT_ ?_
                refine pureA 17 (some 83) 18 262143 HT_ ?_
                refine done_ (done_of HT_.out (by kernel_rfl)) ?_
                obtain ⟨hcz64_0, hcz64_1, hcz64_2, hfz64_0, hfz64_1, hfz64_2⟩ := box3 BK224
                try go_wp2
                go_roundg k4
                case measure => have := HJ4.out; have := HK2.out; have := HK3.out; have := HK4.out; omega
                case rel => exact ⟨(wrap64 (x61_4 + 1)), (wrap64 (x225001_4 + 1)), er, H', ⟨by have := HJ4.out; have := HK2.out; have := HK3.out; have := HK4.out; omega⟩, ⟨by (with_reducible repeat (first | apply Kd.R_alloc | apply Kd.R_drewN | apply Kd.R_drew)); exact Kd.R_mono (Kd.R_far (p := ⟨gb224, 1, none⟩) (Kd.R_mono HO_12.out (fun k_ hk => (⟨hk, hk⟩ : _ ∧ k_ ≠ gb224))) (fun _ hk => hk.2) (.int .i64 (wrap64 (x225001_4 + 1)))) (fun _ hk => hk.1)⟩, ⟨by (with_reducible repeat (first | apply Kd.R_alloc | apply Kd.R_drewN | apply Kd.R_drew)); exact Kd.R_mono (Kd.R_far (p := ⟨gb224, 1, none⟩) (Kd.R_types HO_14.out BK224.out (by decide)) (fun _ hk => hk.2) (.int .i64 (wrap64 (x225001_4 + 1)))) (fun _ hk => trivial)⟩, ⟨by (with_reducible repeat (first | refine blk_drewN ?_ _ | refine blk_drew ?_ | refine blk_alloc ?_ _)); refine blk_put (cs := #[.int .i64 x13_3, .int .i64 x225001_4, .int .i64 (t221.length : Int)]) ?_ 1 _ rfl; (with_reducible repeat (first | refine blk_drewN ?_ _ | refine blk_drew ?_ | refine blk_alloc ?_ _)); exact BK224.out⟩, ⟨belowg2 HB GE224 GE229⟩⟩
             ·rw [if_neg c34] at H
              have c34b0 : (((rd_T85 l2 x61_4).f0) == x13_3) = false := beq_eq_false_iff_ne.mpr c34
              have c34b1 : (((rd_T85 l2 x61_4).f0) != x13_3) = true := bne_iff_ne.mpr c34
              have H' := Aside0.mk H
              clear H
              have p228 : 0 ≤ (x61_4 : Int) := da
              have q228 : x61_4 < (l2.length : Int) := da
              obtain ⟨ad228, e228, hx228_0, hx228_1, hx228_2⟩ := at_T85 HR2.out x61_4 p228 q228
              cases e228
              replace hx228_0 := (HB.out.cell (World.block_lt_of_cell? w _ hx228_0)).trans hx228_0
              replace hx228_1 := (HB.out.cell (World.block_lt_of_cell? w _ hx228_1)).trans hx228_1
              replace hx228_2 := (HB.out.cell (World.block_lt_of_cell? w _ hx228_2)).trans hx228_2
              replace p228 := eq_true p228; replace q228 := eq_true q228
              try go_wp2_with (first | ((with_reducible refine gate_dst (N := 17) rfl ?_); (try (refine gate_guard (by rfl) ?_; dsimp only)); refine boxev 17 #[.int .i64 0, .int .i64 0, .int .i64 0] 85 ?_; intro gb229 hg w65 hbox hb; replace HO_12 := ak (Kd.R_below (rdl HO_12) hb); replace HO_14 := ak (Kd.R_below (Kd.R_elderB (rdl HO_14) gb229 (Nat.le_of_eq hg.symm)) hb); have BK229 := ak (hbox); have GW229 := ak (hgl hg (belowg1 HB GE224)); have GE229 := ak (hgl hg (belowg1 HB GE224)); replace HB := ak (below_step (belowg1 HB GE224) hb); have NB224_229 := ak ((by rw [hg]; exact Nat.ne_of_lt (blk_lt (blkd BK224)) : gb224 ≠ gb229)); have NB229_224 := ak ((by rw [hg]; exact Nat.ne_of_gt (blk_lt (blkd BK224)) : gb229 ≠ gb224)); replace BK224 := ak (blk_below (blkd BK224) hb); clear hb hbox hg; have hnb66 := NB229_224.out; have hnc66 := NB224_229.out; obtain ⟨hcz67_0, hcz67_1, hcz67_2, hfz67_0, hfz67_1, hfz67_2⟩ := box3 BK229))
              have n0_ : Aside0 (Kd.R k110 110 (((w65.setCell ⟨gb229, 0, none⟩ (.int .i64 ((rd_T85 l2 x61_4).f0))).setCell ⟨gb229, 1, none⟩ (.int .i64 ((rd_T85 l2 x61_4).f1))).setCell ⟨gb229, 2, none⟩ (.int .i64 ((rd_T85 l2 x61_4).f2))) w.heap.size (fun k_ => k_ ≠ gb224) u12 x12_3) := ⟨by (with_reducible repeat (first | apply Kd.R_alloc | apply Kd.R_drewN | apply Kd.R_drew)); exact Kd.R_mono (farsR (Kd.R_types HO_12.out BK229.out (by decide))) (fun _ hk => hk.1)⟩
              have n1_ : Aside0 (Kd.R k85 85 (((w65.setCell ⟨gb229, 0, none⟩ (.int .i64 ((rd_T85 l2 x61_4).f0))).setCell ⟨gb229, 1, none⟩ (.int .i64 ((rd_T85 l2 x61_4).f1))).setCell ⟨gb229, 2, none⟩ (.int .i64 ((rd_T85 l2 x61_4).f2))) w.heap.size (fun k_ => k_ ≠ gb229) (.slice Ao28 t221.length co28) t221) := ⟨by (with_reducible repeat (first | apply Kd.R_alloc | apply Kd.R_drewN | apply Kd.R_drew)); exact Kd.R_mono (farsR (Kd.R_mono HO_14.out (fun k_ hk => (⟨hk, hk.2⟩ : _ ∧ k_ ≠ gb229)))) (fun _ hk => hk.1.2)⟩
              have n2_ : Aside0 ((((w65.setCell ⟨gb229, 0, none⟩ (.int .i64 ((rd_T85 l2 x61_4).f0))).setCell ⟨gb229, 1, none⟩ (.int .i64 ((rd_T85 l2 x61_4).f1))).setCell ⟨gb229, 2, none⟩ (.int .i64 ((rd_T85 l2 x61_4).f2))).heap[gb224]? = some (.cells #[.int .i64 x13_3, .int .i64 x225001_4, .int .i64 (t221.length : Int)] 110 (0, 0))) := ⟨by (with_reducible repeat (first | refine blk_drewN ?_ _ | refine blk_drew ?_ | refine blk_alloc ?_ _)); refine blk_far ?_ NB224_229.out _; (with_reducible repeat (first | refine blk_drewN ?_ _ | refine blk_drew ?_ | refine blk_alloc ?_ _)); refine blk_far ?_ NB224_229.out _; (with_reducible repeat (first | refine blk_drewN ?_ _ | refine blk_drew ?_ | refine blk_alloc ?_ _)); refine blk_far ?_ NB224_229.out _; (with_reducible repeat (first | refine blk_drewN ?_ _ | refine blk_drew ?_ | refine blk_alloc ?_ _)); exact BK224.out⟩
              have n3_ : Aside0 ((((w65.setCell ⟨gb229, 0, none⟩ (.int .i64 ((rd_T85 l2 x61_4).f0))).setCell ⟨gb229, 1, none⟩ (.int .i64 ((rd_T85 l2 x61_4).f1))).setCell ⟨gb229, 2, none⟩ (.int .i64 ((rd_T85 l2 x61_4).f2))).heap[gb229]? = some (.cells #[.int .i64 ((rd_T85 l2 x61_4).f0), .int .i64 ((rd_T85 l2 x61_4).f1), .int .i64 ((rd_T85 l2 x61_4).f2)] 85 (0, 0))) := ⟨by (with_reducible repeat (first | refine blk_drewN ?_ _ | refine blk_drew ?_ | refine blk_alloc ?_ _)); refine blk_put (cs := #[.int .i64 ((rd_T85 l2 x61_4).f0), .int .i64 ((rd_T85 l2 x61_4).f1), .int .i64 0]) ?_ 2 _ rfl; (with_reducible repeat (first | refine blk_drewN ?_ _ | refine blk_drew ?_ | refine blk_alloc ?_ _)); refine blk_put (cs := #[.int .i64 ((rd_T85 l2 x61_4).f0), .int .i64 0, .int .i64 0]) ?_ 1 _ rfl; (with_reducible repeat (first | refine blk_drewN ?_ _ | refine blk_drew ?_ | refine blk_alloc ?_ _)); refine blk_put (cs := #[.int .i64 0, .int .i64 0, .int .i64 0]) ?_ 0 _ rfl; (with_reducible repeat (first | refine blk_drewN ?_ _ | refine blk_drew ?_ | refine blk_alloc ?_ _)); exact BK229.out⟩
              have n4_ : Aside0 (Below w.heap.size w (((w65.setCell ⟨gb229, 0, none⟩ (.int .i64 ((rd_T85 l2 x61_4).f0))).setCell ⟨gb229, 1, none⟩ (.int .i64 ((rd_T85 l2 x61_4).f1))).setCell ⟨gb229, 2, none⟩ (.int .i64 ((rd_T85 l2 x61_4).f2)))) := ⟨belowg2 HB GE224 GE229⟩
              (try clear HO_12); (try clear HO_14); (try clear BK224); (try clear BK229); (try clear HB)
              generalize (((w65.setCell ⟨gb229, 0, none⟩ (.int .i64 ((rd_T85 l2 x61_4).f0))).setCell ⟨gb229, 1, none⟩ (.int .i64 ((rd_T85 l2 x61_4).f1))).setCell ⟨gb229, 2, none⟩ (.int .i64 ((rd_T85 l2 x61_4).f2))) = w68 at n0_ n1_ n2_ n3_ n4_ ⊢
              have HO_12 := n0_
              have HO_14 := n1_
              have BK224 := n2_
              have BK229 := n3_
              have HB := n4_
              clear n0_ n1_ n2_ n3_ n4_
              replace HO_12 := ak (Kd.R_drew HO_12.out)
              replace HO_14 := ak (Kd.R_drew HO_14.out)
              replace BK224 := ak (blk_drew BK224.out)
              replace BK229 := ak (blk_drew BK229.out)
              replace HB := ak (below_drew1 HB.out)
              refine start_ (n := 18) (S := fun w' => w'.cell? ⟨gb229, 0, none⟩ = some (.int .i64 ((rd_T85 l2 x61_4).f0)) ∧ w'.cell? ⟨gb229, 1, none⟩ = some (.int .i64 ((rd_T85 l2 x61_4).f1)) ∧ w'.cell? ⟨gb229, 2, none⟩ = some (.int .i64 ((rd_T85 l2 x61_4).f2))) (ds := []) (bl 18 0) (by kernel_rfl) rfl rfl ⟨bq BK229 0, bq BK229 1, bq BK229 2⟩ (fun hHeld => ?_); refine with_tabW spec_TallyOf.tab18 spec_TallyOf.bits18 (fun HT_ HW_ => ?_)
              generalize w68.drew = w69 at HO_12 HO_14 BK224 BK229 HB hHeld ⊢
              refine pureA 0 (some 66) 18 1 HT_ ?_
              refine pureA 2 (some 68) 18 5 HT_ ?_
              refine takeA 1 (some 67) 18 7 HT_ HW_ hHeld ?_ (hy := by rintro w' ⟨s0, s1, s2⟩; go_simp; with_reducible rfl)
              refine pureA 3 (some 69) 18 15 HT_ ?_
              refine pureA 4 (some 70) 18 31 HT_ ?_
              refine pureB 5 (some 71) 18 63 HT_ ?_
              refine pureB 6 (some 72) 18 127 HT_ ?_
              refine pureB 7 (some 73) 18 255 HT_ ?_
              refine pureB 8 (some 74) 18 511 HT_ ?_
              refine pureB 9 (some 75) 18 1023 HT_ ?_
              refine pureB 10 (some 76) 18 2047 HT_ ?_
              refine pureA 11 (some 77) 18 4095 HT_ ?_
              refine pureA 12 (some 78) 18 8191 HT_ ?_
              refine pureB 13 (some 79) 18 16383 HT_ ?_
              refine pureB 14 (some 80) 18 32767 HT_ ?_
              refine pureB 15 (some 81) 18 65535 HT_ ?_
              refine pureB 16 (some 82) 18 131071 HT_ ?_
              refine pureA 17 (some 83) 18 262143 HT_ ?_
              refine done_ (done_of HT_.out (by kernel_rfl)) ?_
              try go_wp2
              go_roundg k4
              case measure => have := HJ4.out; have := HK2.out; have := HK3.out; have := HK4.out; omega
              case rel => exact ⟨(wrap64 (x61_4 + 1)), (x225001_4), er, H', ⟨by have := HJ4.out; have := HK2.out; have := HK3.out; have := HK4.out; omega⟩, ⟨rdl HO_12⟩, ⟨by (with_reducible repeat (first | apply Kd.R_alloc | apply Kd.R_drewN | apply Kd.R_drew)); exact Kd.R_mono HO_14.out (fun _ hk => trivial)⟩, ⟨blkd BK224⟩, ⟨belowg2 HB GE224 GE229⟩⟩
            ·rw [if_neg c31] at H
             have c31b0 : decide (x61_4 < (l2.length : Int)) = false := decide_eq_false c31
             clear c31; replace H := ifS H; obtain ⟨c70, H⟩ := H; have LMc70 := Aside0.mk c70; clear c70
             obtain ⟨y225, hy_⟩ : ∃ y_ : List (S110), y_ = (x12_3 ++ [(⟨x13_3, x225001_4, (t221.length : Int)⟩ : S110)]) := ⟨_, rfl⟩
             replace H : (spec_TallyOf.l1 k4 a0 a1 l2 l3 y225 (wrap64 (x13_3 + 1))) = some (r1, r2) := yH
             have Ny225 := ak hy_; clear hy_
             have H' := Aside0.mk H
             clear H; obtain ⟨hcz71_0, hcz71_1, hcz71_2, hfz71_0, hfz71_1, hfz71_2⟩ := box3 BK224
             go_wp2_with (first | ((with_reducible refine gate_builtin (b := .append) (xs := #[.tmp 89, .tmp 91]) rfl ?_); (try (refine gate_guard (by rfl) ?_; dsimp only)); at_builtin; refine Kd.R_append k110 (w0 := w) w.heap.size rfl (.tmp 89) (.tmp 91) 99 110 (.agg #[(.int .i64 0), (.int .i64 0), (.int .i64 0)]) 24 rfl Try.underlying99 info110 rfl (by decide) (by omega) u12 x12_3 (⟨x13_3, x225001_4, (t221.length : Int)⟩ : S110) [.int .i64 x13_3, .int .i64 x225001_4, .int .i64 (t221.length : Int)] (fun k_ => k_ ≠ gb224) (fun _ => False) rfl rfl ?aP (fun _ hk => hk.elim) ?aF ?aO ?aB ?aS ?aL ?_; (case aP => exact k110_mkM _ _ _ (⟨x13_3, x225001_4, (t221.length : Int)⟩ : S110)); (case aB => exact (belowg1 HB GE224)); (case aF => exact (fun k_ hk => Kd.freshB (blkd BK224) k_ hk)); (case aO => exact (rdl HO_12)); (case aS => exact (below_size (belowg1 HB GE224))); (case aL => have := LMc70.out; omega); intro v226 w72 ho hb hg hat; rw [← Ny225.out] at ho; replace HO_14 := ak (Kd.R_over' (rdl HO_14) (Kd.R_typed (rdl HO_12)) (by decide) hg); replace BK224 := ak (blk_grown (blkd BK224) hg (Kd.R_away HO_12.out (fun _ hk => hk))); replace HB := ak (hb); have HO227 := ak (ho); clear HO_12; clear ho hb hg hat))
             go_roundg k4
             case measure => have := HJ4.out; have := HK2.out; have := HK3.out; have := HK4.out; omega
             case rel => exact ⟨(y225), (wrap64 (x13_3 + 1)), er, H', ⟨by have := HJ4.out; have := HK2.out; have := HK3.out; have := HK4.out; omega⟩, ⟨by (with_reducible repeat (first | apply Kd.R_alloc | apply Kd.R_drewN | apply Kd.R_drew)); exact Kd.R_mono HO227.out (fun _ hk => trivial)⟩, ⟨belowg1 HB GE224⟩⟩
         ·rw [if_neg c25] at H
          have c25b0 : decide (x13_3 < a0) = false := decide_eq_false c25
          clear c25
          simp only [Option.some.injEq, Prod.mk.injEq] at H
          obtain ⟨rfl, rfl⟩ := H; go_wp2
          go_ret2
          exact ⟨_, er2, by (with_reducible repeat (first | apply Kd.R_alloc | apply Kd.R_drewN | apply Kd.R_drew)); exact HO_12.out, belowd HB⟩

/-! ### laws_toClaimS: function 70 -/
def laws_toClaimS.l0 : Nat → List (S174) → List (S85) → Int → Option ((List (S85)))
  | 0, _, _, _ => none
  | k + 1, x0, x3, x4 => if x4 < (x0.length : Int) then (if 0 ≤ x4 then ((laws_toClaim.f ((rd_T174 x0 x4).f0) ((rd_T174 x0 x4).f1) ((rd_T174 x0 x4).f2)).bind fun bt240 => (if x4 < (x3.length : Int) then (laws_toClaimS.l0 k x0 (x3.set (x4 : Int).toNat (⟨bt240.1, bt240.2.1, bt240.2.2⟩ : S85)) (wrap64 (x4 + 1))) else (none))) else (none)) else (some x3)
def laws_toClaimS.f (k : Nat) (l0 : List (S174)) : Option ((List (S85))) := if 0 ≤ (l0.length : Int) then (if ((l0.length : Int) : Int).toNat ≤ 11728124029610 then (laws_toClaimS.l0 k l0 (List.replicate ((l0.length : Int) : Int).toNat z85) 0) else (none)) else (none)
theorem laws_toClaimS.mono_l : ∀ k, (∀ y0 y1 y2, LeO (laws_toClaimS.l0 k y0 y1 y2) (laws_toClaimS.l0 (k + 1) y0 y1 y2))
 | 0 => fun _ _ _ r h => by simp [laws_toClaimS.l0] at h
 | k + 1 => by
  have ih0 := laws_toClaimS.mono_l k
  ·intro y0 y1 y2
   unfold laws_toClaimS.l0
   repeat' (first | (with_reducible first | exact ih0 _ _ _ | exact LeO.refl _ | exact LeO.none _ | refine LeO.ite ?_ ?_ | refine LeO.bind ?_ (fun _ => ?_)) | exact ih0 _ _ _ | exact LeO.none _ | refine LeO.ite ?_ ?_ | refine LeO.bind ?_ (fun _ => ?_))
theorem laws_toClaimS.mono : ∀ a0 k, LeO (laws_toClaimS.f k a0) (laws_toClaimS.f (k + 1) a0) := by
 intro a0 k
 have ih0 := laws_toClaimS.mono_l k
 unfold laws_toClaimS.f
 repeat' (first | (with_reducible first | exact ih0 _ _ _ | exact LeO.refl _ | exact LeO.none _ | refine LeO.ite ?_ ?_ | refine LeO.bind ?_ (fun _ => ?_)) | exact ih0 _ _ _ | exact LeO.none _ | refine LeO.ite ?_ ?_ | refine LeO.bind ?_ (fun _ => ?_))
set_option maxHeartbeats 8000000 in
set_option maxRecDepth 100000 in
theorem laws_toClaimS.calls (k : Nat) (A0 : Option Addr) (c0 : Nat) (l0 : List (S174)) (r : List (S85)) (w : World) (hr0 : Kd.C k174 w A0 l0.length l0) (hc0 : l0.length ≤ c0) (h : laws_toClaimS.f k l0 = some r) :
  Calls Try.prog 70 #[.slice A0 l0.length c0] w fun e w' => ∃ v0_ : Value, e = .returned (v0_) ∧ Kd.R k85 85 w' w.heap.size (fun _ => True) v0_ r ∧ Below w.heap.size w w' := by
 have hu174 := Try.underlying174
 have hu85 := Try.underlying85
 have HR0 := Aside0.mk hr0; have HC0 := Aside0.mk hc0; clear hr0 hc0
 have HB := Aside0.mk (Below.refl w.heap.size w)
 have H : (if 0 ≤ (l0.length : Int) then (if ((l0.length : Int) : Int).toNat ≤ 11728124029610 then (laws_toClaimS.l0 k l0 (List.replicate ((l0.length : Int) : Int).toNat z85) 0) else (none)) else (none)) = some r := h
 clear h; replace H := ifS H; obtain ⟨c2, H⟩ := H; have c2b0 := eq_true c2
 have c2b1 : decide (0 ≤ (l0.length : Int)) = true := decide_eq_true c2
 clear c2; replace H := ifS H; obtain ⟨c3, H⟩ := H; have c3b0 := eq_true c3
 have c3b1 : decide (((l0.length : Int) : Int).toNat ≤ 11728124029610) = true := decide_eq_true c3
 clear c3
 obtain ⟨y236, hy_⟩ : ∃ y_ : List (S85), y_ = (List.replicate ((l0.length : Int) : Int).toNat z85) := ⟨_, rfl⟩
 replace H : (laws_toClaimS.l0 k l0 y236 0) = some r := yH
 have Ny236 := ak hy_; clear hy_
 have H' := Aside0.mk H
 clear H
 go_enter Try.func70, Try.ntmps70
 go_wp2_with (first | ((with_reducible refine gate_dst (N := 7) rfl ?_); refine Kd.R_make k85 _ 85 rfl (N := 7) rfl 70 _ _ rfl (l0.length : Int) rfl rfl Try.underlying70 (.agg #[(.int .i64 0), (.int .i64 0), (.int .i64 0)]) 24 info85 rfl (by decide) (by omega) z85 (ok := fun _ => True) (okp := fun _ => True) (k85_mkM _ _ _ z85 ) (fun _ hk => hk) trivial (da) (Nat.le_trans (Nat.mul_le_mul_right _ (da : (l0.length : Int).toNat ≤ 11728124029610)) (by omega)) (Below.refl _ _) (Nat.le_refl _) ?_; intro v237 w4 ho5 hb hg_ hnew_; clear hg_ hnew_; (first | rw [← Ny236.out] at ho5 | (simp only [Int.reduceToNat] at ho5; rw [← Ny236.out] at ho5)); have HO238 := ak (Kd.R_lower ho5 (below_size (belowd HB))); replace HB := ak (below_step (belowd HB) hb); clear hb ho5))
 go_loopg [4] k (fun kq v4 w' => ∃ (x3_1 : List (S85)) (x4_1 : Int), v4 = .int .i64 x4_1 ∧ Aside0 (laws_toClaimS.l0 kq l0 x3_1 x4_1 = some r) ∧ Aside0 (kq ≤ k) ∧ Aside0 (Kd.R k85 85 w' w.heap.size (fun _ => True) v237 x3_1) ∧ Aside0 (Below w.heap.size w w'))
 case atStart => exact ⟨(y236), (0), er, H', ⟨Nat.le_refl _⟩, ⟨rdl HO238⟩, ⟨belowd HB⟩⟩
 case round =>
  clear H'
  (try clear c2b0); (try clear c2b1); (try clear c3b0); (try clear c3b1)
  obtain ⟨x3_1, x4_1, rfl, HA, HK1, HO_3, HB⟩ := hrel
  cases gk with
  | zero => exact absurd HA.out (by simp [laws_toClaimS.l0])
  | succ k1 =>
   have H := HA.out; clear HA
   simp only [laws_toClaimS.l0] at H
   by_cases c6 : x4_1 < (l0.length : Int)
   ·rw [if_pos c6] at H
    have c6b0 : decide (x4_1 < (l0.length : Int)) = true := decide_eq_true c6
    clear c6; replace H := ifS H; obtain ⟨c7, H⟩ := H; have c7b0 := decide_eq_true c7; clear c7; replace H := bS H; obtain ⟨⟨t240, t241, t242⟩, A8, H⟩ := H
    replace H : (if x4_1 < (x3_1.length : Int) then (laws_toClaimS.l0 k1 l0 (x3_1.set (x4_1 : Int).toNat (⟨t240, t241, t242⟩ : S85)) (wrap64 (x4_1 + 1))) else (none)) = some r := H
    replace H := ifS H; obtain ⟨c9, H⟩ := H; have c9b0 := decide_eq_true c9; clear c9
    obtain ⟨y243, hy_⟩ : ∃ y_ : List (S85), y_ = (x3_1.set (x4_1 : Int).toNat (⟨t240, t241, t242⟩ : S85)) := ⟨_, rfl⟩
    replace H : (laws_toClaimS.l0 k1 l0 y243 (wrap64 (x4_1 + 1))) = some r := yH
    have Ny243 := ak hy_; clear hy_
    have H' := Aside0.mk H
    clear H
    have p239 : 0 ≤ (x4_1 : Int) := da
    have q239 : x4_1 < (l0.length : Int) := da
    obtain ⟨ad239, e239, hx239_0, hx239_1, hx239_2⟩ := at_T174 HR0.out x4_1 p239 q239
    cases e239
    replace hx239_0 := (HB.out.cell (World.block_lt_of_cell? w _ hx239_0)).trans hx239_0
    replace hx239_1 := (HB.out.cell (World.block_lt_of_cell? w _ hx239_1)).trans hx239_1
    replace hx239_2 := (HB.out.cell (World.block_lt_of_cell? w _ hx239_2)).trans hx239_2
    replace p239 := eq_true p239; replace q239 := eq_true q239
    go_wp2_with (first | ((with_reducible refine gate_callee (f := 157) rfl ?_); refine goesLa (some 20) rfl Try.func157 #[.agg #[.int .i64 ((rd_T174 l0 x4_1).f0), .int .i64 ((rd_T174 l0 x4_1).f1), .int .i64 ((rd_T174 l0 x4_1).f2)]] rfl ?_; (with_reducible refine (laws_toClaim.calls ((rd_T174 l0 x4_1).f0) ((rd_T174 l0 x4_1).f1) ((rd_T174 l0 x4_1).f2) t240 t241 t242 _ A8.out).mono ?_); rintro e w11 ⟨rfl, hb⟩; refine ⟨_, rfl, ?_⟩; replace HO_3 := ak (Kd.R_below (rdl HO_3) hb); replace HB := ak (below_step (belowd HB) hb); (try clear hb); have p10 : 0 ≤ (x4_1 : Int) := da; have q10 : (x4_1 : Int) < ((x3_1.length : Int) : Int) := da; obtain ⟨go10, co10, eo10, gb10, gl10, cl10, HG10⟩ := Kd.R_form HO_3.out (by omega); (first | cases eo10 | (injection eo10 with ea_ en_ ec_; (first | subst ea_ | (injection ea_ with ea_; subst ea_)); subst ec_; clear en_)); have GB10 := Aside0.mk gb10; have GG10 := Aside0.mk HG10; clear gb10 gl10 HG10; obtain ⟨ce10, hcl10, hM10, hcc10, hfr10⟩ := Kd.R_elem HO_3.out z85 (x4_1 : Int) p10 q10; obtain rfl := k85_openM hM10; have hx10_0 : w11.cell? ⟨go10, (x4_1 : Int).toNat * 3, none⟩ = some (.int .i64 ((rd_T85 x3_1 x4_1).f0)) := hcc10 0 _ rfl; have hx10_1 : w11.cell? ⟨go10, (x4_1 : Int).toNat * 3 + 1, none⟩ = some (.int .i64 ((rd_T85 x3_1 x4_1).f1)) := hcc10 1 _ rfl; have hx10_2 : w11.cell? ⟨go10, (x4_1 : Int).toNat * 3 + 2, none⟩ = some (.int .i64 ((rd_T85 x3_1 x4_1).f2)) := hcc10 2 _ rfl; have hf10_0 : w11.frozen? ⟨go10, (x4_1 : Int).toNat * 3, none⟩ = false := hfr10 0; have hf10_1 : w11.frozen? ⟨go10, (x4_1 : Int).toNat * 3 + 1, none⟩ = false := hfr10 1; have hf10_2 : w11.frozen? ⟨go10, (x4_1 : Int).toNat * 3 + 2, none⟩ = false := hfr10 2; clear hcl10 hcc10 hfr10 hM10; replace p10 := eq_true p10; replace q10 := eq_true q10; have HX12 := Aside0.mk (show Kd.R k85 85 w11 w.heap.size (fun _ => True) (.slice (some ⟨go10, 0, none⟩) x3_1.length co10) x3_1 from (rdl HO_3)); obtain ⟨ce12, hcl12, hM12, hcc12, hfr12⟩ := Kd.R_elem HX12.out z85 (x4_1 : Int) (da) (by have h_ : (x4_1 : Int) < ((x3_1.length : Int) : Int) := da; first | exact h_ | (have e_ := (Kd.R_reads' HO_3.out).1; omega) | simpa using h_); obtain rfl := k85_openM hM12; have HP12 := Kd.R_seg HX12.out (x4_1 : Int) (da) (by have h_ : (x4_1 : Int) < ((x3_1.length : Int) : Int) := da; first | exact h_ | (have e_ := (Kd.R_reads' HO_3.out).1; omega) | simpa using h_) (seg := [.int .i64 t240, .int .i64 t241, .int .i64 t242]) (j := 0) hcl12 hcc12 (show 3 ≤ 3 from by decide) (x' := (⟨t240, t241, t242⟩ : S85)) (k85_mkM _ _ _ (⟨t240, t241, t242⟩ : S85) ) (fun _ hk => hk); have hx12_0 := hcc12 0 _ rfl; (try simp only [show (k85).sz = 3 from rfl, Nat.mul_one, Nat.add_zero] at hx12_0); have hf12_0 := hfr12 0; (try simp only [show (k85).sz = 3 from rfl, Nat.mul_one, Nat.add_zero] at hf12_0); have hx12_1 := hcc12 1 _ rfl; (try simp only [show (k85).sz = 3 from rfl, Nat.mul_one, Nat.add_zero] at hx12_1); have hf12_1 := hfr12 1; (try simp only [show (k85).sz = 3 from rfl, Nat.mul_one, Nat.add_zero] at hf12_1); have hx12_2 := hcc12 2 _ rfl; (try simp only [show (k85).sz = 3 from rfl, Nat.mul_one, Nat.add_zero] at hx12_2); have hf12_2 := hfr12 2; (try simp only [show (k85).sz = 3 from rfl, Nat.mul_one, Nat.add_zero] at hf12_2); clear hcl12 hcc12 hfr12 hM12) | ((with_reducible refine gate_store (t := 85) (p := 21) rfl ?_); refine store_event (t := 85) (p := 21) (v := ?vo_w13) (w1 := (((w11.setCell ⟨go10, (x4_1 : Int).toNat * 3, none⟩ (.int .i64 t240)).setCell ⟨go10, (x4_1 : Int).toNat * 3 + 1, none⟩ (.int .i64 t241)).setCell ⟨go10, (x4_1 : Int).toNat * 3 + 2, none⟩ (.int .i64 t242))) ?hg ?ho ?hn ?hr ?_; (case ho => rfl); (case hg => rfl); (case hn => rfl); (case hr => first | (go_simp; done) | (go_simp; rfl)); intro w13 hw; have hg : w11.grownBy w13 (some go10) := (by rw [hw]; exact HP12.2); have hp_ : Kd.R k85 85 w13 w.heap.size (fun _ => True) (.slice (some ⟨go10, 0, none⟩) x3_1.length co10) y243 := (by rw [hw, Ny243.out]; exact HP12.1); clear HP12; replace HO_3 := ak (hp_); replace HB := ak ((by rw [hw]; exact below_set (below_set (below_set (HB.out) GB10.out) GB10.out) GB10.out : Below w.heap.size w w13)); clear hg hw hp_))
    go_roundg k1
    case measure => have := HK1.out; omega
    case rel => exact ⟨(y243), (wrap64 (x4_1 + 1)), er, H', ⟨by have := HK1.out; omega⟩, ⟨rdl HO_3⟩, ⟨belowd HB⟩⟩
   ·rw [if_neg c6] at H
    have c6b0 : decide (x4_1 < (l0.length : Int)) = false := decide_eq_false c6
    clear c6
    obtain rfl := Option.some.inj H
    go_wp2
    go_ret
    exact ⟨_, er2, by (with_reducible repeat (first | apply Kd.R_alloc | apply Kd.R_drewN | apply Kd.R_drew)); exact HO_3.out, belowd HB⟩

/-! ### impl_within: function 125 -/
def impl_within.f (a0 : Int) (a1 : Int) (a2 : Int) : Option (Bool) := if a0 ≥ a1 then (some (decide (a0 ≤ a2))) else (some false)
set_option maxHeartbeats 8000000 in
set_option maxRecDepth 100000 in
theorem impl_within.calls (a0 : Int) (a1 : Int) (a2 : Int) (r : Bool) (w : World) (h : impl_within.f a0 a1 a2 = some r) :
  Calls Try.prog 125 #[.int .i64 a0, .int .i64 a1, .int .i64 a2] w fun e w' => e = .returned (.bool r) ∧ Drawn0 w w' := by
 have H : (if a0 ≥ a1 then (some (decide (a0 ≤ a2))) else (some false)) = some r := h
 clear h
 by_cases c4 : a0 ≥ a1
 ·rw [if_pos c4] at H
  have c4b0 : decide (a1 ≤ a0) = true := decide_eq_true c4
  clear c4
  obtain rfl := Option.some.inj H
  go_enter Try.func125, Try.ntmps125
  go_wp2
  go_ret
  exact ⟨er, drw⟩
 ·rw [if_neg c4] at H
  have c4b0 : decide (a1 ≤ a0) = false := decide_eq_false c4
  clear c4
  obtain rfl := Option.some.inj H
  go_enter Try.func125, Try.ntmps125
  go_wp2
  go_ret
  exact ⟨er, drw⟩

/-! ### impl_areFaults: function 124 -/
def impl_areFaults.f (a0 : Int) : Option (Bool) := (impl_within.f a0 0 2).bind fun t244 => (some t244)
set_option maxHeartbeats 8000000 in
set_option maxRecDepth 100000 in
theorem impl_areFaults.calls (a0 : Int) (r : Bool) (w : World) (h : impl_areFaults.f a0 = some r) :
  Calls Try.prog 124 #[.int .i64 a0] w fun e w' => e = .returned (.bool r) ∧ Drawn0 w w' := by
 have H : ((impl_within.f a0 0 2).bind fun t244 => (some t244)) = some r := h
 clear h; replace H := bS H; obtain ⟨t244, A2, H⟩ := H
 replace H : (some t244) = some r := H
 obtain rfl := Option.some.inj H
 go_enter Try.func124, Try.ntmps124
 go_wp2_with (first | ((with_reducible refine gate_callee (f := 125) rfl ?_); refine goesLa (some 4) rfl Try.func125 #[.int .i64 a0, .int .i64 0, .int .i64 2] rfl ?_; (with_reducible refine (impl_within.calls a0 0 2 t244 _ A2.out).mono ?_); rintro e w' ⟨rfl, ⟨nd, rfl⟩⟩; refine ⟨_, rfl, ?_⟩))
 go_ret
 exact ⟨er, drw⟩

-- NOT PRINTED: function 228 (impl_Statement_228)

-- NOT PRINTED: function 199 (impl_Statement_199)

/-! ### impl_isLetterNumber: function 205 -/
def impl_isLetterNumber.f (a0 : Int) : Option (Bool) := (impl_within.f a0 0 1000).bind fun t245 => (some t245)
set_option maxHeartbeats 8000000 in
set_option maxRecDepth 100000 in
theorem impl_isLetterNumber.calls (a0 : Int) (r : Bool) (w : World) (h : impl_isLetterNumber.f a0 = some r) :
  Calls Try.prog 205 #[.int .i64 a0] w fun e w' => e = .returned (.bool r) ∧ Drawn0 w w' := by
 have H : ((impl_within.f a0 0 1000).bind fun t245 => (some t245)) = some r := h
 clear h; replace H := bS H; obtain ⟨t245, A2, H⟩ := H
 replace H : (some t245) = some r := H
 obtain rfl := Option.some.inj H
 go_enter Try.func205, Try.ntmps205
 go_wp2_with (first | ((with_reducible refine gate_callee (f := 125) rfl ?_); refine goesLa (some 4) rfl Try.func125 #[.int .i64 a0, .int .i64 0, .int .i64 1000] rfl ?_; (with_reducible refine (impl_within.calls a0 0 1000 t245 _ A2.out).mono ?_); rintro e w' ⟨rfl, ⟨nd, rfl⟩⟩; refine ⟨_, rfl, ?_⟩))
 go_ret
 exact ⟨er, drw⟩

/-! ### impl_GoodClaim: function 145 -/
def impl_GoodClaim.f (a0_0 : Int) (a0_1 : Int) (a0_2 : Int) : Option (Bool) := (impl_within.f a0_0 0 20).bind fun t247 => (if t247 = true then ((impl_isLetterNumber.f a0_1).bind fun t248 => (if t248 = true then ((impl_within.f a0_2 0 100).bind fun t249 => (some t249)) else (some false))) else (some false))
set_option maxHeartbeats 8000000 in
set_option maxRecDepth 100000 in
theorem impl_GoodClaim.calls (a0_0 : Int) (a0_1 : Int) (a0_2 : Int) (r : Bool) (w : World) (h : impl_GoodClaim.f a0_0 a0_1 a0_2 = some r) :
  Calls Try.prog 145 #[.agg #[.int .i64 a0_0, .int .i64 a0_1, .int .i64 a0_2]] w fun e w' => e = .returned (.bool r) ∧ Below w.heap.size w w' := by
 have hu85 := Try.underlying85
 have HB := Aside0.mk (Below.refl w.heap.size w)
 have H : ((impl_within.f a0_0 0 20).bind fun t247 => (if t247 = true then ((impl_isLetterNumber.f a0_1).bind fun t248 => (if t248 = true then ((impl_within.f a0_2 0 100).bind fun t249 => (some t249)) else (some false))) else (some false))) = some r := h
 clear h; replace H := bS H; obtain ⟨t247, A2, H⟩ := H
 replace H : (if t247 = true then ((impl_isLetterNumber.f a0_1).bind fun t248 => (if t248 = true then ((impl_within.f a0_2 0 100).bind fun t249 => (some t249)) else (some false))) else (some false)) = some r := H
 by_cases c3 : t247 = true
 ·subst c3
  have H1 : ((impl_isLetterNumber.f a0_1).bind fun t248 => (if t248 = true then ((impl_within.f a0_2 0 100).bind fun t249 => (some t249)) else (some false))) = some r := by rw [if_pos rfl] at H; exact H
  clear H
  have H := H1
  clear H1; replace H := bS H; obtain ⟨t248, A4, H⟩ := H
  replace H : (if t248 = true then ((impl_within.f a0_2 0 100).bind fun t249 => (some t249)) else (some false)) = some r := H
  by_cases c5 : t248 = true
  ·subst c5
   have H1 : ((impl_within.f a0_2 0 100).bind fun t249 => (some t249)) = some r := by rw [if_pos rfl] at H; exact H
   clear H
   have H := H1
   clear H1; replace H := bS H; obtain ⟨t249, A6, H⟩ := H
   replace H : (some t249) = some r := H
   obtain rfl := Option.some.inj H
   go_enter Try.func145, Try.ntmps145
   go_wp2_with (first | ((with_reducible refine gate_dst (N := 1) rfl ?_); refine boxev 1 #[.int .i64 a0_0, .int .i64 a0_1, .int .i64 a0_2] 85 ?_; intro gb246 hg w7 hbox hb; have BK246 := ak (hbox); have GW246 := ak (hgl hg (belowd HB)); have GE246 := ak (hgl hg (belowd HB)); replace HB := ak (below_step (belowd HB) hb); clear hb hbox hg; obtain ⟨hcz8_0, hcz8_1, hcz8_2, hfz8_0, hfz8_1, hfz8_2⟩ := box3 BK246) | ((with_reducible refine gate_callee (f := 125) rfl ?_); refine goesLa (some 5) rfl Try.func125 #[.int .i64 a0_0, .int .i64 0, .int .i64 20] rfl ?_; (with_reducible refine (impl_within.calls a0_0 0 20 true _ A2.out).mono ?_); rintro e w' ⟨rfl, ⟨nd, rfl⟩⟩; refine ⟨_, rfl, ?_⟩) | (go_at_call 205; (with_reducible refine (impl_isLetterNumber.calls a0_1 true _ A4.out).mono ?_); rintro e w' ⟨rfl, ⟨nd, rfl⟩⟩) | (go_at_call 125; (with_reducible refine (impl_within.calls a0_2 0 100 t249 _ A6.out).mono ?_); rintro e w' ⟨rfl, ⟨nd, rfl⟩⟩))
   go_ret
   exact ⟨er2, belowg1 HB GE246⟩
  ·replace c5 := Bool.eq_false_iff.mpr c5
   subst c5
   have H1 : (some false) = some r := by rw [if_neg (show ¬ (false = true) by decide)] at H; exact H
   clear H
   have H := H1
   clear H1
   obtain rfl := Option.some.inj H
   go_enter Try.func145, Try.ntmps145
   go_wp2_with (first | ((with_reducible refine gate_dst (N := 1) rfl ?_); refine boxev 1 #[.int .i64 a0_0, .int .i64 a0_1, .int .i64 a0_2] 85 ?_; intro gb246 hg w9 hbox hb; have BK246 := ak (hbox); have GW246 := ak (hgl hg (belowd HB)); have GE246 := ak (hgl hg (belowd HB)); replace HB := ak (below_step (belowd HB) hb); clear hb hbox hg; obtain ⟨hcz10_0, hcz10_1, hcz10_2, hfz10_0, hfz10_1, hfz10_2⟩ := box3 BK246) | ((with_reducible refine gate_callee (f := 125) rfl ?_); refine goesLa (some 5) rfl Try.func125 #[.int .i64 a0_0, .int .i64 0, .int .i64 20] rfl ?_; (with_reducible refine (impl_within.calls a0_0 0 20 true _ A2.out).mono ?_); rintro e w' ⟨rfl, ⟨nd, rfl⟩⟩; refine ⟨_, rfl, ?_⟩) | (go_at_call 205; (with_reducible refine (impl_isLetterNumber.calls a0_1 false _ A4.out).mono ?_); rintro e w' ⟨rfl, ⟨nd, rfl⟩⟩))
   go_ret
   exact ⟨er2, belowg1 HB GE246⟩
 ·replace c3 := Bool.eq_false_iff.mpr c3
  subst c3
  have H1 : (some false) = some r := by rw [if_neg (show ¬ (false = true) by decide)] at H; exact H
  clear H
  have H := H1
  clear H1
  obtain rfl := Option.some.inj H
  go_enter Try.func145, Try.ntmps145
  go_wp2_with (first | ((with_reducible refine gate_dst (N := 1) rfl ?_); refine boxev 1 #[.int .i64 a0_0, .int .i64 a0_1, .int .i64 a0_2] 85 ?_; intro gb246 hg w11 hbox hb; have BK246 := ak (hbox); have GW246 := ak (hgl hg (belowd HB)); have GE246 := ak (hgl hg (belowd HB)); replace HB := ak (below_step (belowd HB) hb); clear hb hbox hg; obtain ⟨hcz12_0, hcz12_1, hcz12_2, hfz12_0, hfz12_1, hfz12_2⟩ := box3 BK246) | ((with_reducible refine gate_callee (f := 125) rfl ?_); refine goesLa (some 5) rfl Try.func125 #[.int .i64 a0_0, .int .i64 0, .int .i64 20] rfl ?_; (with_reducible refine (impl_within.calls a0_0 0 20 false _ A2.out).mono ?_); rintro e w' ⟨rfl, ⟨nd, rfl⟩⟩; refine ⟨_, rfl, ?_⟩))
  go_ret
  exact ⟨er2, belowg1 HB GE246⟩

/-! ### impl_isStatement: function 150 -/
def impl_isStatement.f (a0_0 : Int) (a0_1 : Int) (a0_2 : Int) (a0_3 : Int) (a0_4 : Bool) : Option (Bool) := (impl_within.f a0_0 0 6).bind fun t251 => (if t251 = true then ((impl_GoodClaim.f a0_1 a0_2 a0_3).bind fun t252 => (some t252)) else (some false))
set_option maxHeartbeats 8000000 in
set_option maxRecDepth 100000 in
theorem impl_isStatement.calls (a0_0 : Int) (a0_1 : Int) (a0_2 : Int) (a0_3 : Int) (a0_4 : Bool) (r : Bool) (w : World) (h : impl_isStatement.f a0_0 a0_1 a0_2 a0_3 a0_4 = some r) :
  Calls Try.prog 150 #[.agg #[.int .i64 a0_0, .int .i64 a0_1, .int .i64 a0_2, .int .i64 a0_3, .bool a0_4]] w fun e w' => e = .returned (.bool r) ∧ Below w.heap.size w w' := by
 have hu91 := Try.underlying91
 have hu85 := Try.underlying85
 have HB := Aside0.mk (Below.refl w.heap.size w)
 have H : ((impl_within.f a0_0 0 6).bind fun t251 => (if t251 = true then ((impl_GoodClaim.f a0_1 a0_2 a0_3).bind fun t252 => (some t252)) else (some false))) = some r := h
 clear h; replace H := bS H; obtain ⟨t251, A2, H⟩ := H
 replace H : (if t251 = true then ((impl_GoodClaim.f a0_1 a0_2 a0_3).bind fun t252 => (some t252)) else (some false)) = some r := H
 by_cases c3 : t251 = true
 ·subst c3
  have H1 : ((impl_GoodClaim.f a0_1 a0_2 a0_3).bind fun t252 => (some t252)) = some r := by rw [if_pos rfl] at H; exact H
  clear H
  have H := H1
  clear H1; replace H := bS H; obtain ⟨t252, A4, H⟩ := H
  replace H : (some t252) = some r := H
  obtain rfl := Option.some.inj H
  go_enter Try.func150, Try.ntmps150
  go_wp2_with (first | ((with_reducible refine gate_dst (N := 1) rfl ?_); refine boxev 1 #[.int .i64 a0_0, .int .i64 a0_1, .int .i64 a0_2, .int .i64 a0_3, .bool a0_4] 91 ?_; intro gb250 hg w5 hbox hb; have BK250 := ak (hbox); have GW250 := ak (hgl hg (belowd HB)); have GE250 := ak (hgl hg (belowd HB)); replace HB := ak (below_step (belowd HB) hb); clear hb hbox hg; obtain ⟨hcz6_0, hcz6_1, hcz6_2, hcz6_3, hcz6_4, hfz6_0, hfz6_1, hfz6_2, hfz6_3, hfz6_4⟩ := box5 BK250) | ((with_reducible refine gate_callee (f := 125) rfl ?_); refine goesLa (some 5) rfl Try.func125 #[.int .i64 a0_0, .int .i64 0, .int .i64 6] rfl ?_; (with_reducible refine (impl_within.calls a0_0 0 6 true _ A2.out).mono ?_); rintro e w' ⟨rfl, ⟨nd, rfl⟩⟩; refine ⟨_, rfl, ?_⟩) | (go_at_call 145; (with_reducible refine (impl_GoodClaim.calls a0_1 a0_2 a0_3 t252 _ A4.out).mono ?_); rintro e w7 ⟨rfl, hb⟩; replace BK250 := ak (blk_below (blkd BK250) hb); replace HB := ak (below_step (belowg1 HB GE250) hb); (try clear hb)))
  go_ret
  exact ⟨er2, belowg1 HB GE250⟩
 ·replace c3 := Bool.eq_false_iff.mpr c3
  subst c3
  have H1 : (some false) = some r := by rw [if_neg (show ¬ (false = true) by decide)] at H; exact H
  clear H
  have H := H1
  clear H1
  obtain rfl := Option.some.inj H
  go_enter Try.func150, Try.ntmps150
  go_wp2_with (first | ((with_reducible refine gate_dst (N := 1) rfl ?_); refine boxev 1 #[.int .i64 a0_0, .int .i64 a0_1, .int .i64 a0_2, .int .i64 a0_3, .bool a0_4] 91 ?_; intro gb250 hg w8 hbox hb; have BK250 := ak (hbox); have GW250 := ak (hgl hg (belowd HB)); have GE250 := ak (hgl hg (belowd HB)); replace HB := ak (below_step (belowd HB) hb); clear hb hbox hg; obtain ⟨hcz9_0, hcz9_1, hcz9_2, hcz9_3, hcz9_4, hfz9_0, hfz9_1, hfz9_2, hfz9_3, hfz9_4⟩ := box5 BK250) | ((with_reducible refine gate_callee (f := 125) rfl ?_); refine goesLa (some 5) rfl Try.func125 #[.int .i64 a0_0, .int .i64 0, .int .i64 6] rfl ?_; (with_reducible refine (impl_within.calls a0_0 0 6 false _ A2.out).mono ?_); rintro e w' ⟨rfl, ⟨nd, rfl⟩⟩; refine ⟨_, rfl, ?_⟩))
  go_ret
  exact ⟨er2, belowg1 HB GE250⟩

/-! ### impl_areStatements_1: function 200 -/
def impl_areStatements_1.f (a0_0 : Int) (a0_1 : Int) (a0_2 : Int) (a0_3 : Int) (a0_4 : Bool) : Option (Bool) := (impl_isStatement.f a0_0 a0_1 a0_2 a0_3 a0_4).bind fun t254 => (some (!t254))
set_option maxHeartbeats 8000000 in
set_option maxRecDepth 100000 in
theorem impl_areStatements_1.calls (a0_0 : Int) (a0_1 : Int) (a0_2 : Int) (a0_3 : Int) (a0_4 : Bool) (r : Bool) (w : World) (h : impl_areStatements_1.f a0_0 a0_1 a0_2 a0_3 a0_4 = some r) :
  Calls Try.prog 200 #[.agg #[.int .i64 a0_0, .int .i64 a0_1, .int .i64 a0_2, .int .i64 a0_3, .bool a0_4]] w fun e w' => e = .returned (.bool r) ∧ Below w.heap.size w w' := by
 have hu91 := Try.underlying91
 have HB := Aside0.mk (Below.refl w.heap.size w)
 have H : ((impl_isStatement.f a0_0 a0_1 a0_2 a0_3 a0_4).bind fun t254 => (some (!t254))) = some r := h
 clear h; replace H := bS H; obtain ⟨t254, A2, H⟩ := H
 replace H : (some (!t254)) = some r := H
 obtain rfl := Option.some.inj H
 go_enter Try.func200, Try.ntmps200
 go_wp2_with (first | ((with_reducible refine gate_dst (N := 1) rfl ?_); refine boxev 1 #[.int .i64 a0_0, .int .i64 a0_1, .int .i64 a0_2, .int .i64 a0_3, .bool a0_4] 91 ?_; intro gb253 hg w3 hbox hb; have BK253 := ak (hbox); have GW253 := ak (hgl hg (belowd HB)); have GE253 := ak (hgl hg (belowd HB)); replace HB := ak (below_step (belowd HB) hb); clear hb hbox hg; obtain ⟨hcz4_0, hcz4_1, hcz4_2, hcz4_3, hcz4_4, hfz4_0, hfz4_1, hfz4_2, hfz4_3, hfz4_4⟩ := box5 BK253) | ((with_reducible refine gate_callee (f := 150) rfl ?_); refine goesLa (some 4) rfl Try.func150 #[.agg #[.int .i64 a0_0, .int .i64 a0_1, .int .i64 a0_2, .int .i64 a0_3, .bool a0_4]] rfl ?_; (with_reducible refine (impl_isStatement.calls a0_0 a0_1 a0_2 a0_3 a0_4 t254 _ A2.out).mono ?_); rintro e w5 ⟨rfl, hb⟩; refine ⟨_, rfl, ?_⟩; replace BK253 := ak (blk_below (blkd BK253) hb); replace HB := ak (below_step (belowg1 HB GE253) hb); (try clear hb)))
 go_ret
 exact ⟨er2, belowg1 HB GE253⟩

end Go.Proofs.Ytkgogglnipdcfaa.QFnExactTallyOf
