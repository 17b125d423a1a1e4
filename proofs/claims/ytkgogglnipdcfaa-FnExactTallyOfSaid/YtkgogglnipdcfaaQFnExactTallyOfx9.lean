-- printed by this session's own program (wip/tools/pp.py: the kit's print.py with changes); Lean checks it
import Derived.Test.YtkgogglnipdcfaaQFnExactTallyOfx0
import Derived.Test.YtkgogglnipdcfaaQFnExactTallyOfx6
import Derived.Test.YtkgogglnipdcfaaQFnExactTallyOfx7
import Derived.Test.YtkgogglnipdcfaaQFnExactTallyOfx8
namespace Go.Proofs.Ytkgogglnipdcfaa.QFnExactTallyOf
open Go.RowKit Go.Proofs.YtkgogglnipdcfaaW.PrintWords Go.Proofs.YtkgogglnipdcfaaW.PrintLast Go.Proofs.YtkgogglnipdcfaaW.PrintMore
attribute [local go_sem] max2_int min2_int max_two min_two max_three min_three max_four min_four strLss strGtr strLeq strGeq   -- for this text's walks alone
set_option linter.unusedVariables false
set_option linter.unusedSimpArgs false

/-! ### impl_TallyOf: function 71 -/
mutual
def impl_TallyOf.j0 : Nat → Int → Int → List (S85) → List (S91) → Bool → Option ((List (S110)) × Bool)
  | 0, _, _, _, _, _ => none
  | k + 1, x0, x1, x2, x3, x37 => if x37 = true then (some (([] : List (S110)), false)) else (impl_TallyOf.l0 k x1 x2 x3 (([] : List (S110))) x0 0)
def impl_TallyOf.l0 : Nat → Int → List (S85) → List (S91) → List (S110) → Int → Int → Option ((List (S110)) × Bool)
  | 0, _, _, _, _, _, _ => none
  | k + 1, x1, x2, x3, x10, x39, x40 => if x40 < x39 then ((impl_debits.f k x1 x3 x40).bind fun t326 => (impl_TallyOf.l1 k x1 x2 x3 x10 x40 t326 0 x39 x40 x2 (x2.length : Int) 0)) else (some (x10, true))
def impl_TallyOf.l1 : Nat → Int → List (S85) → List (S91) → List (S110) → Int → List (S85) → Int → Int → Int → List (S85) → Int → Int → Option ((List (S110)) × Bool)
  | 0, _, _, _, _, _, _, _, _, _, _, _, _ => none
  | k + 1, x1, x2, x3, x10, x11, x12, x13, x39, x40, x47, x48, x49 => if x49 < x48 then (if 0 ≤ x49 then (if x49 < (x47.length : Int) then (if ((rd_T85 x47 x49).f0) = x11 then (if x49 ≤ (x2.length : Int) then ((impl_Claim_160.f k (x2.take (x49 : Int).toNat) ((rd_T85 x47 x49).f0) ((rd_T85 x47 x49).f1) ((rd_T85 x47 x49).f2)).bind fun t338 => (if t338 = true then (impl_TallyOf.l1 k x1 x2 x3 x10 x11 x12 x13 x39 x40 x47 x48 (wrap64 (x49 + 1))) else ((impl_Claim_160.f k x12 ((rd_T85 x47 x49).f0) ((rd_T85 x47 x49).f1) ((rd_T85 x47 x49).f2)).bind fun t339 => (if t339 = true then (impl_TallyOf.l1 k x1 x2 x3 x10 x11 x12 x13 x39 x40 x47 x48 (wrap64 (x49 + 1))) else (impl_TallyOf.l1 k x1 x2 x3 x10 x11 x12 (wrap64 (x13 + 1)) x39 x40 x47 x48 (wrap64 (x49 + 1))))))) else (none)) else (impl_TallyOf.l1 k x1 x2 x3 x10 x11 x12 x13 x39 x40 x47 x48 (wrap64 (x49 + 1)))) else (none)) else (none)) else (if x10.length < 5864062014805 then (impl_TallyOf.l0 k x1 x2 x3 (x10 ++ [(⟨x11, x13, (x12.length : Int)⟩ : S110)]) x39 (wrap64 (x40 + 1))) else (none))
end
def impl_TallyOf.f (k : Nat) (a0 : Int) (a1 : Int) (l2 : List (S85)) (l3 : List (S91)) : Option ((List (S110)) × Bool) := (impl_within.f a0 1 12).bind fun t319 => (if t319 = true then ((impl_areFaults.f a1).bind fun t320 => (if t320 = true then (if (l2.length : Int) > 60 then (impl_TallyOf.j0 k a0 a1 l2 l3 true) else ((slices_ContainsFunc_158_at_159.f k l2).bind fun t321 => (if t321 = true then (impl_TallyOf.j0 k a0 a1 l2 l3 true) else ((impl_areStatements.f k l3).bind fun t322 => (impl_TallyOf.j0 k a0 a1 l2 l3 (!t322)))))) else (impl_TallyOf.j0 k a0 a1 l2 l3 true))) else (impl_TallyOf.j0 k a0 a1 l2 l3 true))
theorem impl_TallyOf.mono_l : ∀ k, (∀ y0 y1 y2 y3 y4, LeO (impl_TallyOf.j0 k y0 y1 y2 y3 y4) (impl_TallyOf.j0 (k + 1) y0 y1 y2 y3 y4)) ∧ (∀ y0 y1 y2 y3 y4 y5, LeO (impl_TallyOf.l0 k y0 y1 y2 y3 y4 y5) (impl_TallyOf.l0 (k + 1) y0 y1 y2 y3 y4 y5)) ∧ (∀ y0 y1 y2 y3 y4 y5 y6 y7 y8 y9 y10 y11, LeO (impl_TallyOf.l1 k y0 y1 y2 y3 y4 y5 y6 y7 y8 y9 y10 y11) (impl_TallyOf.l1 (k + 1) y0 y1 y2 y3 y4 y5 y6 y7 y8 y9 y10 y11))
 | 0 => ⟨fun _ _ _ _ _ r h => by simp [impl_TallyOf.j0] at h, fun _ _ _ _ _ _ r h => by simp [impl_TallyOf.l0] at h, fun _ _ _ _ _ _ _ _ _ _ _ _ r h => by simp [impl_TallyOf.l1] at h⟩
 | k + 1 => by
  obtain ⟨ih0, ih1, ih2⟩ := impl_TallyOf.mono_l k
  refine ⟨?_, ?_, ?_⟩
  ·intro y0 y1 y2 y3 y4
   unfold impl_TallyOf.j0
   repeat' (first | (with_reducible first | exact ih0 _ _ _ _ _ | exact ih1 _ _ _ _ _ _ | exact ih2 _ _ _ _ _ _ _ _ _ _ _ _ | exact impl_Claim_160.mono _ _ _ _ _ | exact impl_areStatements.mono _ _ | exact impl_debits.mono _ _ _ _ | exact slices_ContainsFunc_158_at_159.mono _ _ | exact LeO.refl _ | exact LeO.none _ | refine LeO.ite ?_ ?_ | refine LeO.bind ?_ (fun _ => ?_)) | exact ih0 _ _ _ _ _ | exact ih1 _ _ _ _ _ _ | exact ih2 _ _ _ _ _ _ _ _ _ _ _ _ | exact impl_Claim_160.mono _ _ _ _ _ | exact impl_areStatements.mono _ _ | exact impl_debits.mono _ _ _ _ | exact slices_ContainsFunc_158_at_159.mono _ _ | exact LeO.none _ | refine LeO.ite ?_ ?_ | refine LeO.bind ?_ (fun _ => ?_))
  ·intro y0 y1 y2 y3 y4 y5
   unfold impl_TallyOf.l0
   repeat' (first | (with_reducible first | exact ih0 _ _ _ _ _ | exact ih1 _ _ _ _ _ _ | exact ih2 _ _ _ _ _ _ _ _ _ _ _ _ | exact impl_Claim_160.mono _ _ _ _ _ | exact impl_areStatements.mono _ _ | exact impl_debits.mono _ _ _ _ | exact slices_ContainsFunc_158_at_159.mono _ _ | exact LeO.refl _ | exact LeO.none _ | refine LeO.ite ?_ ?_ | refine LeO.bind ?_ (fun _ => ?_)) | exact ih0 _ _ _ _ _ | exact ih1 _ _ _ _ _ _ | exact ih2 _ _ _ _ _ _ _ _ _ _ _ _ | exact impl_Claim_160.mono _ _ _ _ _ | exact impl_areStatements.mono _ _ | exact impl_debits.mono _ _ _ _ | exact slices_ContainsFunc_158_at_159.mono _ _ | exact LeO.none _ | refine LeO.ite ?_ ?_ | refine LeO.bind ?_ (fun _ => ?_))
  ·intro y0 y1 y2 y3 y4 y5 y6 y7 y8 y9 y10 y11
   unfold impl_TallyOf.l1
   repeat' (first | (with_reducible first | exact ih0 _ _ _ _ _ | exact ih1 _ _ _ _ _ _ | exact ih2 _ _ _ _ _ _ _ _ _ _ _ _ | exact impl_Claim_160.mono _ _ _ _ _ | exact impl_areStatements.mono _ _ | exact impl_debits.mono _ _ _ _ | exact slices_ContainsFunc_158_at_159.mono _ _ | exact LeO.refl _ | exact LeO.none _ | refine LeO.ite ?_ ?_ | refine LeO.bind ?_ (fun _ => ?_)) | exact ih0 _ _ _ _ _ | exact ih1 _ _ _ _ _ _ | exact ih2 _ _ _ _ _ _ _ _ _ _ _ _ | exact impl_Claim_160.mono _ _ _ _ _ | exact impl_areStatements.mono _ _ | exact impl_debits.mono _ _ _ _ | exact slices_ContainsFunc_158_at_159.mono _ _ | exact LeO.none _ | refine LeO.ite ?_ ?_ | refine LeO.bind ?_ (fun _ => ?_))
theorem impl_TallyOf.mono : ∀ a0 a1 a2 a3 k, LeO (impl_TallyOf.f k a0 a1 a2 a3) (impl_TallyOf.f (k + 1) a0 a1 a2 a3) := by
 intro a0 a1 a2 a3 k
 obtain ⟨ih0, ih1, ih2⟩ := impl_TallyOf.mono_l k
 unfold impl_TallyOf.f
 repeat' (first | (with_reducible first | exact ih0 _ _ _ _ _ | exact ih1 _ _ _ _ _ _ | exact ih2 _ _ _ _ _ _ _ _ _ _ _ _ | exact impl_Claim_160.mono _ _ _ _ _ | exact impl_areStatements.mono _ _ | exact impl_debits.mono _ _ _ _ | exact slices_ContainsFunc_158_at_159.mono _ _ | exact LeO.refl _ | exact LeO.none _ | refine LeO.ite ?_ ?_ | refine LeO.bind ?_ (fun _ => ?_)) | exact ih0 _ _ _ _ _ | exact ih1 _ _ _ _ _ _ | exact ih2 _ _ _ _ _ _ _ _ _ _ _ _ | exact impl_Claim_160.mono _ _ _ _ _ | exact impl_areStatements.mono _ _ | exact impl_debits.mono _ _ _ _ | exact slices_ContainsFunc_158_at_159.mono _ _ | exact LeO.none _ | refine LeO.ite ?_ ?_ | refine LeO.bind ?_ (fun _ => ?_))
def impl_TallyOf.T11 : Bool × List (List Nat × List Nat) := (true, [([], []), ([0], [0]), ([], []), ([1, 2], [1, 2]), ([3], [3]), ([4], [4]), ([4], [4]), ([5, 6, 4], [4, 5, 6]), ([4], [4]), ([7, 8, 4, 4], [4, 7, 8]), ([9, 4], [4, 9]), ([4, 10], [4, 10]), ([11, 9], [11]), ([12], [12]), ([12], [12]), ([13, 14, 12, 12], [12, 13, 14]), ([15, 12], [12, 15]), ([12, 16], [12, 16])])
def impl_TallyOf.B11 : List Nat := [0, 1, 0, 7, 15, 31, 31, 127, 31, 511, 1023, 2047, 4095, 8191, 8191, 32767, 65535, 131071]
theorem impl_TallyOf.tab11 : rtab .any (opsOf Try.f71 11) = impl_TallyOf.T11 := by kernel_rfl
theorem impl_TallyOf.bits11 : waitsOk impl_TallyOf.T11.2 impl_TallyOf.B11 = true := by kernel_rfl
set_option maxHeartbeats 8000000 in
set_option maxRecDepth 100000 in
theorem impl_TallyOf.calls (k : Nat) (a0 : Int) (a1 : Int) (A2 : Option Addr) (c2 : Nat) (l2 : List (S85)) (A3 : Option Addr) (c3 : Nat) (l3 : List (S91)) (r1 : List (S110)) (r2 : Bool) (w : World) (hr2 : Kd.C k85 w A2 l2.length l2) (hc2 : l2.length ≤ c2) (hr3 : Kd.C k91 w A3 l3.length l3) (hc3 : l3.length ≤ c3) (h : impl_TallyOf.f k a0 a1 l2 l3 = some (r1, r2)) :
  Calls Try.prog 71 #[.int .i64 a0, .int .i64 a1, .slice A2 l2.length c2, .slice A3 l3.length c3] w fun e w' => ∃ v0_ : Value, e = .returned (.tuple #[v0_, .bool r2]) ∧ Kd.R k110 110 w' w.heap.size (fun _ => True) v0_ r1 ∧ Below w.heap.size w w' := by
 have hu85 := Try.underlying85
 have hu110 := Try.underlying110
 have HR2 := Aside0.mk hr2; have HC2 := Aside0.mk hc2; clear hr2 hc2; have HR3 := Aside0.mk hr3; have HC3 := Aside0.mk hc3; clear hr3 hc3
 have HB := Aside0.mk (Below.refl w.heap.size w)
 have H : ((impl_within.f a0 1 12).bind fun t319 => (if t319 = true then ((impl_areFaults.f a1).bind fun t320 => (if t320 = true then (if (l2.length : Int) > 60 then (impl_TallyOf.j0 k a0 a1 l2 l3 true) else ((slices_ContainsFunc_158_at_159.f k l2).bind fun t321 => (if t321 = true then (impl_TallyOf.j0 k a0 a1 l2 l3 true) else ((impl_areStatements.f k l3).bind fun t322 => (impl_TallyOf.j0 k a0 a1 l2 l3 (!t322)))))) else (impl_TallyOf.j0 k a0 a1 l2 l3 true))) else (impl_TallyOf.j0 k a0 a1 l2 l3 true))) = some (r1, r2) := h
 clear h; have HC5 := Aside0.mk H; clear H
 go_enter Try.func71, Try.ntmps71
 go_upto_region 1 with (fail)
 go_cut [37] (fun v37 wc => ∃ (kq : Nat) (x37_4 : Bool), v37 = .bool x37_4 ∧ Aside0 (impl_TallyOf.j0 kq a0 a1 l2 l3 x37_4 = some (r1, r2)) ∧ Aside0 (kq ≤ k) ∧ Aside0 (Below w.heap.size w wc))
 case first =>
  have H := HC5.out; clear HC5; replace H := bS H; obtain ⟨t319, A6, H⟩ := H
  replace H : (if t319 = true then ((impl_areFaults.f a1).bind fun t320 => (if t320 = true then (if (l2.length : Int) > 60 then (impl_TallyOf.j0 k a0 a1 l2 l3 true) else ((slices_ContainsFunc_158_at_159.f k l2).bind fun t321 => (if t321 = true then (impl_TallyOf.j0 k a0 a1 l2 l3 true) else ((impl_areStatements.f k l3).bind fun t322 => (impl_TallyOf.j0 k a0 a1 l2 l3 (!t322)))))) else (impl_TallyOf.j0 k a0 a1 l2 l3 true))) else (impl_TallyOf.j0 k a0 a1 l2 l3 true)) = some (r1, r2) := H
  by_cases c7 : t319 = true
  ·subst c7
   have H1 : ((impl_areFaults.f a1).bind fun t320 => (if t320 = true then (if (l2.length : Int) > 60 then (impl_TallyOf.j0 k a0 a1 l2 l3 true) else ((slices_ContainsFunc_158_at_159.f k l2).bind fun t321 => (if t321 = true then (impl_TallyOf.j0 k a0 a1 l2 l3 true) else ((impl_areStatements.f k l3).bind fun t322 => (impl_TallyOf.j0 k a0 a1 l2 l3 (!t322)))))) else (impl_TallyOf.j0 k a0 a1 l2 l3 true))) = some (r1, r2) := by rw [if_pos rfl] at H; exact H
   clear H
   have H := H1
   clear H1; replace H := bS H; obtain ⟨t320, A8, H⟩ := H
   replace H : (if t320 = true then (if (l2.length : Int) > 60 then (impl_TallyOf.j0 k a0 a1 l2 l3 true) else ((slices_ContainsFunc_158_at_159.f k l2).bind fun t321 => (if t321 = true then (impl_TallyOf.j0 k a0 a1 l2 l3 true) else ((impl_areStatements.f k l3).bind fun t322 => (impl_TallyOf.j0 k a0 a1 l2 l3 (!t322)))))) else (impl_TallyOf.j0 k a0 a1 l2 l3 true)) = some (r1, r2) := H
   by_cases c9 : t320 = true
   ·subst c9
    have H1 : (if (l2.length : Int) > 60 then (impl_TallyOf.j0 k a0 a1 l2 l3 true) else ((slices_ContainsFunc_158_at_159.f k l2).bind fun t321 => (if t321 = true then (impl_TallyOf.j0 k a0 a1 l2 l3 true) else ((impl_areStatements.f k l3).bind fun t322 => (impl_TallyOf.j0 k a0 a1 l2 l3 (!t322)))))) = some (r1, r2) := by rw [if_pos rfl] at H; exact H
    clear H
    have H := H1
    clear H1
    by_cases c10 : (l2.length : Int) > 60
    ·rw [if_pos c10] at H
     have c10b0 : decide (60 < (l2.length : Int)) = true := decide_eq_true c10
     have c10b1 : decide (60 < l2.length) = true := decide_eq_true (by omega)
     clear c10
     (first | rw [c10b0] | (simp only [i64_w, i32_w]; rw [c10b0]) | skip)
     have H' := Aside0.mk H
     clear H
     go_wp2_with (first | ((with_reducible refine gate_callee (f := 125) rfl ?_); refine goesLa (some 17) rfl Try.func125 #[.int .i64 a0, .int .i64 1, .int .i64 12] rfl ?_; (with_reducible refine (impl_within.calls a0 1 12 true _ A6.out).mono ?_); rintro e w' ⟨rfl, ⟨nd, rfl⟩⟩; refine ⟨_, rfl, ?_⟩) | (go_at_call 124; (with_reducible refine (impl_areFaults.calls a1 true _ A8.out).mono ?_); rintro e w' ⟨rfl, ⟨nd, rfl⟩⟩))
     go_meet
     case rel => exact ⟨_, (true), er, H', ⟨by first | omega | exact Nat.le_refl _⟩, ⟨belowd HB⟩⟩
    ·rw [if_neg c10] at H
     have c10b0 : decide (60 < (l2.length : Int)) = false := decide_eq_false c10
     have c10b1 : decide (60 < l2.length) = false := decide_eq_false (by omega)
     clear c10
     (first | rw [c10b0] | (simp only [i64_w, i32_w]; rw [c10b0]) | skip)
     replace H := bS H; obtain ⟨t321, A11, H⟩ := H
     replace H : (if t321 = true then (impl_TallyOf.j0 k a0 a1 l2 l3 true) else ((impl_areStatements.f k l3).bind fun t322 => (impl_TallyOf.j0 k a0 a1 l2 l3 (!t322)))) = some (r1, r2) := H
     by_cases c12 : t321 = true
     ·subst c12
      have H1 : (impl_TallyOf.j0 k a0 a1 l2 l3 true) = some (r1, r2) := by rw [if_pos rfl] at H; exact H
      clear H
      have H := H1
      clear H1
      have H' := Aside0.mk H
      clear H
      go_wp2_with (first | ((with_reducible refine gate_callee (f := 125) rfl ?_); refine goesLa (some 17) rfl Try.func125 #[.int .i64 a0, .int .i64 1, .int .i64 12] rfl ?_; (with_reducible refine (impl_within.calls a0 1 12 true _ A6.out).mono ?_); rintro e w' ⟨rfl, ⟨nd, rfl⟩⟩; refine ⟨_, rfl, ?_⟩) | (go_at_call 124; (with_reducible refine (impl_areFaults.calls a1 true _ A8.out).mono ?_); rintro e w' ⟨rfl, ⟨nd, rfl⟩⟩) | (go_at_call 158; (with_reducible refine (slices_ContainsFunc_158_at_159.calls k _ _ l2  true _ ?side1 ?side2 A11.out).mono ?_); (case side1 => exact cd (Kd.C_below HR2.out (belowd HB))); (case side2 => exact HC2.out); rintro e w13 ⟨rfl, hb⟩; replace HB := ak (below_step (belowd HB) hb); (try clear hb)))
      go_meet
      case rel => exact ⟨_, (true), er, H', ⟨by first | omega | exact Nat.le_refl _⟩, ⟨belowd HB⟩⟩
     ·replace c12 := Bool.eq_false_iff.mpr c12
      subst c12
      have H1 : ((impl_areStatements.f k l3).bind fun t322 => (impl_TallyOf.j0 k a0 a1 l2 l3 (!t322))) = some (r1, r2) := by rw [if_neg (show ¬ (false = true) by decide)] at H; exact H
      clear H
      have H := H1
      clear H1; replace H := bS H; obtain ⟨t322, A14, H⟩ := H
      replace H : (impl_TallyOf.j0 k a0 a1 l2 l3 (!t322)) = some (r1, r2) := H
      have H' := Aside0.mk H
      clear H
      go_wp2_with (first | ((with_reducible refine gate_callee (f := 125) rfl ?_); refine goesLa (some 17) rfl Try.func125 #[.int .i64 a0, .int .i64 1, .int .i64 12] rfl ?_; (with_reducible refine (impl_within.calls a0 1 12 true _ A6.out).mono ?_); rintro e w' ⟨rfl, ⟨nd, rfl⟩⟩; refine ⟨_, rfl, ?_⟩) | (go_at_call 124; (with_reducible refine (impl_areFaults.calls a1 true _ A8.out).mono ?_); rintro e w' ⟨rfl, ⟨nd, rfl⟩⟩) | (go_at_call 158; (with_reducible refine (slices_ContainsFunc_158_at_159.calls k _ _ l2  false _ ?side1 ?side2 A11.out).mono ?_); (case side1 => exact cd (Kd.C_below HR2.out (belowd HB))); (case side2 => exact HC2.out); rintro e w15 ⟨rfl, hb⟩; replace HB := ak (below_step (belowd HB) hb); (try clear hb)) | (go_at_call 138; (with_reducible refine (impl_areStatements.calls k _ _ l3 t322 _ ?side1 ?side2 A14.out).mono ?_); (case side1 => exact cd (Kd.C_below HR3.out HB.out)); (case side2 => exact HC3.out); rintro e w16 ⟨rfl, hb⟩; replace HB := ak (below_step (belowd HB) hb); (try clear hb)))
      go_meet
      case rel => exact ⟨_, (!t322), er, H', ⟨by first | omega | exact Nat.le_refl _⟩, ⟨belowd HB⟩⟩
   ·replace c9 := Bool.eq_false_iff.mpr c9
    subst c9
    have H1 : (impl_TallyOf.j0 k a0 a1 l2 l3 true) = some (r1, r2) := by rw [if_neg (show ¬ (false = true) by decide)] at H; exact H
    clear H
    have H := H1
    clear H1
    have H' := Aside0.mk H
    clear H
    go_wp2_with (first | ((with_reducible refine gate_callee (f := 125) rfl ?_); refine goesLa (some 17) rfl Try.func125 #[.int .i64 a0, .int .i64 1, .int .i64 12] rfl ?_; (with_reducible refine (impl_within.calls a0 1 12 true _ A6.out).mono ?_); rintro e w' ⟨rfl, ⟨nd, rfl⟩⟩; refine ⟨_, rfl, ?_⟩) | (go_at_call 124; (with_reducible refine (impl_areFaults.calls a1 false _ A8.out).mono ?_); rintro e w' ⟨rfl, ⟨nd, rfl⟩⟩))
    go_meet
    case rel => exact ⟨_, (true), er, H', ⟨by first | omega | exact Nat.le_refl _⟩, ⟨belowd HB⟩⟩
  ·replace c7 := Bool.eq_false_iff.mpr c7
   subst c7
   have H1 : (impl_TallyOf.j0 k a0 a1 l2 l3 true) = some (r1, r2) := by rw [if_neg (show ¬ (false = true) by decide)] at H; exact H
   clear H
   have H := H1
   clear H1
   have H' := Aside0.mk H
   clear H
   go_wp2_with (first | ((with_reducible refine gate_callee (f := 125) rfl ?_); refine goesLa (some 17) rfl Try.func125 #[.int .i64 a0, .int .i64 1, .int .i64 12] rfl ?_; (with_reducible refine (impl_within.calls a0 1 12 false _ A6.out).mono ?_); rintro e w' ⟨rfl, ⟨nd, rfl⟩⟩; refine ⟨_, rfl, ?_⟩))
   go_meet
   case rel => exact ⟨_, (true), er, H', ⟨by first | omega | exact Nat.le_refl _⟩, ⟨belowd HB⟩⟩
 case rest =>
  clear HC5; (try clear c2); (try clear c3)
  obtain ⟨kq, x37_4, rfl, HA, HJ4, HB⟩ := hcut
  cases kq with
  | zero => exact absurd HA.out (by simp [impl_TallyOf.j0])
  | succ kj4 =>
   have H := HA.out; clear HA
   simp only [impl_TallyOf.j0] at H
   by_cases c17 : x37_4 = true
   ·subst c17
    have H1 : (some (([] : List (S110)), false)) = some (r1, r2) := by rw [if_pos rfl] at H; exact H
    clear H
    have H := H1
    clear H1
    simp only [Option.some.injEq, Prod.mk.injEq] at H
    obtain ⟨rfl, rfl⟩ := H; go_wp2
    go_ret2
    exact ⟨_, er2, by first | exact Kd.R_nil _ _ _ _ _ | exact Kd.N_nil _ _ _ _ _ | exact Kd.V_nil _ _ _ _ _ | exact Kd.Q_nil _ _ _ _ _ | exact Kd.S_nil _ _ _ _ _, belowd HB⟩
   ·replace c17 := Bool.eq_false_iff.mpr c17
    subst c17
    have H1 : (impl_TallyOf.l0 kj4 a1 l2 l3 (([] : List (S110))) a0 0) = some (r1, r2) := by rw [if_neg (show ¬ (false = true) by decide)] at H; exact H
    clear H
    have H := H1
    clear H1
    obtain ⟨y323, hy_⟩ : ∃ y_ : List (S110), y_ = (([] : List (S110))) := ⟨_, rfl⟩
    replace H : (impl_TallyOf.l0 kj4 a1 l2 l3 y323 a0 0) = some (r1, r2) := yH
    have Ny323 := ak hy_; clear hy_
    have H' := Aside0.mk H
    clear H
    go_wp2_with (first | ((with_reducible refine gate_dst (N := 38) rfl ?_); (try (refine gate_guard (by rfl) ?_; dsimp only)); refine Kd.R_lit k110 _ 110 ?hg (N := 38) ?hd (xs := ([] : List (S110))) (inner := []) (ok := fun _ => True) (okp := fun _ => True) ?hr ?hp (fun _ hk => hk) trivial (Below.refl _ _) (Nat.le_refl _) (by simp) ?_; (case hd => rfl); (case hg => rfl); (case hr => first | (go_simp; done) | (go_simp; rfl)); (case hp => exact (Reps.none _ _)); intro v324 w18 ho19 hb hg_ hnew_; clear hg_ hnew_; (first | rw [← Ny323.out] at ho19 | (simp only [Int.reduceToNat] at ho19; rw [← Ny323.out] at ho19)); have HO325 := ak (Kd.R_lower ho19 (below_size (belowd HB))); replace HB := ak (below_step (belowd HB) hb); clear hb ho19))
    go_loopg [10, 40] kj4 (fun kq v10 v40 w' => ∃ (x10_2 : List (S110)) (x40_2 : Int), v40 = .int .i64 x40_2 ∧ Aside0 (impl_TallyOf.l0 kq a1 l2 l3 x10_2 a0 x40_2 = some (r1, r2)) ∧ Aside0 (kq ≤ kj4) ∧ Aside0 (Kd.R k110 110 w' w.heap.size (fun _ => True) v10 x10_2) ∧ Aside0 (Below w.heap.size w w'))
    case atStart => exact ⟨(y323), (0), er, H', ⟨Nat.le_refl _⟩, ⟨rdl HO325⟩, ⟨belowd HB⟩⟩
    case round =>
     clear H'
     (try clear c17)
     obtain ⟨x10_2, x40_2, rfl, HA, HK2, HO_10, HB⟩ := hrel
     cases gk with
     | zero => exact absurd HA.out (by simp [impl_TallyOf.l0])
     | succ k2 =>
      have H := HA.out; clear HA
      simp only [impl_TallyOf.l0] at H
      by_cases c20 : x40_2 < a0
      ·rw [if_pos c20] at H
       have c20b0 : decide (x40_2 < a0) = true := decide_eq_true c20
       clear c20; replace H := bS H; obtain ⟨t326, A21, H⟩ := H
       replace H : (impl_TallyOf.l1 k2 a1 l2 l3 x10_2 x40_2 t326 0 a0 x40_2 l2 (l2.length : Int) 0) = some (r1, r2) := H
       have H' := Aside0.mk H
       clear H
       go_wp2_with (first | ((with_reducible refine gate_callee (f := 155) rfl ?_); refine goesLa (some 46) rfl Try.func155 #[.int .i64 a1, .slice A3 l3.length c3, .int .i64 x40_2] rfl ?_; (with_reducible refine (impl_debits.calls k2 a1 _ _ l3 x40_2 t326 _ ?side1 ?side2 A21.out).mono ?_); (case side1 => exact cd (Kd.C_below HR3.out HB.out)); (case side2 => exact HC3.out); rintro e w22 ⟨v327, rfl, ho0, hb⟩; refine ⟨_, rfl, ?_⟩; replace HO_10 := ak (Kd.R_below (rdl HO_10) hb); have HO328 := ak (Kd.R_lower ho0 (below_size (belowd HB))); replace HB := ak (below_step (belowd HB) hb); (try clear hb); (try clear ho0)))
       go_loopg [13, 49] k2 (fun kq v13 v49 w' => ∃ (x13_3 : Int) (x49_3 : Int), v13 = .int .i64 x13_3 ∧ v49 = .int .i64 x49_3 ∧ Aside0 (impl_TallyOf.l1 kq a1 l2 l3 x10_2 x40_2 t326 x13_3 a0 x40_2 l2 (l2.length : Int) x49_3 = some (r1, r2)) ∧ Aside0 (kq ≤ k2) ∧ Aside0 (Kd.R k110 110 w' w.heap.size (fun _ => True) u10 x10_2) ∧ Aside0 (Kd.R k85 85 w' w.heap.size (fun _ => True) v327 t326) ∧ Aside0 (Below w.heap.size w w'))
       case atStart => exact ⟨(0), (0), er, er, H', ⟨Nat.le_refl _⟩, ⟨rdl HO_10⟩, ⟨rdl HO328⟩, ⟨belowd HB⟩⟩
       case round =>
        clear H'
        (try clear c3); (try clear c20b0)
        obtain ⟨x13_3, x49_3, rfl, rfl, HA, HK3, HO_10, HO_12, HB⟩ := hrel
        cases gk with
        | zero => exact absurd HA.out (by simp [impl_TallyOf.l1])
        | succ k3 =>
         have H := HA.out; clear HA
         simp only [impl_TallyOf.l1] at H
         by_cases c23 : x49_3 < (l2.length : Int)
         ·rw [if_pos c23] at H
          have c23b0 : decide (x49_3 < (l2.length : Int)) = true := decide_eq_true c23
          clear c23; replace H := ifS H; obtain ⟨c24, H⟩ := H; have c24b0 := decide_eq_true c24; clear c24; replace H := ifS H; obtain ⟨c25, H⟩ := H; have c25b0 := decide_eq_true c25; clear c25
          by_cases c26 : ((rd_T85 l2 x49_3).f0) = x40_2
          ·rw [if_pos c26] at H
           have c26b0 : (((rd_T85 l2 x49_3).f0) == x40_2) = true := beq_iff_eq.mpr c26
           have c26b1 : (((rd_T85 l2 x49_3).f0) != x40_2) = false := bne_eq_false_iff_eq.mpr c26
           clear c26
           have c27b0 := eq_true (da : 0 ≤ x49_3)
           replace H := ifS H; obtain ⟨c28, H⟩ := H; have c28b0 := eq_true c28
           have c28b1 : decide (x49_3 ≤ (l2.length : Int)) = true := decide_eq_true c28
           clear c28
           obtain ⟨y334, hy_⟩ : ∃ y_ : List (S85), y_ = (l2.take (x49_3 : Int).toNat) := ⟨_, rfl⟩
           replace H : ((impl_Claim_160.f k3 y334 ((rd_T85 l2 x49_3).f0) ((rd_T85 l2 x49_3).f1) ((rd_T85 l2 x49_3).f2)).bind fun t338 => (if t338 = true then (impl_TallyOf.l1 k3 a1 l2 l3 x10_2 x40_2 t326 x13_3 a0 x40_2 l2 (l2.length : Int) (wrap64 (x49_3 + 1))) else ((impl_Claim_160.f k3 t326 ((rd_T85 l2 x49_3).f0) ((rd_T85 l2 x49_3).f1) ((rd_T85 l2 x49_3).f2)).bind fun t339 => (if t339 = true then (impl_TallyOf.l1 k3 a1 l2 l3 x10_2 x40_2 t326 x13_3 a0 x40_2 l2 (l2.length : Int) (wrap64 (x49_3 + 1))) else (impl_TallyOf.l1 k3 a1 l2 l3 x10_2 x40_2 t326 (wrap64 (x13_3 + 1)) a0 x40_2 l2 (l2.length : Int) (wrap64 (x49_3 + 1))))))) = some (r1, r2) := yH
           have Ny334 := ak hy_; clear hy_; replace H := bS H; obtain ⟨t338, A29, H⟩ := H
           replace H : (if t338 = true then (impl_TallyOf.l1 k3 a1 l2 l3 x10_2 x40_2 t326 x13_3 a0 x40_2 l2 (l2.length : Int) (wrap64 (x49_3 + 1))) else ((impl_Claim_160.f k3 t326 ((rd_T85 l2 x49_3).f0) ((rd_T85 l2 x49_3).f1) ((rd_T85 l2 x49_3).f2)).bind fun t339 => (if t339 = true then (impl_TallyOf.l1 k3 a1 l2 l3 x10_2 x40_2 t326 x13_3 a0 x40_2 l2 (l2.length : Int) (wrap64 (x49_3 + 1))) else (impl_TallyOf.l1 k3 a1 l2 l3 x10_2 x40_2 t326 (wrap64 (x13_3 + 1)) a0 x40_2 l2 (l2.length : Int) (wrap64 (x49_3 + 1)))))) = some (r1, r2) := H
           by_cases c30 : t338 = true
           ·subst c30
            have H1 : (impl_TallyOf.l1 k3 a1 l2 l3 x10_2 x40_2 t326 x13_3 a0 x40_2 l2 (l2.length : Int) (wrap64 (x49_3 + 1))) = some (r1, r2) := by rw [if_pos rfl] at H; exact H
            clear H
            have H := H1
            clear H1
            have H' := Aside0.mk H
            clear H
            have p332 : 0 ≤ (x49_3 : Int) := da
            have q332 : x49_3 < (l2.length : Int) := da
            obtain ⟨ad332, e332, hx332_0, hx332_1, hx332_2⟩ := at_T85 HR2.out x49_3 p332 q332
            cases e332
            replace hx332_0 := (HB.out.cell (World.block_lt_of_cell? w _ hx332_0)).trans hx332_0
            replace hx332_1 := (HB.out.cell (World.block_lt_of_cell? w _ hx332_1)).trans hx332_1
            replace hx332_2 := (HB.out.cell (World.block_lt_of_cell? w _ hx332_2)).trans hx332_2
            replace p332 := eq_true p332; replace q332 := eq_true q332
            try go_wp2_with (first | ((with_reducible refine gate_dst (N := 15) rfl ?_); (try (refine gate_guard (by rfl) ?_; dsimp only)); refine boxev 15 #[.int .i64 0, .int .i64 0, .int .i64 0] 85 ?_; intro gb333 hg w31 hbox hb; replace HO_10 := ak (Kd.R_below (rdl HO_10) hb); replace HO_12 := ak (Kd.R_below (Kd.R_elderB (rdl HO_12) gb333 (Nat.le_of_eq hg.symm)) hb); have BK333 := ak (hbox); have GW333 := ak (hgl hg (belowd HB)); have GE333 := ak (hgl hg (belowd HB)); replace HB := ak (below_step (belowd HB) hb); clear hb hbox hg; obtain ⟨hcz32_0, hcz32_1, hcz32_2, hfz32_0, hfz32_1, hfz32_2⟩ := box3 BK333))
            have n0_ : Aside0 (Kd.R k110 110 (((w31.setCell ⟨gb333, 0, none⟩ (.int .i64 ((rd_T85 l2 x49_3).f0))).setCell ⟨gb333, 1, none⟩ (.int .i64 ((rd_T85 l2 x49_3).f1))).setCell ⟨gb333, 2, none⟩ (.int .i64 ((rd_T85 l2 x49_3).f2))) w.heap.size (fun _ => True) u10 x10_2) := ⟨by (with_reducible repeat (first | apply Kd.R_alloc | apply Kd.R_drewN | apply Kd.R_drew)); exact Kd.R_mono (farsR (Kd.R_types HO_10.out BK333.out (by decide))) (fun _ hk => trivial)⟩
            have n1_ : Aside0 (Kd.R k85 85 (((w31.setCell ⟨gb333, 0, none⟩ (.int .i64 ((rd_T85 l2 x49_3).f0))).setCell ⟨gb333, 1, none⟩ (.int .i64 ((rd_T85 l2 x49_3).f1))).setCell ⟨gb333, 2, none⟩ (.int .i64 ((rd_T85 l2 x49_3).f2))) w.heap.size (fun k_ => k_ ≠ gb333) v327 t326) := ⟨by (with_reducible repeat (first | apply Kd.R_alloc | apply Kd.R_drewN | apply Kd.R_drew)); exact Kd.R_mono (farsR (Kd.R_mono HO_12.out (fun k_ hk => (⟨hk, hk.2⟩ : _ ∧ k_ ≠ gb333)))) (fun _ hk => hk.1.2)⟩
            have n2_ : Aside0 ((((w31.setCell ⟨gb333, 0, none⟩ (.int .i64 ((rd_T85 l2 x49_3).f0))).setCell ⟨gb333, 1, none⟩ (.int .i64 ((rd_T85 l2 x49_3).f1))).setCell ⟨gb333, 2, none⟩ (.int .i64 ((rd_T85 l2 x49_3).f2))).heap[gb333]? = some (.cells #[.int .i64 ((rd_T85 l2 x49_3).f0), .int .i64 ((rd_T85 l2 x49_3).f1), .int .i64 ((rd_T85 l2 x49_3).f2)] 85 (0, 0))) := ⟨by (with_reducible repeat (first | refine blk_drewN ?_ _ | refine blk_drew ?_ | refine blk_alloc ?_ _)); refine blk_put (cs := #[.int .i64 ((rd_T85 l2 x49_3).f0), .int .i64 ((rd_T85 l2 x49_3).f1), .int .i64 0]) ?_ 2 _ rfl; (with_reducible repeat (first | refine blk_drewN ?_ _ | refine blk_drew ?_ | refine blk_alloc ?_ _)); refine blk_put (cs := #[.int .i64 ((rd_T85 l2 x49_3).f0), .int .i64 0, .int .i64 0]) ?_ 1 _ rfl; (with_reducible repeat (first | refine blk_drewN ?_ _ | refine blk_drew ?_ | refine blk_alloc ?_ _)); refine blk_put (cs := #[.int .i64 0, .int .i64 0, .int .i64 0]) ?_ 0 _ rfl; (with_reducible repeat (first | refine blk_drewN ?_ _ | refine blk_drew ?_ | refine blk_alloc ?_ _)); exact BK333.out⟩
            have n3_ : Aside0 (Below w.heap.size w (((w31.setCell ⟨gb333, 0, none⟩ (.int .i64 ((rd_T85 l2 x49_3).f0))).setCell ⟨gb333, 1, none⟩ (.int .i64 ((rd_T85 l2 x49_3).f1))).setCell ⟨gb333, 2, none⟩ (.int .i64 ((rd_T85 l2 x49_3).f2)))) := ⟨belowg1 HB GE333⟩
            (try clear HO_10); (try clear HO_12); (try clear BK333); (try clear HB)
            generalize (((w31.setCell ⟨gb333, 0, none⟩ (.int .i64 ((rd_T85 l2 x49_3).f0))).setCell ⟨gb333, 1, none⟩ (.int .i64 ((rd_T85 l2 x49_3).f1))).setCell ⟨gb333, 2, none⟩ (.int .i64 ((rd_T85 l2 x49_3).f2))) = w33 at n0_ n1_ n2_ n3_ ⊢
            have HO_10 := n0_
            have HO_12 := n1_
            have BK333 := n2_
            have HB := n3_
            clear n0_ n1_ n2_ n3_
            replace HO_10 := ak (Kd.R_drew HO_10.out)
            replace HO_12 := ak (Kd.R_drew HO_12.out)
            replace BK333 := ak (blk_drew BK333.out)
            replace HB := ak (below_drew1 HB.out)
            have q35 : (x49_3 : Int) ≤ ((l2.length : Int) : Int) := da
            obtain ⟨i035, hi035, _, hsz35, _⟩ := info_parts info85
            have hroom35 : l2.length ≤ c2 := HC2.out
            have hC35 : Kd.C k85 _ (some ad332) l2.length l2 := HR2.out
            have hcut35 := cut_to (P := Try.prog) 70 85 .i64 Try.underlying70 hi035 (some ad332) l2.length c2 x49_3 (da) q35 hroom35
            have hr35 := Kd.C_take (m := (x49_3 : Int).toNat) hC35 (by omega)
            have hy35 : y334.length = (x49_3 : Int).toNat := (by rw [Ny334.out, List.length_take]; omega)
            rw [← Ny334.out] at hr35
            rw [← hy35] at hcut35
            have HR337 := Aside0.mk hr35
            have HC337 := Aside0.mk (show y334.length ≤ c2 from by omega)
            clear hr35 hC35 hroom35 hi035 hsz35; have KY35 := Aside0.mk hy35; clear hy35; replace q35 := eq_true q35
            refine start_ (n := 18) (S := fun w' => w'.cell? ⟨gb333, 0, none⟩ = some (.int .i64 ((rd_T85 l2 x49_3).f0)) ∧ w'.cell? ⟨gb333, 1, none⟩ = some (.int .i64 ((rd_T85 l2 x49_3).f1)) ∧ w'.cell? ⟨gb333, 2, none⟩ = some (.int .i64 ((rd_T85 l2 x49_3).f2))) (ds := []) (bl 18 0) (by kernel_rfl) rfl rfl ⟨bq BK333 0, bq BK333 1, bq BK333 2⟩ (fun hHeld => ?_); refine with_tabW impl_TallyOf.tab11 impl_TallyOf.bits11 (fun HT_ HW_ => ?_)
            generalize w33.drew = w34 at HO_10 HO_12 BK333 HB HR337 hHeld ⊢
            refine pureA 0 (some 54) 18 1 HT_ ?_
            refine pureA 2 (some 56) 18 5 HT_ ?_
            refine takeA 1 (some 55) 18 7 HT_ HW_ hHeld ?_ (hy := by rintro w' ⟨s0, s1, s2⟩; go_simp; with_reducible rfl)
            refine pureA 3 (some 57) 18 15 HT_ ?_
            refine pureA 4 (some 58) 18 31 HT_ ?_
            refine pureA 5 (some 59) 18 63 HT_ ?_
            refine pureA 6 (some 60) 18 127 HT_ ?_
            refine pureA 7 (some 61) 18 255 HT_ ?_
            refine takeA 8 (some 62) 18 511 HT_ HW_ hHeld ?_ (hy := by rintro w' ⟨s0, s1, s2⟩; go_simp; with_reducible rfl)
            refine oneA 9 (some 63) 18 1023 HT_ (fun K hK => ?_)
            refine goes_ Try.func160 (by kernel_rfl) rfl #[.slice (some ad332) y334.length c2, .agg #[.int .i64 ((rd_T85 l2 x49_3).f0), .int .i64 ((rd_T85 l2 x49_3).f1), .int .i64 ((rd_T85 l2 x49_3).f2)]] (by rfl) rfl rfl (by (try simp only [List.map_toArray, List.map_cons, List.map_nil]); first | done | rfl | (simp only [List.length_drop, List.length_take]; rfl)) ?_
            with_reducible refine (impl_Claim_160.calls k3 _ _ y334 ((rd_T85 l2 x49_3).f0) ((rd_T85 l2 x49_3).f1) ((rd_T85 l2 x49_3).f2) true _ ?side1 ?side2 A29.out).mono ?_
            (case side1 => exact cd (Kd.C_below HR337.out HB.out))
            (case side2 => exact HC337.out)
            rintro e w36 ⟨rfl, hb⟩
            refine ⟨_, rfl, ?_⟩
            replace HO_10 := ak (Kd.R_below (rdl HO_10) hb)
            replace HO_12 := ak (Kd.R_below (rdl HO_12) hb)
            replace BK333 := ak (blk_below (blkd BK333) hb)
            replace HB := ak (below_step (belowg1 HB GE333) hb)
            (try clear hb); (try clear hb2); (try clear hk); (try clear hi)
            refine hK.out _ _ ⟨bq BK333 0, bq BK333 1, bq BK333 2⟩ (fun hHeld => ?_)
            clear hK K
            refine norm_ (a' := ?_) ?_ ?_
            rotate_left
            ·show Act.put _ (some 63) _ = _
             simp only [Act.put, List.setIfInBounds_toArray, List.set_cons_zero, List.set_cons_succ, i64_w, i32_w]
             rfl
            refine pureA 10 (some 64) 18 2047 HT_ ?_
            refine pureA 11 (some 65) 18 4095 HT_ ?_
            refine pureA 12 (some 66) 18 8191 HT_ ?_
            refine pureB 13 (some 67) 18 16383 HT_ ?_
            refine pureB 14 (some 68) 18 32767 HT_ ?_
            refine pureB 15 (some 69) 18 65535 HT_ ?_
            refine pureB 16 (some 70) 18 131071 HT_ ?_
            refine pureA 17 (some 71) 18 262143 HT_ ?_
            refine done_ (done_of HT_.out (by kernel_rfl)) ?_
            try go_wp2
            go_roundg k3
            case measure => have := HJ4.out; have := HK2.out; have := HK3.out; omega
            case rel => exact ⟨(x13_3), (wrap64 (x49_3 + 1)), er, er, H', ⟨by have := HJ4.out; have := HK2.out; have := HK3.out; omega⟩, ⟨rdl HO_10⟩, ⟨by (with_reducible repeat (first | apply Kd.R_alloc | apply Kd.R_drewN | apply Kd.R_drew)); exact Kd.R_mono HO_12.out (fun _ hk => trivial)⟩, ⟨belowg1 HB GE333⟩⟩
           ·replace c30 := Bool.eq_false_iff.mpr c30
            subst c30
            have H1 : ((impl_Claim_160.f k3 t326 ((rd_T85 l2 x49_3).f0) ((rd_T85 l2 x49_3).f1) ((rd_T85 l2 x49_3).f2)).bind fun t339 => (if t339 = true then (impl_TallyOf.l1 k3 a1 l2 l3 x10_2 x40_2 t326 x13_3 a0 x40_2 l2 (l2.length : Int) (wrap64 (x49_3 + 1))) else (impl_TallyOf.l1 k3 a1 l2 l3 x10_2 x40_2 t326 (wrap64 (x13_3 + 1)) a0 x40_2 l2 (l2.length : Int) (wrap64 (x49_3 + 1))))) = some (r1, r2) := by rw [if_neg (show ¬ (false = true) by decide)] at H; exact H
            clear H
            have H := H1
            clear H1; replace H := bS H; obtain ⟨t339, A37, H⟩ := H
            replace H : (if t339 = true then (impl_TallyOf.l1 k3 a1 l2 l3 x10_2 x40_2 t326 x13_3 a0 x40_2 l2 (l2.length : Int) (wrap64 (x49_3 + 1))) else (impl_TallyOf.l1 k3 a1 l2 l3 x10_2 x40_2 t326 (wrap64 (x13_3 + 1)) a0 x40_2 l2 (l2.length : Int) (wrap64 (x49_3 + 1)))) = some (r1, r2) := H
            by_cases c38 : t339 = true
            ·subst c38
             have H1 : (impl_TallyOf.l1 k3 a1 l2 l3 x10_2 x40_2 t326 x13_3 a0 x40_2 l2 (l2.length : Int) (wrap64 (x49_3 + 1))) = some (r1, r2) := by rw [if_pos rfl] at H; exact H
             clear H
             have H := H1
             clear H1
             have H' := Aside0.mk H
             clear H
             have p332 : 0 ≤ (x49_3 : Int) := da
             have q332 : x49_3 < (l2.length : Int) := da
             obtain ⟨ad332, e332, hx332_0, hx332_1, hx332_2⟩ := at_T85 HR2.out x49_3 p332 q332
             cases e332
             replace hx332_0 := (HB.out.cell (World.block_lt_of_cell? w _ hx332_0)).trans hx332_0
             replace hx332_1 := (HB.out.cell (World.block_lt_of_cell? w _ hx332_1)).trans hx332_1
             replace hx332_2 := (HB.out.cell (World.block_lt_of_cell? w _ hx332_2)).trans hx332_2
             replace p332 := eq_true p332; replace q332 := eq_true q332
             try go_wp2_with (first | ((with_reducible refine gate_dst (N := 15) rfl ?_); (try (refine gate_guard (by rfl) ?_; dsimp only)); refine boxev 15 #[.int .i64 0, .int .i64 0, .int .i64 0] 85 ?_; intro gb333 hg w39 hbox hb; replace HO_10 := ak (Kd.R_below (rdl HO_10) hb); replace HO_12 := ak (Kd.R_below (Kd.R_elderB (rdl HO_12) gb333 (Nat.le_of_eq hg.symm)) hb); have BK333 := ak (hbox); have GW333 := ak (hgl hg (belowd HB)); have GE333 := ak (hgl hg (belowd HB)); replace HB := ak (below_step (belowd HB) hb); clear hb hbox hg; obtain ⟨hcz40_0, hcz40_1, hcz40_2, hfz40_0, hfz40_1, hfz40_2⟩ := box3 BK333))
             have n0_ : Aside0 (Kd.R k110 110 (((w39.setCell ⟨gb333, 0, none⟩ (.int .i64 ((rd_T85 l2 x49_3).f0))).setCell ⟨gb333, 1, none⟩ (.int .i64 ((rd_T85 l2 x49_3).f1))).setCell ⟨gb333, 2, none⟩ (.int .i64 ((rd_T85 l2 x49_3).f2))) w.heap.size (fun _ => True) u10 x10_2) := ⟨by (with_reducible repeat (first | apply Kd.R_alloc | apply Kd.R_drewN | apply Kd.R_drew)); exact Kd.R_mono (farsR (Kd.R_types HO_10.out BK333.out (by decide))) (fun _ hk => trivial)⟩
             have n1_ : Aside0 (Kd.R k85 85 (((w39.setCell ⟨gb333, 0, none⟩ (.int .i64 ((rd_T85 l2 x49_3).f0))).setCell ⟨gb333, 1, none⟩ (.int .i64 ((rd_T85 l2 x49_3).f1))).setCell ⟨gb333, 2, none⟩ (.int .i64 ((rd_T85 l2 x49_3).f2))) w.heap.size (fun k_ => k_ ≠ gb333) v327 t326) := ⟨by (with_reducible repeat (first | apply Kd.R_alloc | apply Kd.R_drewN | apply Kd.R_drew)); exact Kd.R_mono (farsR (Kd.R_mono HO_12.out (fun k_ hk => (⟨hk, hk.2⟩ : _ ∧ k_ ≠ gb333)))) (fun _ hk => hk.1.2)⟩
             have n2_ : Aside0 ((((w39.setCell ⟨gb333, 0, none⟩ (.int .i64 ((rd_T85 l2 x49_3).f0))).setCell ⟨gb333, 1, none⟩ (.int .i64 ((rd_T85 l2 x49_3).f1))).setCell ⟨gb333, 2, none⟩ (.int .i64 ((rd_T85 l2 x49_3).f2))).heap[gb333]? = some (.cells #[.int .i64 ((rd_T85 l2 x49_3).f0), .int .i64 ((rd_T85 l2 x49_3).f1), .int .i64 ((rd_T85 l2 x49_3).f2)] 85 (0, 0))) := ⟨by (with_reducible repeat (first | refine blk_drewN ?_ _ | refine blk_drew ?_ | refine blk_alloc ?_ _)); refine blk_put (cs := #[.int .i64 ((rd_T85 l2 x49_3).f0), .int .i64 ((rd_T85 l2 x49_3).f1), .int .i64 0]) ?_ 2 _ rfl; (with_reducible repeat (first | refine blk_drewN ?_ _ | refine blk_drew ?_ | refine blk_alloc ?_ _)); refine blk_put (cs := #[.int .i64 ((rd_T85 l2 x49_3).f0), .int .i64 0, .int .i64 0]) ?_ 1 _ rfl; (with_reducible repeat (first | refine blk_drewN ?_ _ | refine blk_drew ?_ | refine blk_alloc ?_ _)); refine blk_put (cs := #[.int .i64 0, .int .i64 0, .int .i64 0]) ?_ 0 _ rfl; (with_reducible repeat (first | refine blk_drewN ?_ _ | refine blk_drew ?_ | refine blk_alloc ?_ _)); exact BK333.out⟩
             have n3_ : Aside0 (Below w.heap.size w (((w39.setCell ⟨gb333, 0, none⟩ (.int .i64 ((rd_T85 l2 x49_3).f0))).setCell ⟨gb333, 1, none⟩ (.int .i64 ((rd_T85 l2 x49_3).f1))).setCell ⟨gb333, 2, none⟩ (.int .i64 ((rd_T85 l2 x49_3).f2)))) := ⟨belowg1 HB GE333⟩
             (try clear HO_10); (try clear HO_12); (try clear BK333); (try clear HB)
             generalize (((w39.setCell ⟨gb333, 0, none⟩ (.int .i64 ((rd_T85 l2 x49_3).f0))).setCell ⟨gb333, 1, none⟩ (.int .i64 ((rd_T85 l2 x49_3).f1))).setCell ⟨gb333, 2, none⟩ (.int .i64 ((rd_T85 l2 x49_3).f2))) = w41 at n0_ n1_ n2_ n3_ ⊢
             have HO_10 := n0_
             have HO_12 := n1_
             have BK333 := n2_
             have HB := n3_
             clear n0_ n1_ n2_ n3_
             replace HO_10 := ak (Kd.R_drew HO_10.out)
             replace HO_12 := ak (Kd.R_drew HO_12.out)
             replace BK333 := ak (blk_drew BK333.out)
             replace HB := ak (below_drew1 HB.out)
             have q43 : (x49_3 : Int) ≤ ((l2.length : Int) : Int) := da
             obtain ⟨i043, hi043, _, hsz43, _⟩ := info_parts info85
             have hroom43 : l2.length ≤ c2 := HC2.out
             have hC43 : Kd.C k85 _ (some ad332) l2.length l2 := HR2.out
             have hcut43 := cut_to (P := Try.prog) 70 85 .i64 Try.underlying70 hi043 (some ad332) l2.length c2 x49_3 (da) q43 hroom43
             have hr43 := Kd.C_take (m := (x49_3 : Int).toNat) hC43 (by omega)
             have hy43 : y334.length = (x49_3 : Int).toNat := (by rw [Ny334.out, List.length_take]; omega)
             rw [← Ny334.out] at hr43
             rw [← hy43] at hcut43
             have HR337 := Aside0.mk hr43
             have HC337 := Aside0.mk (show y334.length ≤ c2 from by omega)
             clear hr43 hC43 hroom43 hi043 hsz43; have KY43 := Aside0.mk hy43; clear hy43; replace q43 := eq_true q43
             refine start_ (n := 18) (S := fun w' => w'.cell? ⟨gb333, 0, none⟩ = some (.int .i64 ((rd_T85 l2 x49_3).f0)) ∧ w'.cell? ⟨gb333, 1, none⟩ = some (.int .i64 ((rd_T85 l2 x49_3).f1)) ∧ w'.cell? ⟨gb333, 2, none⟩ = some (.int .i64 ((rd_T85 l2 x49_3).f2))) (ds := []) (bl 18 0) (by kernel_rfl) rfl rfl ⟨bq BK333 0, bq BK333 1, bq BK333 2⟩ (fun hHeld => ?_); refine with_tabW impl_TallyOf.tab11 impl_TallyOf.bits11 (fun HT_ HW_ => ?_)
             generalize w41.drew = w42 at HO_10 HO_12 BK333 HB HR337 hHeld ⊢
             refine pureA 0 (some 54) 18 1 HT_ ?_
             refine pureA 2 (some 56) 18 5 HT_ ?_
             refine takeA 1 (some 55) 18 7 HT_ HW_ hHeld ?_ (hy := by rintro w' ⟨s0, s1, s2⟩; go_simp; with_reducible rfl)
             refine pureA 3 (some 57) 18 15 HT_ ?_
             refine pureA 4 (some 58) 18 31 HT_ ?_
             refine pureA 5 (some 59) 18 63 HT_ ?_
             refine pureA 6 (some 60) 18 127 HT_ ?_
             refine pureA 7 (some 61) 18 255 HT_ ?_
             refine takeA 8 (some 62) 18 511 HT_ HW_ hHeld ?_ (hy := by rintro w' ⟨s0, s1, s2⟩; go_simp; with_reducible rfl)
             refine oneA 9 (some 63) 18 1023 HT_ (fun K hK => ?_)
             refine goes_ Try.func160 (by kernel_rfl) rfl #[.slice (some ad332) y334.length c2, .agg #[.int .i64 ((rd_T85 l2 x49_3).f0), .int .i64 ((rd_T85 l2 x49_3).f1), .int .i64 ((rd_T85 l2 x49_3).f2)]] (by rfl) rfl rfl (by (try simp only [List.map_toArray, List.map_cons, List.map_nil]); first | done | rfl | (simp only [List.length_drop, List.length_take]; rfl)) ?_
             with_reducible refine (impl_Claim_160.calls k3 _ _ y334 ((rd_T85 l2 x49_3).f0) ((rd_T85 l2 x49_3).f1) ((rd_T85 l2 x49_3).f2) false _ ?side1 ?side2 A29.out).mono ?_
             (case side1 => exact cd (Kd.C_below HR337.out HB.out))
             (case side2 => exact HC337.out)
             rintro e w44 ⟨rfl, hb⟩
             refine ⟨_, rfl, ?_⟩
             replace HO_10 := ak (Kd.R_below (rdl HO_10) hb)
             replace HO_12 := ak (Kd.R_below (rdl HO_12) hb)
             replace BK333 := ak (blk_below (blkd BK333) hb)
             replace HB := ak (below_step (belowg1 HB GE333) hb)
             (try clear hb); (try clear hb2); (try clear hk); (try clear hi)
             obtain ⟨Ao45, co45, eo45⟩ := Kd.R_slice HO_12.out
             (first | subst eo45 | (injection eo45 with f1_ f2_ f3_; have f4_ := f1_.symm; have f5_ := f3_.symm; clear f1_ f2_ f3_; subst f4_; subst f5_))
             refine hK.out _ _ ⟨bq BK333 0, bq BK333 1, bq BK333 2⟩ (fun hHeld => ?_)
             clear hK K
             refine norm_ (a' := ?_) ?_ ?_
             rotate_left
             ·show Act.put _ (some 63) _ = _
              simp only [Act.put, List.setIfInBounds_toArray, List.set_cons_zero, List.set_cons_succ, i64_w, i32_w]
              rfl
             refine pureA 10 (some 64) 18 2047 HT_ ?_
             refine pureA 11 (some 65) 18 4095 HT_ ?_
             refine pureA 12 (some 66) 18 8191 HT_ ?_
             refine pureA 13 (some 67) 18 16383 HT_ ?_
             refine takeA 14 (some 68) 18 32767 HT_ HW_ hHeld ?_ (hy := by rintro w' ⟨s0, s1, s2⟩; go_simp; with_reducible rfl)
             refine oneA 15 (some 69) 18 65535 HT_ (fun K hK => ?_)
             refine goes_ Try.func160 (by kernel_rfl) rfl #[.slice Ao45 t326.length co45, .agg #[.int .i64 ((rd_T85 l2 x49_3).f0), .int .i64 ((rd_T85 l2 x49_3).f1), .int .i64 ((rd_T85 l2 x49_3).f2)]] (by rfl) rfl rfl (by (try simp only [List.map_toArray, List.map_cons, List.map_nil]); first | done | rfl | (simp only [List.length_drop, List.length_take]; rfl)) ?_
             with_reducible refine (impl_Claim_160.calls k3 _ _ t326 ((rd_T85 l2 x49_3).f0) ((rd_T85 l2 x49_3).f1) ((rd_T85 l2 x49_3).f2) true _ ?side1 ?side2 A37.out).mono ?_
             (case side1 => exact cd (Kd.R_reads' HO_12.out).2.2)
             (case side2 => exact (Kd.R_reads' HO_12.out).2.1)
             rintro e w46 ⟨rfl, hb⟩
             refine ⟨_, rfl, ?_⟩
             replace HO_10 := ak (Kd.R_below (rdl HO_10) hb)
             replace HO_12 := ak (Kd.R_below (rdl HO_12) hb)
             replace BK333 := ak (blk_below (blkd BK333) hb)
             replace HB := ak (below_step (belowg1 HB GE333) hb)
             (try clear hb); (try clear hb2); (try clear hk); (try clear hi)
             refine hK.out _ _ ⟨bq BK333 0, bq BK333 1, bq BK333 2⟩ (fun hHeld => ?_)
             clear hK K
             refine norm_ (a' := ?_) ?_ ?_
             rotate_left
             ·show Act.put _ (some 69) _ = _
              simp only [Act.put, List.setIfInBounds_toArray, List.set_cons_zero, List.set_cons_succ, i64_w, i32_w]
              rfl
             refine pureA 16 (some 70) 18 131071 HT_ ?_
             refine pureA 17 (some 71) 18 262143 HT_ ?_
             refine done_ (done_of HT_.out (by kernel_rfl)) ?_
             try go_wp2
             go_roundg k3
             case measure => have := HJ4.out; have := HK2.out; have := HK3.out; omega
             case rel => exact ⟨(x13_3), (wrap64 (x49_3 + 1)), er, er, H', ⟨by have := HJ4.out; have := HK2.out; have := HK3.out; omega⟩, ⟨rdl HO_10⟩, ⟨by (with_reducible repeat (first | apply Kd.R_alloc | apply Kd.R_drewN | apply Kd.R_drew)); exact Kd.R_mono HO_12.out (fun _ hk => trivial)⟩, ⟨belowg1 HB GE333⟩⟩
            ·replace c38 := Bool.eq_false_iff.mpr c38
             subst c38
             have H1 : (impl_TallyOf.l1 k3 a1 l2 l3 x10_2 x40_2 t326 (wrap64 (x13_3 + 1)) a0 x40_2 l2 (l2.length : Int) (wrap64 (x49_3 + 1))) = some (r1, r2) := by rw [if_neg (show ¬ (false = true) by decide)] at H; exact H
             clear H
             have H := H1
             clear H1
             have H' := Aside0.mk H
             clear H
             have p332 : 0 ≤ (x49_3 : Int) := da
             have q332 : x49_3 < (l2.length : Int) := da
             obtain ⟨ad332, e332, hx332_0, hx332_1, hx332_2⟩ := at_T85 HR2.out x49_3 p332 q332
             cases e332
             replace hx332_0 := (HB.out.cell (World.block_lt_of_cell? w _ hx332_0)).trans hx332_0
             replace hx332_1 := (HB.out.cell (World.block_lt_of_cell? w _ hx332_1)).trans hx332_1
             replace hx332_2 := (HB.out.cell (World.block_lt_of_cell? w _ hx332_2)).trans hx332_2
             replace p332 := eq_true p332; replace q332 := eq_true q332
             try go_wp2_with (first | ((with_reducible refine gate_dst (N := 15) rfl ?_); (try (refine gate_guard (by rfl) ?_; dsimp only)); refine boxev 15 #[.int .i64 0, .int .i64 0, .int .i64 0] 85 ?_; intro gb333 hg w47 hbox hb; replace HO_10 := ak (Kd.R_below (rdl HO_10) hb); replace HO_12 := ak (Kd.R_below (Kd.R_elderB (rdl HO_12) gb333 (Nat.le_of_eq hg.symm)) hb); have BK333 := ak (hbox); have GW333 := ak (hgl hg (belowd HB)); have GE333 := ak (hgl hg (belowd HB)); replace HB := ak (below_step (belowd HB) hb); clear hb hbox hg; obtain ⟨hcz48_0, hcz48_1, hcz48_2, hfz48_0, hfz48_1, hfz48_2⟩ := box3 BK333))
             have n0_ : Aside0 (Kd.R k110 110 (((w47.setCell ⟨gb333, 0, none⟩ (.int .i64 ((rd_T85 l2 x49_3).f0))).setCell ⟨gb333, 1, none⟩ (.int .i64 ((rd_T85 l2 x49_3).f1))).setCell ⟨gb333, 2, none⟩ (.int .i64 ((rd_T85 l2 x49_3).f2))) w.heap.size (fun _ => True) u10 x10_2) := ⟨by (with_reducible repeat (first | apply Kd.R_alloc | apply Kd.R_drewN | apply Kd.R_drew)); exact Kd.R_mono (farsR (Kd.R_types HO_10.out BK333.out (by decide))) (fun _ hk => trivial)⟩
             have n1_ : Aside0 (Kd.R k85 85 (((w47.setCell ⟨gb333, 0, none⟩ (.int .i64 ((rd_T85 l2 x49_3).f0))).setCell ⟨gb333, 1, none⟩ (.int .i64 ((rd_T85 l2 x49_3).f1))).setCell ⟨gb333, 2, none⟩ (.int .i64 ((rd_T85 l2 x49_3).f2))) w.heap.size (fun k_ => k_ ≠ gb333) v327 t326) := ⟨by (with_reducible repeat (first | apply Kd.R_alloc | apply Kd.R_drewN | apply Kd.R_drew)); exact Kd.R_mono (farsR (Kd.R_mono HO_12.out (fun k_ hk => (⟨hk, hk.2⟩ : _ ∧ k_ ≠ gb333)))) (fun _ hk => hk.1.2)⟩
             have n2_ : Aside0 ((((w47.setCell ⟨gb333, 0, none⟩ (.int .i64 ((rd_T85 l2 x49_3).f0))).setCell ⟨gb333, 1, none⟩ (.int .i64 ((rd_T85 l2 x49_3).f1))).setCell ⟨gb333, 2, none⟩ (.int .i64 ((rd_T85 l2 x49_3).f2))).heap[gb333]? = some (.cells #[.int .i64 ((rd_T85 l2 x49_3).f0), .int .i64 ((rd_T85 l2 x49_3).f1), .int .i64 ((rd_T85 l2 x49_3).f2)] 85 (0, 0))) := ⟨by (with_reducible repeat (first | refine blk_drewN ?_ _ | refine blk_drew ?_ | refine blk_alloc ?_ _)); refine blk_put (cs := #[.int .i64 ((rd_T85 l2 x49_3).f0), .int .i64 ((rd_T85 l2 x49_3).f1), .int .i64 0]) ?_ 2 _ rfl; (with_reducible repeat (first | refine blk_drewN ?_ _ | refine blk_drew ?_ | refine blk_alloc ?_ _)); refine blk_put (cs := #[.int .i64 ((rd_T85 l2 x49_3).f0), .int .i64 0, .int .i64 0]) ?_ 1 _ rfl; (with_reducible repeat (first | refine blk_drewN ?_ _ | refine blk_drew ?_ | refine blk_alloc ?_ _)); refine blk_put (cs := #[.int .i64 0, .int .i64 0, .int .i64 0]) ?_ 0 _ rfl; (with_reducible repeat (first | refine blk_drewN ?_ _ | refine blk_drew ?_ | refine blk_alloc ?_ _)); exact BK333.out⟩
             have n3_ : Aside0 (Below w.heap.size w (((w47.setCell ⟨gb333, 0, none⟩ (.int .i64 ((rd_T85 l2 x49_3).f0))).setCell ⟨gb333, 1, none⟩ (.int .i64 ((rd_T85 l2 x49_3).f1))).setCell ⟨gb333, 2, none⟩ (.int .i64 ((rd_T85 l2 x49_3).f2)))) := ⟨belowg1 HB GE333⟩
             (try clear HO_10); (try clear HO_12); (try clear BK333); (try clear HB)
             generalize (((w47.setCell ⟨gb333, 0, none⟩ (.int .i64 ((rd_T85 l2 x49_3).f0))).setCell ⟨gb333, 1, none⟩ (.int .i64 ((rd_T85 l2 x49_3).f1))).setCell ⟨gb333, 2, none⟩ (.int .i64 ((rd_T85 l2 x49_3).f2))) = w49 at n0_ n1_ n2_ n3_ ⊢
             have HO_10 := n0_
             have HO_12 := n1_
             have BK333 := n2_
             have HB := n3_
             clear n0_ n1_ n2_ n3_
             replace HO_10 := ak (Kd.R_drew HO_10.out)
             replace HO_12 := ak (Kd.R_drew HO_12.out)
             replace BK333 := ak (blk_drew BK333.out)
             replace HB := ak (below_drew1 HB.out)
             have q51 : (x49_3 : Int) ≤ ((l2.length : Int) : Int) := da
             obtain ⟨i051, hi051, _, hsz51, _⟩ := info_parts info85
             have hroom51 : l2.length ≤ c2 := HC2.out
             have hC51 : Kd.C k85 _ (some ad332) l2.length l2 := HR2.out
             have hcut51 := cut_to (P := Try.prog) 70 85 .i64 Try.underlying70 hi051 (some ad332) l2.length c2 x49_3 (da) q51 hroom51
             have hr51 := Kd.C_take (m := (x49_3 : Int).toNat) hC51 (by omega)
             have hy51 : y334.length = (x49_3 : Int).toNat := (by rw [Ny334.out, List.length_take]; omega)
             rw [← Ny334.out] at hr51
             rw [← hy51] at hcut51
             have HR337 := Aside0.mk hr51
             have HC337 := Aside0.mk (show y334.length ≤ c2 from by omega)
             clear hr51 hC51 hroom51 hi051 hsz51; have KY51 := Aside0.mk hy51; clear hy51; replace q51 := eq_true q51
             refine start_ (n := 18) (S := fun w' => w'.cell? ⟨gb333, 0, none⟩ = some (.int .i64 ((rd_T85 l2 x49_3).f0)) ∧ w'.cell? ⟨gb333, 1, none⟩ = some (.int .i64 ((rd_T85 l2 x49_3).f1)) ∧ w'.cell? ⟨gb333, 2, none⟩ = some (.int .i64 ((rd_T85 l2 x49_3).f2))) (ds := []) (bl 18 0) (by kernel_rfl) rfl rfl ⟨bq BK333 0, bq BK333 1, bq BK333 2⟩ (fun hHeld => ?_); refine with_tabW impl_TallyOf.tab11 impl_TallyOf.bits11 (fun HT_ HW_ => ?_)
             generalize w49.drew = w50 at HO_10 HO_12 BK333 HB HR337 hHeld ⊢
             refine pureA 0 (some 54) 18 1 HT_ ?_
             refine pureA 2 (some 56) 18 5 HT_ ?_
             refine takeA 1 (some 55) 18 7 HT_ HW_ hHeld ?_ (hy := by rintro w' ⟨s0, s1, s2⟩; go_simp; with_reducible rfl)
             refine pureA 3 (some 57) 18 15 HT_ ?_
             refine pureA 4 (some 58) 18 31 HT_ ?_
             refine pureA 5 (some 59) 18 63 HT_ ?_
             refine pureA 6 (some 60) 18 127 HT_ ?_
             refine pureA 7 (some 61) 18 255 HT_ ?_
             refine takeA 8 (some 62) 18 511 HT_ HW_ hHeld ?_ (hy := by rintro w' ⟨s0, s1, s2⟩; go_simp; with_reducible rfl)
             refine oneA 9 (some 63) 18 1023 HT_ (fun K hK => ?_)
             refine goes_ Try.func160 (by kernel_rfl) rfl #[.slice (some ad332) y334.length c2, .agg #[.int .i64 ((rd_T85 l2 x49_3).f0), .int .i64 ((rd_T85 l2 x49_3).f1), .int .i64 ((rd_T85 l2 x49_3).f2)]] (by rfl) rfl rfl (by (try simp only [List.map_toArray, List.map_cons, List.map_nil]); first | done | rfl | (simp only [List.length_drop, List.length_take]; rfl)) ?_
             with_reducible refine (impl_Claim_160.calls k3 _ _ y334 ((rd_T85 l2 x49_3).f0) ((rd_T85 l2 x49_3).f1) ((rd_T85 l2 x49_3).f2) false _ ?side1 ?side2 A29.out).mono ?_
             (case side1 => exact cd (Kd.C_below HR337.out HB.out))
             (case side2 => exact HC337.out)
             rintro e w52 ⟨rfl, hb⟩
             refine ⟨_, rfl, ?_⟩
             replace HO_10 := ak (Kd.R_below (rdl HO_10) hb)
             replace HO_12 := ak (Kd.R_below (rdl HO_12) hb)
             replace BK333 := ak (blk_below (blkd BK333) hb)
             replace HB := ak (below_step (belowg1 HB GE333) hb)
             (try clear hb); (try clear hb2); (try clear hk); (try clear hi)
             obtain ⟨Ao53, co53, eo53⟩ := Kd.R_slice HO_12.out
             (first | subst eo53 | (injection eo53 with f1_ f2_ f3_; have f4_ := f1_.symm; have f5_ := f3_.symm; clear f1_ f2_ f3_; subst f4_; subst f5_))
             refine hK.out _ _ ⟨bq BK333 0, bq BK333 1, bq BK333 2⟩ (fun hHeld => ?_)
             clear hK K
             refine norm_ (a' := ?_) ?_ ?_
             rotate_left
             ·show Act.put _ (some 63) _ = _
              simp only [Act.put, List.setIfInBounds_toArray, List.set_cons_zero, List.set_cons_succ, i64_w, i32_w]
              rfl
             refine pureA 10 (some 64) 18 2047 HT_ ?_
             refine pureA 11 (some 65) 18 4095 HT_ ?_
             refine pureA 12 (some 66) 18 8191 HT_ ?_
             refine pureA 13 (some 67) 18 16383 HT_ ?_
             refine takeA 14 (some 68) 18 32767 HT_ HW_ hHeld ?_ (hy := by rintro w' ⟨s0, s1, s2⟩; go_simp; with_reducible rfl)
             refine oneA 15 (some 69) 18 65535 HT_ (fun K hK => ?_)
             refine goes_ Try.func160 (by kernel_rfl) rfl #[.slice Ao53 t326.length co53, .agg #[.int .i64 ((rd_T85 l2 x49_3).f0), .int .i64 ((rd_T85 l2 x49_3).f1), .int .i64 ((rd_T85 l2 x49_3).f2)]] (by rfl) rfl rfl (by (try simp only [List.map_toArray, List.map_cons, List.map_nil]); first | done | rfl | (simp only [List.length_drop, List.length_take]; rfl)) ?_
             with_reducible refine (impl_Claim_160.calls k3 _ _ t326 ((rd_T85 l2 x49_3).f0) ((rd_T85 l2 x49_3).f1) ((rd_T85 l2 x49_3).f2) false _ ?side1 ?side2 A37.out).mono ?_
             (case side1 => exact cd (Kd.R_reads' HO_12.out).2.2)
             (case side2 => exact (Kd.R_reads' HO_12.out).2.1)
             rintro e w54 ⟨rfl, hb⟩
             refine ⟨_, rfl, ?_⟩
             replace HO_10 := ak (Kd.R_below (rdl HO_10) hb)
             replace HO_12 := ak (Kd.R_below (rdl HO_12) hb)
             replace BK333 := ak (blk_below (blkd BK333) hb)
             replace HB := ak (below_step (belowg1 HB GE333) hb)
             (try clear hb); (try clear hb2); (try clear hk); (try clear hi)
             refine hK.out _ _ ⟨bq BK333 0, bq BK333 1, bq BK333 2⟩ (fun hHeld => ?_)
             clear hK K
             refine norm_ (a' := ?_) ?_ ?_
             rotate_left
             ·show Act.put _ (some 69) _ = _
              simp only [Act.put, List.setIfInBounds_toArray, List.set_cons_zero, List.set_cons_succ, i64_w, i32_w]
              rfl
             refine pureA 16 (some 70) 18 131071 HT_ ?_
             refine pureA 17 (some 71) 18 262143 HT_ ?_
             refine done_ (done_of HT_.out (by kernel_rfl)) ?_
             try go_wp2
             go_roundg k3
             case measure => have := HJ4.out; have := HK2.out; have := HK3.out; omega
             case rel => exact ⟨(wrap64 (x13_3 + 1)), (wrap64 (x49_3 + 1)), er, er, H', ⟨by have := HJ4.out; have := HK2.out; have := HK3.out; omega⟩, ⟨rdl HO_10⟩, ⟨by (with_reducible repeat (first | apply Kd.R_alloc | apply Kd.R_drewN | apply Kd.R_drew)); exact Kd.R_mono HO_12.out (fun _ hk => trivial)⟩, ⟨belowg1 HB GE333⟩⟩
          ·rw [if_neg c26] at H
           have c26b0 : (((rd_T85 l2 x49_3).f0) == x40_2) = false := beq_eq_false_iff_ne.mpr c26
           have c26b1 : (((rd_T85 l2 x49_3).f0) != x40_2) = true := bne_iff_ne.mpr c26
           have H' := Aside0.mk H
           clear H
           have p332 : 0 ≤ (x49_3 : Int) := da
           have q332 : x49_3 < (l2.length : Int) := da
           obtain ⟨ad332, e332, hx332_0, hx332_1, hx332_2⟩ := at_T85 HR2.out x49_3 p332 q332
           cases e332
           replace hx332_0 := (HB.out.cell (World.block_lt_of_cell? w _ hx332_0)).trans hx332_0
           replace hx332_1 := (HB.out.cell (World.block_lt_of_cell? w _ hx332_1)).trans hx332_1
           replace hx332_2 := (HB.out.cell (World.block_lt_of_cell? w _ hx332_2)).trans hx332_2
           replace p332 := eq_true p332; replace q332 := eq_true q332
           try go_wp2_with (first | ((with_reducible refine gate_dst (N := 15) rfl ?_); (try (refine gate_guard (by rfl) ?_; dsimp only)); refine boxev 15 #[.int .i64 0, .int .i64 0, .int .i64 0] 85 ?_; intro gb333 hg w55 hbox hb; replace HO_10 := ak (Kd.R_below (rdl HO_10) hb); replace HO_12 := ak (Kd.R_below (Kd.R_elderB (rdl HO_12) gb333 (Nat.le_of_eq hg.symm)) hb); have BK333 := ak (hbox); have GW333 := ak (hgl hg (belowd HB)); have GE333 := ak (hgl hg (belowd HB)); replace HB := ak (below_step (belowd HB) hb); clear hb hbox hg; obtain ⟨hcz56_0, hcz56_1, hcz56_2, hfz56_0, hfz56_1, hfz56_2⟩ := box3 BK333))
           have n0_ : Aside0 (Kd.R k110 110 (((w55.setCell ⟨gb333, 0, none⟩ (.int .i64 ((rd_T85 l2 x49_3).f0))).setCell ⟨gb333, 1, none⟩ (.int .i64 ((rd_T85 l2 x49_3).f1))).setCell ⟨gb333, 2, none⟩ (.int .i64 ((rd_T85 l2 x49_3).f2))) w.heap.size (fun _ => True) u10 x10_2) := ⟨by (with_reducible repeat (first | apply Kd.R_alloc | apply Kd.R_drewN | apply Kd.R_drew)); exact Kd.R_mono (farsR (Kd.R_types HO_10.out BK333.out (by decide))) (fun _ hk => trivial)⟩
           have n1_ : Aside0 (Kd.R k85 85 (((w55.setCell ⟨gb333, 0, none⟩ (.int .i64 ((rd_T85 l2 x49_3).f0))).setCell ⟨gb333, 1, none⟩ (.int .i64 ((rd_T85 l2 x49_3).f1))).setCell ⟨gb333, 2, none⟩ (.int .i64 ((rd_T85 l2 x49_3).f2))) w.heap.size (fun k_ => k_ ≠ gb333) v327 t326) := ⟨by (with_reducible repeat (first | apply Kd.R_alloc | apply Kd.R_drewN | apply Kd.R_drew)); exact Kd.R_mono (farsR (Kd.R_mono HO_12.out (fun k_ hk => (⟨hk, hk.2⟩ : _ ∧ k_ ≠ gb333)))) (fun _ hk => hk.1.2)⟩
           have n2_ : Aside0 ((((w55.setCell ⟨gb333, 0, none⟩ (.int .i64 ((rd_T85 l2 x49_3).f0))).setCell ⟨gb333, 1, none⟩ (.int .i64 ((rd_T85 l2 x49_3).f1))).setCell ⟨gb333, 2, none⟩ (.int .i64 ((rd_T85 l2 x49_3).f2))).heap[gb333]? = some (.cells #[.int .i64 ((rd_T85 l2 x49_3).f0), .int .i64 ((rd_T85 l2 x49_3).f1), .int .i64 ((rd_T85 l2 x49_3).f2)] 85 (0, 0))) := ⟨by (with_reducible repeat (first | refine blk_drewN ?_ _ | refine blk_drew ?_ | refine blk_alloc ?_ _)); refine blk_put (cs := #[.int .i64 ((rd_T85 l2 x49_3).f0), .int .i64 ((rd_T85 l2 x49_3).f1), .int .i64 0]) ?_ 2 _ rfl; (with_reducible repeat (first | refine blk_drewN ?_ _ | refine blk_drew ?_ | refine blk_alloc ?_ _)); refine blk_put (cs := #[.int .i64 ((rd_T85 l2 x49_3).f0), .int .i64 0, .int .i64 0]) ?_ 1 _ rfl; (with_reducible repeat (first | refine blk_drewN ?_ _ | refine blk_drew ?_ | refine blk_alloc ?_ _)); refine blk_put (cs := #[.int .i64 0, .int .i64 0, .int .i64 0]) ?_ 0 _ rfl; (with_reducible repeat (first | refine blk_drewN ?_ _ | refine blk_drew ?_ | refine blk_alloc ?_ _)); exact BK333.out⟩
           have n3_ : Aside0 (Below w.heap.size w (((w55.setCell ⟨gb333, 0, none⟩ (.int .i64 ((rd_T85 l2 x49_3).f0))).setCell ⟨gb333, 1, none⟩ (.int .i64 ((rd_T85 l2 x49_3).f1))).setCell ⟨gb333, 2, none⟩ (.int .i64 ((rd_T85 l2 x49_3).f2)))) := ⟨belowg1 HB GE333⟩
           (try clear HO_10); (try clear HO_12); (try clear BK333); (try clear HB)
           generalize (((w55.setCell ⟨gb333, 0, none⟩ (.int .i64 ((rd_T85 l2 x49_3).f0))).setCell ⟨gb333, 1, none⟩ (.int .i64 ((rd_T85 l2 x49_3).f1))).setCell ⟨gb333, 2, none⟩ (.int .i64 ((rd_T85 l2 x49_3).f2))) = w57 at n0_ n1_ n2_ n3_ ⊢
           have HO_10 := n0_
           have HO_12 := n1_
           have BK333 := n2_
           have HB := n3_
           clear n0_ n1_ n2_ n3_
           replace HO_10 := ak (Kd.R_drew HO_10.out)
           replace HO_12 := ak (Kd.R_drew HO_12.out)
           replace BK333 := ak (blk_drew BK333.out)
           replace HB := ak (below_drew1 HB.out)
           refine start_ (n := 18) (S := fun w' => w'.cell? ⟨gb333, 0, none⟩ = some (.int .i64 ((rd_T85 l2 x49_3).f0)) ∧ w'.cell? ⟨gb333, 1, none⟩ = some (.int .i64 ((rd_T85 l2 x49_3).f1)) ∧ w'.cell? ⟨gb333, 2, none⟩ = some (.int .i64 ((rd_T85 l2 x49_3).f2))) (ds := []) (bl 18 0) (by kernel_rfl) rfl rfl ⟨bq BK333 0, bq BK333 1, bq BK333 2⟩ (fun hHeld => ?_); refine with_tabW impl_TallyOf.tab11 impl_TallyOf.bits11 (fun HT_ HW_ => ?_)
           generalize w57.drew = w58 at HO_10 HO_12 BK333 HB hHeld ⊢
           refine pureA 0 (some 54) 18 1 HT_ ?_
           refine pureA 2 (some 56) 18 5 HT_ ?_
           refine takeA 1 (some 55) 18 7 HT_ HW_ hHeld ?_ (hy := by rintro w' ⟨s0, s1, s2⟩; go_simp; with_reducible rfl)
           refine pureA 3 (some 57) 18 15 HT_ ?_
           refine pureA 4 (some 58) 18 31 HT_ ?_
           refine pureB 5 (some 59) 18 63 HT_ ?_
           refine pureB 6 (some 60) 18 127 HT_ ?_
           refine pureB 7 (some 61) 18 255 HT_ ?_
           refine pureB 8 (some 62) 18 511 HT_ ?_
           refine pureB 9 (some 63) 18 1023 HT_ ?_
           refine pureB 10 (some 64) 18 2047 HT_ ?_
           refine pureA 11 (some 65) 18 4095 HT_ ?_
           refine pureA 12 (some 66) 18 8191 HT_ ?_
           refine pureB 13 (some 67) 18 16383 HT_ ?_
           refine pureB 14 (some 68) 18 32767 HT_ ?_
           refine pureB 15 (some 69) 18 65535 HT_ ?_
           refine pureB 16 (some 70) 18 131071 HT_ ?_
           refine pureA 17 (some 71) 18 262143 HT_ ?_
           refine done_ (done_of HT_.out (by kernel_rfl)) ?_
           try go_wp2
           go_roundg k3
           case measure => have := HJ4.out; have := HK2.out; have := HK3.out; omega
           case rel => exact ⟨(x13_3), (wrap64 (x49_3 + 1)), er, er, H', ⟨by have := HJ4.out; have := HK2.out; have := HK3.out; omega⟩, ⟨rdl HO_10⟩, ⟨by (with_reducible repeat (first | apply Kd.R_alloc | apply Kd.R_drewN | apply Kd.R_drew)); exact Kd.R_mono HO_12.out (fun _ hk => trivial)⟩, ⟨belowg1 HB GE333⟩⟩
         ·rw [if_neg c23] at H
          have c23b0 : decide (x49_3 < (l2.length : Int)) = false := decide_eq_false c23
          clear c23; replace H := ifS H; obtain ⟨c59, H⟩ := H; have LMc59 := Aside0.mk c59; clear c59
          obtain ⟨y329, hy_⟩ : ∃ y_ : List (S110), y_ = (x10_2 ++ [(⟨x40_2, x13_3, (t326.length : Int)⟩ : S110)]) := ⟨_, rfl⟩
          replace H : (impl_TallyOf.l0 k3 a1 l2 l3 y329 a0 (wrap64 (x40_2 + 1))) = some (r1, r2) := yH
          have Ny329 := ak hy_; clear hy_
          have H' := Aside0.mk H
          clear H
          obtain ⟨Ao60, co60, eo60⟩ := Kd.R_slice HO_12.out
          subst eo60
          go_wp2_with (first | ((with_reducible refine gate_builtin (b := .append) (xs := #[.tmp 75, .tmp 81]) rfl ?_); (try (refine gate_guard (by rfl) ?_; dsimp only)); at_builtin; refine Kd.R_append k110 (w0 := w) w.heap.size rfl (.tmp 75) (.tmp 81) 99 110 (.agg #[(.int .i64 0), (.int .i64 0), (.int .i64 0)]) 24 rfl Try.underlying99 info110 rfl (by decide) (by omega) u10 x10_2 (⟨x40_2, x13_3, (t326.length : Int)⟩ : S110) [.int .i64 x40_2, .int .i64 x13_3, .int .i64 (t326.length : Int)] (fun _ => True) (fun _ => False) rfl rfl ?aP (fun _ hk => hk.elim) ?aF ?aO ?aB ?aS ?aL ?_; (case aP => exact k110_mkM _ _ _ (⟨x40_2, x13_3, (t326.length : Int)⟩ : S110)); (case aB => exact (belowd HB)); (case aF => exact (fun _ _ => trivial)); (case aO => exact (rdl HO_10)); (case aS => exact (below_size (belowd HB))); (case aL => have := LMc59.out; omega); intro v330 w61 ho hb hg hat; rw [← Ny329.out] at ho; replace HO_12 := ak (Kd.R_over' (rdl HO_12) (Kd.R_typed (rdl HO_10)) (by decide) hg); replace HB := ak (hb); have HO331 := ak (ho); clear HO_10; clear ho hb hg hat))
          go_roundg k3
          case measure => have := HJ4.out; have := HK2.out; have := HK3.out; omega
          case rel => exact ⟨(y329), (wrap64 (x40_2 + 1)), er, H', ⟨by have := HJ4.out; have := HK2.out; have := HK3.out; omega⟩, ⟨rdl HO331⟩, ⟨belowd HB⟩⟩
      ·rw [if_neg c20] at H
       have c20b0 : decide (x40_2 < a0) = false := decide_eq_false c20
       clear c20
       simp only [Option.some.injEq, Prod.mk.injEq] at H
       obtain ⟨rfl, rfl⟩ := H; go_wp2
       go_ret2
       exact ⟨_, er2, by (with_reducible repeat (first | apply Kd.R_alloc | apply Kd.R_drewN | apply Kd.R_drew)); exact HO_10.out, belowd HB⟩

/-! ### laws_eqTally: function 161 -/
def laws_eqTally.f (a0_0 : Int) (a0_1 : Int) (a0_2 : Int) (a1_0 : Int) (a1_1 : Int) (a1_2 : Int) : Option (Bool) := if a0_0 = a1_0 then (if a0_1 = a1_1 then (if a0_2 = a1_2 then (some true) else (some false)) else (some false)) else (some false)
set_option maxHeartbeats 8000000 in
set_option maxRecDepth 100000 in
theorem laws_eqTally.calls (a0_0 : Int) (a0_1 : Int) (a0_2 : Int) (a1_0 : Int) (a1_1 : Int) (a1_2 : Int) (r : Bool) (w : World) (h : laws_eqTally.f a0_0 a0_1 a0_2 a1_0 a1_1 a1_2 = some r) :
  Calls Try.prog 161 #[.agg #[.int .i64 a0_0, .int .i64 a0_1, .int .i64 a0_2], .agg #[.int .i64 a1_0, .int .i64 a1_1, .int .i64 a1_2]] w fun e w' => e = .returned (.bool r) ∧ Below w.heap.size w w' := by
 have hu110 := Try.underlying110
 have HB := Aside0.mk (Below.refl w.heap.size w)
 have H : (if a0_0 = a1_0 then (if a0_1 = a1_1 then (if a0_2 = a1_2 then (some true) else (some false)) else (some false)) else (some false)) = some r := h
 clear h
 by_cases c3 : a0_0 = a1_0
 ·rw [if_pos c3] at H
  have c3b0 : (a0_0 == a1_0) = true := beq_iff_eq.mpr c3
  have c3b1 : (a0_0 != a1_0) = false := bne_eq_false_iff_eq.mpr c3
  clear c3
  by_cases c4 : a0_1 = a1_1
  ·rw [if_pos c4] at H
   have c4b0 : (a0_1 == a1_1) = true := beq_iff_eq.mpr c4
   have c4b1 : (a0_1 != a1_1) = false := bne_eq_false_iff_eq.mpr c4
   clear c4
   by_cases c5 : a0_2 = a1_2
   ·rw [if_pos c5] at H
    have c5b0 : (a0_2 == a1_2) = true := beq_iff_eq.mpr c5
    have c5b1 : (a0_2 != a1_2) = false := bne_eq_false_iff_eq.mpr c5
    clear c5
    obtain rfl := Option.some.inj H
    go_enter Try.func161, Try.ntmps161
    go_wp2_with (first | ((with_reducible refine gate_dst (N := 2) rfl ?_); refine boxev 2 #[.int .i64 a0_0, .int .i64 a0_1, .int .i64 a0_2] 110 ?_; intro gb340 hg w6 hbox hb; have BK340 := ak (hbox); have GW340 := ak (hgl hg (belowd HB)); have GE340 := ak (hgl hg (belowd HB)); replace HB := ak (below_step (belowd HB) hb); clear hb hbox hg) | ((with_reducible refine gate_dst (N := 3) rfl ?_); refine boxev 3 #[.int .i64 a1_0, .int .i64 a1_1, .int .i64 a1_2] 110 ?_; intro gb341 hg w7 hbox hb; have BK341 := ak (hbox); have GW341 := ak (hgl hg (belowg1 HB GE340)); have GE341 := ak (hgl hg (belowg1 HB GE340)); replace HB := ak (below_step (belowg1 HB GE340) hb); have NB340_341 := ak ((by rw [hg]; exact Nat.ne_of_lt (blk_lt (blkd BK340)) : gb340 ≠ gb341)); have NB341_340 := ak ((by rw [hg]; exact Nat.ne_of_gt (blk_lt (blkd BK340)) : gb341 ≠ gb340)); replace BK340 := ak (blk_below (blkd BK340) hb); clear hb hbox hg; have hnb8 := NB340_341.out; have hnc8 := NB341_340.out; obtain ⟨hcz9_0, hcz9_1, hcz9_2, hfz9_0, hfz9_1, hfz9_2⟩ := box3 BK340; obtain ⟨hcz10_0, hcz10_1, hcz10_2, hfz10_0, hfz10_1, hfz10_2⟩ := box3 BK341))
    go_ret
    exact ⟨er2, belowg2 HB GE340 GE341⟩
   ·rw [if_neg c5] at H
    have c5b0 : (a0_2 == a1_2) = false := beq_eq_false_iff_ne.mpr c5
    have c5b1 : (a0_2 != a1_2) = true := bne_iff_ne.mpr c5
    obtain rfl := Option.some.inj H
    go_enter Try.func161, Try.ntmps161
    go_wp2_with (first | ((with_reducible refine gate_dst (N := 2) rfl ?_); refine boxev 2 #[.int .i64 a0_0, .int .i64 a0_1, .int .i64 a0_2] 110 ?_; intro gb340 hg w11 hbox hb; have BK340 := ak (hbox); have GW340 := ak (hgl hg (belowd HB)); have GE340 := ak (hgl hg (belowd HB)); replace HB := ak (below_step (belowd HB) hb); clear hb hbox hg) | ((with_reducible refine gate_dst (N := 3) rfl ?_); refine boxev 3 #[.int .i64 a1_0, .int .i64 a1_1, .int .i64 a1_2] 110 ?_; intro gb341 hg w12 hbox hb; have BK341 := ak (hbox); have GW341 := ak (hgl hg (belowg1 HB GE340)); have GE341 := ak (hgl hg (belowg1 HB GE340)); replace HB := ak (below_step (belowg1 HB GE340) hb); have NB340_341 := ak ((by rw [hg]; exact Nat.ne_of_lt (blk_lt (blkd BK340)) : gb340 ≠ gb341)); have NB341_340 := ak ((by rw [hg]; exact Nat.ne_of_gt (blk_lt (blkd BK340)) : gb341 ≠ gb340)); replace BK340 := ak (blk_below (blkd BK340) hb); clear hb hbox hg; have hnb13 := NB340_341.out; have hnc13 := NB341_340.out; obtain ⟨hcz14_0, hcz14_1, hcz14_2, hfz14_0, hfz14_1, hfz14_2⟩ := box3 BK340; obtain ⟨hcz15_0, hcz15_1, hcz15_2, hfz15_0, hfz15_1, hfz15_2⟩ := box3 BK341))
    go_ret
    exact ⟨er2, belowg2 HB GE340 GE341⟩
  ·rw [if_neg c4] at H
   have c4b0 : (a0_1 == a1_1) = false := beq_eq_false_iff_ne.mpr c4
   have c4b1 : (a0_1 != a1_1) = true := bne_iff_ne.mpr c4
   obtain rfl := Option.some.inj H
   go_enter Try.func161, Try.ntmps161
   go_wp2_with (first | ((with_reducible refine gate_dst (N := 2) rfl ?_); refine boxev 2 #[.int .i64 a0_0, .int .i64 a0_1, .int .i64 a0_2] 110 ?_; intro gb340 hg w16 hbox hb; have BK340 := ak (hbox); have GW340 := ak (hgl hg (belowd HB)); have GE340 := ak (hgl hg (belowd HB)); replace HB := ak (below_step (belowd HB) hb); clear hb hbox hg) | ((with_reducible refine gate_dst (N := 3) rfl ?_); refine boxev 3 #[.int .i64 a1_0, .int .i64 a1_1, .int .i64 a1_2] 110 ?_; intro gb341 hg w17 hbox hb; have BK341 := ak (hbox); have GW341 := ak (hgl hg (belowg1 HB GE340)); have GE341 := ak (hgl hg (belowg1 HB GE340)); replace HB := ak (below_step (belowg1 HB GE340) hb); have NB340_341 := ak ((by rw [hg]; exact Nat.ne_of_lt (blk_lt (blkd BK340)) : gb340 ≠ gb341)); have NB341_340 := ak ((by rw [hg]; exact Nat.ne_of_gt (blk_lt (blkd BK340)) : gb341 ≠ gb340)); replace BK340 := ak (blk_below (blkd BK340) hb); clear hb hbox hg; have hnb18 := NB340_341.out; have hnc18 := NB341_340.out; obtain ⟨hcz19_0, hcz19_1, hcz19_2, hfz19_0, hfz19_1, hfz19_2⟩ := box3 BK340; obtain ⟨hcz20_0, hcz20_1, hcz20_2, hfz20_0, hfz20_1, hfz20_2⟩ := box3 BK341))
   go_ret
   exact ⟨er2, belowg2 HB GE340 GE341⟩
 ·rw [if_neg c3] at H
  have c3b0 : (a0_0 == a1_0) = false := beq_eq_false_iff_ne.mpr c3
  have c3b1 : (a0_0 != a1_0) = true := bne_iff_ne.mpr c3
  obtain rfl := Option.some.inj H
  go_enter Try.func161, Try.ntmps161
  go_wp2_with (first | ((with_reducible refine gate_dst (N := 2) rfl ?_); refine boxev 2 #[.int .i64 a0_0, .int .i64 a0_1, .int .i64 a0_2] 110 ?_; intro gb340 hg w21 hbox hb; have BK340 := ak (hbox); have GW340 := ak (hgl hg (belowd HB)); have GE340 := ak (hgl hg (belowd HB)); replace HB := ak (below_step (belowd HB) hb); clear hb hbox hg) | ((with_reducible refine gate_dst (N := 3) rfl ?_); refine boxev 3 #[.int .i64 a1_0, .int .i64 a1_1, .int .i64 a1_2] 110 ?_; intro gb341 hg w22 hbox hb; have BK341 := ak (hbox); have GW341 := ak (hgl hg (belowg1 HB GE340)); have GE341 := ak (hgl hg (belowg1 HB GE340)); replace HB := ak (below_step (belowg1 HB GE340) hb); have NB340_341 := ak ((by rw [hg]; exact Nat.ne_of_lt (blk_lt (blkd BK340)) : gb340 ≠ gb341)); have NB341_340 := ak ((by rw [hg]; exact Nat.ne_of_gt (blk_lt (blkd BK340)) : gb341 ≠ gb340)); replace BK340 := ak (blk_below (blkd BK340) hb); clear hb hbox hg; have hnb23 := NB340_341.out; have hnc23 := NB341_340.out; obtain ⟨hcz24_0, hcz24_1, hcz24_2, hfz24_0, hfz24_1, hfz24_2⟩ := box3 BK340; obtain ⟨hcz25_0, hcz25_1, hcz25_2, hfz25_0, hfz25_1, hfz25_2⟩ := box3 BK341))
  go_ret
  exact ⟨er2, belowg2 HB GE340 GE341⟩

/-! ### laws_eqTallyS: function 72 -/
def laws_eqTallyS.l0 : Nat → List (S110) → List (S110) → Int → Option (Bool)
  | 0, _, _, _ => none
  | k + 1, x0, x1, x5 => if x5 < (x0.length : Int) then (if 0 ≤ x5 then (if x5 < (x1.length : Int) then ((laws_eqTally.f ((rd_T110 x0 x5).f0) ((rd_T110 x0 x5).f1) ((rd_T110 x0 x5).f2) ((rd_T110 x1 x5).f0) ((rd_T110 x1 x5).f1) ((rd_T110 x1 x5).f2)).bind fun t344 => (if t344 = true then (laws_eqTallyS.l0 k x0 x1 (wrap64 (x5 + 1))) else (some false))) else (none)) else (none)) else (some true)
def laws_eqTallyS.f (k : Nat) (l0 : List (S110)) (l1 : List (S110)) : Option (Bool) := if (l0.length : Int) = (l1.length : Int) then (laws_eqTallyS.l0 k l0 l1 0) else (some false)
theorem laws_eqTallyS.mono_l : ∀ k, (∀ y0 y1 y2, LeO (laws_eqTallyS.l0 k y0 y1 y2) (laws_eqTallyS.l0 (k + 1) y0 y1 y2))
 | 0 => fun _ _ _ r h => by simp [laws_eqTallyS.l0] at h
 | k + 1 => by
  have ih0 := laws_eqTallyS.mono_l k
  ·intro y0 y1 y2
   unfold laws_eqTallyS.l0
   repeat' (first | (with_reducible first | exact ih0 _ _ _ | exact LeO.refl _ | exact LeO.none _ | refine LeO.ite ?_ ?_ | refine LeO.bind ?_ (fun _ => ?_)) | exact ih0 _ _ _ | exact LeO.none _ | refine LeO.ite ?_ ?_ | refine LeO.bind ?_ (fun _ => ?_))
theorem laws_eqTallyS.mono : ∀ a0 a1 k, LeO (laws_eqTallyS.f k a0 a1) (laws_eqTallyS.f (k + 1) a0 a1) := by
 intro a0 a1 k
 have ih0 := laws_eqTallyS.mono_l k
 unfold laws_eqTallyS.f
 repeat' (first | (with_reducible first | exact ih0 _ _ _ | exact LeO.refl _ | exact LeO.none _ | refine LeO.ite ?_ ?_ | refine LeO.bind ?_ (fun _ => ?_)) | exact ih0 _ _ _ | exact LeO.none _ | refine LeO.ite ?_ ?_ | refine LeO.bind ?_ (fun _ => ?_))
def laws_eqTallyS.T6 : Bool × List (List Nat × List Nat) := (true, [([], []), ([], []), ([0, 1], [0, 1]), ([2], [2]), ([], []), ([], []), ([4, 5], [4, 5]), ([6], [6]), ([3, 7], [3, 7]), ([8], [8])])
def laws_eqTallyS.B6 : List Nat := [0, 0, 3, 7, 0, 0, 48, 112, 255, 511]
theorem laws_eqTallyS.tab6 : rtab .any (opsOf Try.f72 6) = laws_eqTallyS.T6 := by kernel_rfl
theorem laws_eqTallyS.bits6 : waitsOk laws_eqTallyS.T6.2 laws_eqTallyS.B6 = true := by kernel_rfl
set_option maxHeartbeats 8000000 in
set_option maxRecDepth 100000 in
theorem laws_eqTallyS.calls (k : Nat) (A0 : Option Addr) (c0 : Nat) (l0 : List (S110)) (A1 : Option Addr) (c1 : Nat) (l1 : List (S110)) (r : Bool) (w : World) (hr0 : Kd.C k110 w A0 l0.length l0) (hc0 : l0.length ≤ c0) (hr1 : Kd.C k110 w A1 l1.length l1) (hc1 : l1.length ≤ c1) (h : laws_eqTallyS.f k l0 l1 = some r) :
  Calls Try.prog 72 #[.slice A0 l0.length c0, .slice A1 l1.length c1] w fun e w' => e = .returned (.bool r) ∧ Below w.heap.size w w' := by
 have hu110 := Try.underlying110
 have HR0 := Aside0.mk hr0; have HC0 := Aside0.mk hc0; clear hr0 hc0; have HR1 := Aside0.mk hr1; have HC1 := Aside0.mk hc1; clear hr1 hc1
 have HB := Aside0.mk (Below.refl w.heap.size w)
 have H : (if (l0.length : Int) = (l1.length : Int) then (laws_eqTallyS.l0 k l0 l1 0) else (some false)) = some r := h
 clear h
 by_cases c3 : (l0.length : Int) = (l1.length : Int)
 ·rw [if_pos c3] at H
  have c3b0 : ((l0.length : Int) == (l1.length : Int)) = true := beq_iff_eq.mpr c3
  have c3b1 : ((l0.length : Int) != (l1.length : Int)) = false := bne_eq_false_iff_eq.mpr c3
  have c3b2 : (l0.length == l1.length) = true := by first | simpa using c3 | (simp at c3 ⊢; omega)
  clear c3
  have H' := Aside0.mk H
  clear H
  go_enter Try.func72, Try.ntmps72
  go_wp2
  go_loopg [5] k (fun kq v5 w' => ∃ (x5_1 : Int), v5 = .int .i64 x5_1 ∧ Aside0 (laws_eqTallyS.l0 kq l0 l1 x5_1 = some r) ∧ Aside0 (kq ≤ k) ∧ Aside0 (Below w.heap.size w w'))
  case atStart => exact ⟨(0), er, H', ⟨Nat.le_refl _⟩, ⟨belowd HB⟩⟩
  case round =>
   clear H'
   (try clear c1); (try clear c3b0); (try clear c3b1); (try clear c3b2)
   obtain ⟨x5_1, rfl, HA, HK1, HB⟩ := hrel
   cases gk with
   | zero => exact absurd HA.out (by simp [laws_eqTallyS.l0])
   | succ k1 =>
    have H := HA.out; clear HA
    simp only [laws_eqTallyS.l0] at H
    by_cases c4 : x5_1 < (l0.length : Int)
    ·rw [if_pos c4] at H
     have c4b0 : decide (x5_1 < (l0.length : Int)) = true := decide_eq_true c4
     clear c4; replace H := ifS H; obtain ⟨c5, H⟩ := H; have c5b0 := decide_eq_true c5; clear c5; replace H := ifS H; obtain ⟨c6, H⟩ := H; have c6b0 := decide_eq_true c6; clear c6; replace H := bS H; obtain ⟨t344, A7, H⟩ := H
     replace H : (if t344 = true then (laws_eqTallyS.l0 k1 l0 l1 (wrap64 (x5_1 + 1))) else (some false)) = some r := H
     by_cases c8 : t344 = true
     ·subst c8
      have H1 : (laws_eqTallyS.l0 k1 l0 l1 (wrap64 (x5_1 + 1))) = some r := by rw [if_pos rfl] at H; exact H
      clear H
      have H := H1
      clear H1
      have H' := Aside0.mk H
      clear H
      try go_wp2
      replace HB := ak (below_drew1 HB.out)
      have p342 : 0 ≤ (x5_1 : Int) := da
      have q342 : x5_1 < (l0.length : Int) := da
      obtain ⟨ad342, e342, hx342_0, hx342_1, hx342_2⟩ := at_T110 HR0.out x5_1 p342 q342
      have hw342_2 := hx342_2
      have hw342_1 := hx342_1
      have hw342_0 := hx342_0
      cases e342
      replace hx342_0 := (HB.out.cell (World.block_lt_of_cell? w _ hx342_0)).trans hx342_0
      replace hx342_1 := (HB.out.cell (World.block_lt_of_cell? w _ hx342_1)).trans hx342_1
      replace hx342_2 := (HB.out.cell (World.block_lt_of_cell? w _ hx342_2)).trans hx342_2
      replace p342 := eq_true p342; replace q342 := eq_true q342
      have p343 : 0 ≤ (x5_1 : Int) := da
      have q343 : x5_1 < (l1.length : Int) := da
      obtain ⟨ad343, e343, hx343_0, hx343_1, hx343_2⟩ := at_T110 HR1.out x5_1 p343 q343
      have hw343_2 := hx343_2
      have hw343_1 := hx343_1
      have hw343_0 := hx343_0
      cases e343
      replace hx343_0 := (HB.out.cell (World.block_lt_of_cell? w _ hx343_0)).trans hx343_0
      replace hx343_1 := (HB.out.cell (World.block_lt_of_cell? w _ hx343_1)).trans hx343_1
      replace hx343_2 := (HB.out.cell (World.block_lt_of_cell? w _ hx343_2)).trans hx343_2
      replace p343 := eq_true p343; replace q343 := eq_true q343
      refine start_ (n := 10) (S := fun w' => w'.cell? (ad342.add ((x5_1).toNat * 3)) = some (.int .i64 ((rd_T110 l0 x5_1).f0)) ∧ w'.cell? ⟨(ad342.add ((x5_1).toNat * 3)).block, (ad342.add ((x5_1).toNat * 3)).off + 1, none⟩ = some (.int .i64 ((rd_T110 l0 x5_1).f1)) ∧ w'.cell? ⟨(ad342.add ((x5_1).toNat * 3)).block, (ad342.add ((x5_1).toNat * 3)).off + 2, none⟩ = some (.int .i64 ((rd_T110 l0 x5_1).f2)) ∧ w'.cell? (ad343.add ((x5_1).toNat * 3)) = some (.int .i64 ((rd_T110 l1 x5_1).f0)) ∧ w'.cell? ⟨(ad343.add ((x5_1).toNat * 3)).block, (ad343.add ((x5_1).toNat * 3)).off + 1, none⟩ = some (.int .i64 ((rd_T110 l1 x5_1).f1)) ∧ w'.cell? ⟨(ad343.add ((x5_1).toNat * 3)).block, (ad343.add ((x5_1).toNat * 3)).off + 2, none⟩ = some (.int .i64 ((rd_T110 l1 x5_1).f2))) (ds := []) (bl 10 0) (by kernel_rfl) rfl rfl ⟨((HB.out.cell (World.block_lt_of_cell? w _ hw342_0)).trans hw342_0), ((HB.out.cell (World.block_lt_of_cell? w _ hw342_1)).trans hw342_1), ((HB.out.cell (World.block_lt_of_cell? w _ hw342_2)).trans hw342_2), ((HB.out.cell (World.block_lt_of_cell? w _ hw343_0)).trans hw343_0), ((HB.out.cell (World.block_lt_of_cell? w _ hw343_1)).trans hw343_1), ((HB.out.cell (World.block_lt_of_cell? w _ hw343_2)).trans hw343_2)⟩ (fun hHeld => ?_); refine with_tabW laws_eqTallyS.tab6 laws_eqTallyS.bits6 (fun HT_ HW_ => ?_)
      generalize wr.drew = w9 at HB hx342_0 hx342_1 hx342_2 hx343_0 hx343_1 hx343_2 hHeld ⊢
      refine pureA 0 (some 17) 10 1 HT_ ?_
      refine pureA 1 (some 18) 10 3 HT_ ?_
      refine pureA 2 (some 19) 10 7 HT_ ?_
      refine pureA 4 (some 21) 10 23 HT_ ?_
      refine pureA 5 (some 22) 10 55 HT_ ?_
      refine pureA 6 (some 23) 10 119 HT_ ?_
      refine takeA 3 (some 20) 10 127 HT_ HW_ hHeld ?_ (hy := by rintro w' ⟨s0, s1, s2, s3, s4, s5⟩; go_simp; with_reducible rfl)
      refine takeA 7 (some 24) 10 255 HT_ HW_ hHeld ?_ (hy := by rintro w' ⟨s0, s1, s2, s3, s4, s5⟩; go_simp; with_reducible rfl)
      refine oneA 8 (some 25) 10 511 HT_ (fun K hK => ?_)
      refine goes_ Try.func161 (by kernel_rfl) rfl #[.agg #[.int .i64 ((rd_T110 l0 x5_1).f0), .int .i64 ((rd_T110 l0 x5_1).f1), .int .i64 ((rd_T110 l0 x5_1).f2)], .agg #[.int .i64 ((rd_T110 l1 x5_1).f0), .int .i64 ((rd_T110 l1 x5_1).f1), .int .i64 ((rd_T110 l1 x5_1).f2)]] (by rfl) rfl rfl (by (try simp only [List.map_toArray, List.map_cons, List.map_nil]); first | done | rfl | (simp only [List.length_drop, List.length_take]; rfl)) ?_
      with_reducible refine (laws_eqTally.calls ((rd_T110 l0 x5_1).f0) ((rd_T110 l0 x5_1).f1) ((rd_T110 l0 x5_1).f2) ((rd_T110 l1 x5_1).f0) ((rd_T110 l1 x5_1).f1) ((rd_T110 l1 x5_1).f2) true _ A7.out).mono ?_
      rintro e w10 ⟨rfl, hb⟩
      refine ⟨_, rfl, ?_⟩
      replace HB := ak (below_step (belowd HB) hb)
      (try clear hb); (try clear hb2); (try clear hk); (try clear hi)
      refine hK.out _ _ ⟨((HB.out.cell (World.block_lt_of_cell? w _ hw342_0)).trans hw342_0), ((HB.out.cell (World.block_lt_of_cell? w _ hw342_1)).trans hw342_1), ((HB.out.cell (World.block_lt_of_cell? w _ hw342_2)).trans hw342_2), ((HB.out.cell (World.block_lt_of_cell? w _ hw343_0)).trans hw343_0), ((HB.out.cell (World.block_lt_of_cell? w _ hw343_1)).trans hw343_1), ((HB.out.cell (World.block_lt_of_cell? w _ hw343_2)).trans hw343_2)⟩ (fun hHeld => ?_)
      clear hK K
      refine norm_ (a' := ?_) ?_ ?_
      rotate_left
      ·show Act.put _ (some 25) _ = _
       simp only [Act.put, List.setIfInBounds_toArray, List.set_cons_zero, List.set_cons_succ, i64_w, i32_w]
       rfl
      refine pureA 9 (some 26) 10 1023 HT_ ?_
      refine done_ (done_of HT_.out (by kernel_rfl)) ?_
      try go_wp2
      go_roundg k1
      case measure => have := HK1.out; omega
      case rel => exact ⟨(wrap64 (x5_1 + 1)), er, H', ⟨by have := HK1.out; omega⟩, ⟨belowd HB⟩⟩
     ·replace c8 := Bool.eq_false_iff.mpr c8
      subst c8
      have H1 : (some false) = some r := by rw [if_neg (show ¬ (false = true) by decide)] at H; exact H
      clear H
      have H := H1
      clear H1
      obtain rfl := Option.some.inj H
      try go_wp2
      replace HB := ak (below_drew1 HB.out)
      have p342 : 0 ≤ (x5_1 : Int) := da
      have q342 : x5_1 < (l0.length : Int) := da
      obtain ⟨ad342, e342, hx342_0, hx342_1, hx342_2⟩ := at_T110 HR0.out x5_1 p342 q342
      have hw342_2 := hx342_2
      have hw342_1 := hx342_1
      have hw342_0 := hx342_0
      cases e342
      replace hx342_0 := (HB.out.cell (World.block_lt_of_cell? w _ hx342_0)).trans hx342_0
      replace hx342_1 := (HB.out.cell (World.block_lt_of_cell? w _ hx342_1)).trans hx342_1
      replace hx342_2 := (HB.out.cell (World.block_lt_of_cell? w _ hx342_2)).trans hx342_2
      replace p342 := eq_true p342; replace q342 := eq_true q342
      have p343 : 0 ≤ (x5_1 : Int) := da
      have q343 : x5_1 < (l1.length : Int) := da
      obtain ⟨ad343, e343, hx343_0, hx343_1, hx343_2⟩ := at_T110 HR1.out x5_1 p343 q343
      have hw343_2 := hx343_2
      have hw343_1 := hx343_1
      have hw343_0 := hx343_0
      cases e343
      replace hx343_0 := (HB.out.cell (World.block_lt_of_cell? w _ hx343_0)).trans hx343_0
      replace hx343_1 := (HB.out.cell (World.block_lt_of_cell? w _ hx343_1)).trans hx343_1
      replace hx343_2 := (HB.out.cell (World.block_lt_of_cell? w _ hx343_2)).trans hx343_2
      replace p343 := eq_true p343; replace q343 := eq_true q343
      refine start_ (n := 10) (S := fun w' => w'.cell? (ad342.add ((x5_1).toNat * 3)) = some (.int .i64 ((rd_T110 l0 x5_1).f0)) ∧ w'.cell? ⟨(ad342.add ((x5_1).toNat * 3)).block, (ad342.add ((x5_1).toNat * 3)).off + 1, none⟩ = some (.int .i64 ((rd_T110 l0 x5_1).f1)) ∧ w'.cell? ⟨(ad342.add ((x5_1).toNat * 3)).block, (ad342.add ((x5_1).toNat * 3)).off + 2, none⟩ = some (.int .i64 ((rd_T110 l0 x5_1).f2)) ∧ w'.cell? (ad343.add ((x5_1).toNat * 3)) = some (.int .i64 ((rd_T110 l1 x5_1).f0)) ∧ w'.cell? ⟨(ad343.add ((x5_1).toNat * 3)).block, (ad343.add ((x5_1).toNat * 3)).off + 1, none⟩ = some (.int .i64 ((rd_T110 l1 x5_1).f1)) ∧ w'.cell? ⟨(ad343.add ((x5_1).toNat * 3)).block, (ad343.add ((x5_1).toNat * 3)).off + 2, none⟩ = some (.int .i64 ((rd_T110 l1 x5_1).f2))) (ds := []) (bl 10 0) (by kernel_rfl) rfl rfl ⟨((HB.out.cell (World.block_lt_of_cell? w _ hw342_0)).trans hw342_0), ((HB.out.cell (World.block_lt_of_cell? w _ hw342_1)).trans hw342_1), ((HB.out.cell (World.block_lt_of_cell? w _ hw342_2)).trans hw342_2), ((HB.out.cell (World.block_lt_of_cell? w _ hw343_0)).trans hw343_0), ((HB.out.cell (World.block_lt_of_cell? w _ hw343_1)).trans hw343_1), ((HB.out.cell (World.block_lt_of_cell? w _ hw343_2)).trans hw343_2)⟩ (fun hHeld => ?_); refine with_tabW laws_eqTallyS.tab6 laws_eqTallyS.bits6 (fun HT_ HW_ => ?_)
      generalize wr.drew = w11 at HB hx342_0 hx342_1 hx342_2 hx343_0 hx343_1 hx343_2 hHeld ⊢
      refine pureA 0 (some 17) 10 1 HT_ ?_
      refine pureA 1 (some 18) 10 3 HT_ ?_
      refine pureA 2 (some 19) 10 7 HT_ ?_
      refine pureA 4 (some 21) 10 23 HT_ ?_
      refine pureA 5 (some 22) 10 55 HT_ ?_
      refine pureA 6 (some 23) 10 119 HT_ ?_
      refine takeA 3 (some 20) 10 127 HT_ HW_ hHeld ?_ (hy := by rintro w' ⟨s0, s1, s2, s3, s4, s5⟩; go_simp; with_reducible rfl)
      refine takeA 7 (some 24) 10 255 HT_ HW_ hHeld ?_ (hy := by rintro w' ⟨s0, s1, s2, s3, s4, s5⟩; go_simp; with_reducible rfl)
      refine oneA 8 (some 25) 10 511 HT_ (fun K hK => ?_)
      refine goes_ Try.func161 (by kernel_rfl) rfl #[.agg #[.int .i64 ((rd_T110 l0 x5_1).f0), .int .i64 ((rd_T110 l0 x5_1).f1), .int .i64 ((rd_T110 l0 x5_1).f2)], .agg #[.int .i64 ((rd_T110 l1 x5_1).f0), .int .i64 ((rd_T110 l1 x5_1).f1), .int .i64 ((rd_T110 l1 x5_1).f2)]] (by rfl) rfl rfl (by (try simp only [List.map_toArray, List.map_cons, List.map_nil]); first | done | rfl | (simp only [List.length_drop, List.length_take]; rfl)) ?_
      with_reducible refine (laws_eqTally.calls ((rd_T110 l0 x5_1).f0) ((rd_T110 l0 x5_1).f1) ((rd_T110 l0 x5_1).f2) ((rd_T110 l1 x5_1).f0) ((rd_T110 l1 x5_1).f1) ((rd_T110 l1 x5_1).f2) false _ A7.out).mono ?_
      rintro e w12 ⟨rfl, hb⟩
      refine ⟨_, rfl, ?_⟩
      replace HB := ak (below_step (belowd HB) hb)
      (try clear hb); (try clear hb2); (try clear hk); (try clear hi)
      refine hK.out _ _ ⟨((HB.out.cell (World.block_lt_of_cell? w _ hw342_0)).trans hw342_0), ((HB.out.cell (World.block_lt_of_cell? w _ hw342_1)).trans hw342_1), ((HB.out.cell (World.block_lt_of_cell? w _ hw342_2)).trans hw342_2), ((HB.out.cell (World.block_lt_of_cell? w _ hw343_0)).trans hw343_0), ((HB.out.cell (World.block_lt_of_cell? w _ hw343_1)).trans hw343_1), ((HB.out.cell (World.block_lt_of_cell? w _ hw343_2)).trans hw343_2)⟩ (fun hHeld => ?_)
      clear hK K
      refine norm_ (a' := ?_) ?_ ?_
      rotate_left
      ·show Act.put _ (some 25) _ = _
       simp only [Act.put, List.setIfInBounds_toArray, List.set_cons_zero, List.set_cons_succ, i64_w, i32_w]
       rfl
      refine pureA 9 (some 26) 10 1023 HT_ ?_
      refine done_ (done_of HT_.out (by kernel_rfl)) ?_
      try go_wp2
      go_ret
      exact ⟨er2, belowd HB⟩
    ·rw [if_neg c4] at H
     have c4b0 : decide (x5_1 < (l0.length : Int)) = false := decide_eq_false c4
     clear c4
     obtain rfl := Option.some.inj H
     go_wp2
     go_ret
     exact ⟨er2, belowd HB⟩
 ·rw [if_neg c3] at H
  have c3b0 : ((l0.length : Int) == (l1.length : Int)) = false := beq_eq_false_iff_ne.mpr c3
  have c3b1 : ((l0.length : Int) != (l1.length : Int)) = true := bne_iff_ne.mpr c3
  have c3b2 : (l0.length == l1.length) = false := by first | simpa using c3 | (simp at c3 ⊢; omega)
  obtain rfl := Option.some.inj H
  go_enter Try.func72, Try.ntmps72
  go_wp2
  go_ret
  exact ⟨er2, belowd HB⟩

end Go.Proofs.Ytkgogglnipdcfaa.QFnExactTallyOf
