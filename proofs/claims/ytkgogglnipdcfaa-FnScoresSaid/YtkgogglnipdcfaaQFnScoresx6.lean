-- printed by this session's own program (wip/tools/pp.py: the kit's print.py with changes); Lean checks it
import Derived.Test.YtkgogglnipdcfaaQFnScoresx0
import Derived.Test.YtkgogglnipdcfaaQFnScoresx2
import Derived.Test.YtkgogglnipdcfaaQFnScoresx5
namespace Go.Proofs.Ytkgogglnipdcfaa.QFnScores
open Go.RowKit Go.Proofs.YtkgogglnipdcfaaW.PrintWords Go.Proofs.YtkgogglnipdcfaaW.PrintLast Go.Proofs.YtkgogglnipdcfaaW.PrintMore
attribute [local go_sem] max2_int min2_int max_two min_two max_three min_three max_four min_four strLss strGtr strLeq strGeq   -- for this text's walks alone
set_option linter.unusedVariables false
set_option linter.unusedSimpArgs false

attribute [local go_sem high] eqA91
/-! ### cmp_Compare_int: function 232 -/
def cmp_Compare_int.f (a0 : Int) (a1 : Int) : Option (Int) := (cmp_isNaN_int.f a0).bind fun t196 => ((cmp_isNaN_int.f a1).bind fun t197 => (if t196 = true then (if t197 = true then (some 0) else (some (-1))) else (if t197 = true then (some 1) else (if a0 < a1 then (some (-1)) else (if a0 > a1 then (some 1) else (some 0))))))
set_option maxHeartbeats 8000000 in
set_option maxRecDepth 100000 in
theorem cmp_Compare_int.calls (a0 : Int) (a1 : Int) (r : Int) (w : World) (h : cmp_Compare_int.f a0 a1 = some r) :
  Calls Try.prog 232 #[.int .i64 a0, .int .i64 a1] w fun e w' => e = .returned (.int .i64 r) ∧ Drawn0 w w' := by
 have H : ((cmp_isNaN_int.f a0).bind fun t196 => ((cmp_isNaN_int.f a1).bind fun t197 => (if t196 = true then (if t197 = true then (some 0) else (some (-1))) else (if t197 = true then (some 1) else (if a0 < a1 then (some (-1)) else (if a0 > a1 then (some 1) else (some 0))))))) = some r := h
 clear h; replace H := bS H; obtain ⟨t196, A3, H⟩ := H
 replace H : ((cmp_isNaN_int.f a1).bind fun t197 => (if t196 = true then (if t197 = true then (some 0) else (some (-1))) else (if t197 = true then (some 1) else (if a0 < a1 then (some (-1)) else (if a0 > a1 then (some 1) else (some 0)))))) = some r := H
 replace H := bS H; obtain ⟨t197, A4, H⟩ := H
 replace H : (if t196 = true then (if t197 = true then (some 0) else (some (-1))) else (if t197 = true then (some 1) else (if a0 < a1 then (some (-1)) else (if a0 > a1 then (some 1) else (some 0))))) = some r := H
 by_cases c5 : t196 = true
 ·subst c5
  have H1 : (if t197 = true then (some 0) else (some (-1))) = some r := by rw [if_pos rfl] at H; exact H
  clear H
  have H := H1
  clear H1
  by_cases c6 : t197 = true
  ·subst c6
   have H1 : (some 0) = some r := by rw [if_pos rfl] at H; exact H
   clear H
   have H := H1
   clear H1
   obtain rfl := Option.some.inj H
   go_enter Try.func232, Try.ntmps232
   go_wp2_with (first | ((with_reducible refine gate_callee (f := 237) rfl ?_); refine goesLa (some 8) rfl Try.func237 #[.int .i64 a0] rfl ?_; (with_reducible refine (cmp_isNaN_int.calls a0 true _ A3.out).mono ?_); rintro e w' ⟨rfl, ⟨nd, rfl⟩⟩; refine ⟨_, rfl, ?_⟩) | ((with_reducible refine gate_callee (f := 237) rfl ?_); refine goesLa (some 10) rfl Try.func237 #[.int .i64 a1] rfl ?_; (with_reducible refine (cmp_isNaN_int.calls a1 true _ A4.out).mono ?_); rintro e w' ⟨rfl, ⟨nd, rfl⟩⟩; refine ⟨_, rfl, ?_⟩))
   go_ret
   exact ⟨er, drw⟩
  ·replace c6 := Bool.eq_false_iff.mpr c6
   subst c6
   have H1 : (some (-1)) = some r := by rw [if_neg (show ¬ (false = true) by decide)] at H; exact H
   clear H
   have H := H1
   clear H1
   obtain rfl := Option.some.inj H
   go_enter Try.func232, Try.ntmps232
   go_wp2_with (first | ((with_reducible refine gate_callee (f := 237) rfl ?_); refine goesLa (some 8) rfl Try.func237 #[.int .i64 a0] rfl ?_; (with_reducible refine (cmp_isNaN_int.calls a0 true _ A3.out).mono ?_); rintro e w' ⟨rfl, ⟨nd, rfl⟩⟩; refine ⟨_, rfl, ?_⟩) | ((with_reducible refine gate_callee (f := 237) rfl ?_); refine goesLa (some 10) rfl Try.func237 #[.int .i64 a1] rfl ?_; (with_reducible refine (cmp_isNaN_int.calls a1 false _ A4.out).mono ?_); rintro e w' ⟨rfl, ⟨nd, rfl⟩⟩; refine ⟨_, rfl, ?_⟩))
   go_ret
   exact ⟨er, drw⟩
 ·replace c5 := Bool.eq_false_iff.mpr c5
  subst c5
  have H1 : (if t197 = true then (some 1) else (if a0 < a1 then (some (-1)) else (if a0 > a1 then (some 1) else (some 0)))) = some r := by rw [if_neg (show ¬ (false = true) by decide)] at H; exact H
  clear H
  have H := H1
  clear H1
  by_cases c7 : t197 = true
  ·subst c7
   have H1 : (some 1) = some r := by rw [if_pos rfl] at H; exact H
   clear H
   have H := H1
   clear H1
   obtain rfl := Option.some.inj H
   go_enter Try.func232, Try.ntmps232
   go_wp2_with (first | ((with_reducible refine gate_callee (f := 237) rfl ?_); refine goesLa (some 8) rfl Try.func237 #[.int .i64 a0] rfl ?_; (with_reducible refine (cmp_isNaN_int.calls a0 false _ A3.out).mono ?_); rintro e w' ⟨rfl, ⟨nd, rfl⟩⟩; refine ⟨_, rfl, ?_⟩) | ((with_reducible refine gate_callee (f := 237) rfl ?_); refine goesLa (some 10) rfl Try.func237 #[.int .i64 a1] rfl ?_; (with_reducible refine (cmp_isNaN_int.calls a1 true _ A4.out).mono ?_); rintro e w' ⟨rfl, ⟨nd, rfl⟩⟩; refine ⟨_, rfl, ?_⟩))
   go_ret
   exact ⟨er, drw⟩
  ·replace c7 := Bool.eq_false_iff.mpr c7
   subst c7
   have H1 : (if a0 < a1 then (some (-1)) else (if a0 > a1 then (some 1) else (some 0))) = some r := by rw [if_neg (show ¬ (false = true) by decide)] at H; exact H
   clear H
   have H := H1
   clear H1
   by_cases c8 : a0 < a1
   ·rw [if_pos c8] at H
    have c8b0 : decide (a0 < a1) = true := decide_eq_true c8
    clear c8
    obtain rfl := Option.some.inj H
    go_enter Try.func232, Try.ntmps232
    go_wp2_with (first | ((with_reducible refine gate_callee (f := 237) rfl ?_); refine goesLa (some 8) rfl Try.func237 #[.int .i64 a0] rfl ?_; (with_reducible refine (cmp_isNaN_int.calls a0 false _ A3.out).mono ?_); rintro e w' ⟨rfl, ⟨nd, rfl⟩⟩; refine ⟨_, rfl, ?_⟩) | ((with_reducible refine gate_callee (f := 237) rfl ?_); refine goesLa (some 10) rfl Try.func237 #[.int .i64 a1] rfl ?_; (with_reducible refine (cmp_isNaN_int.calls a1 false _ A4.out).mono ?_); rintro e w' ⟨rfl, ⟨nd, rfl⟩⟩; refine ⟨_, rfl, ?_⟩))
    go_ret
    exact ⟨er, drw⟩
   ·rw [if_neg c8] at H
    have c8b0 : decide (a0 < a1) = false := decide_eq_false c8
    clear c8
    by_cases c9 : a0 > a1
    ·rw [if_pos c9] at H
     have c9b0 : decide (a1 < a0) = true := decide_eq_true c9
     clear c9
     obtain rfl := Option.some.inj H
     go_enter Try.func232, Try.ntmps232
     go_wp2_with (first | ((with_reducible refine gate_callee (f := 237) rfl ?_); refine goesLa (some 8) rfl Try.func237 #[.int .i64 a0] rfl ?_; (with_reducible refine (cmp_isNaN_int.calls a0 false _ A3.out).mono ?_); rintro e w' ⟨rfl, ⟨nd, rfl⟩⟩; refine ⟨_, rfl, ?_⟩) | ((with_reducible refine gate_callee (f := 237) rfl ?_); refine goesLa (some 10) rfl Try.func237 #[.int .i64 a1] rfl ?_; (with_reducible refine (cmp_isNaN_int.calls a1 false _ A4.out).mono ?_); rintro e w' ⟨rfl, ⟨nd, rfl⟩⟩; refine ⟨_, rfl, ?_⟩))
     go_ret
     exact ⟨er, drw⟩
    ·rw [if_neg c9] at H
     have c9b0 : decide (a1 < a0) = false := decide_eq_false c9
     clear c9
     obtain rfl := Option.some.inj H
     go_enter Try.func232, Try.ntmps232
     go_wp2_with (first | ((with_reducible refine gate_callee (f := 237) rfl ?_); refine goesLa (some 8) rfl Try.func237 #[.int .i64 a0] rfl ?_; (with_reducible refine (cmp_isNaN_int.calls a0 false _ A3.out).mono ?_); rintro e w' ⟨rfl, ⟨nd, rfl⟩⟩; refine ⟨_, rfl, ?_⟩) | ((with_reducible refine gate_callee (f := 237) rfl ?_); refine goesLa (some 10) rfl Try.func237 #[.int .i64 a1] rfl ?_; (with_reducible refine (cmp_isNaN_int.calls a1 false _ A4.out).mono ?_); rintro e w' ⟨rfl, ⟨nd, rfl⟩⟩; refine ⟨_, rfl, ?_⟩))
     go_ret
     exact ⟨er, drw⟩

/-! ### impl_compareClaims: function 202 -/
def impl_compareClaims.f (k : Nat) (a0_0 : Int) (a0_1 : Int) (a0_2 : Int) (a1_0 : Int) (a1_1 : Int) (a1_2 : Int) : Option (Int) := (cmp_Compare_int.f a0_0 a1_0).bind fun t200 => ((cmp_Compare_int.f a0_1 a1_1).bind fun t201 => ((cmp_Compare_int.f a0_2 a1_2).bind fun t202 => ((cmp_Or_int.f k (([t200, t201, t202] : List Int))).bind fun t206 => (some t206))))
theorem impl_compareClaims.mono : ∀ a0 a1 a2 a3 a4 a5 k, LeO (impl_compareClaims.f k a0 a1 a2 a3 a4 a5) (impl_compareClaims.f (k + 1) a0 a1 a2 a3 a4 a5) := by
 intro a0 a1 a2 a3 a4 a5 k
 unfold impl_compareClaims.f
 repeat' (first | (with_reducible first | exact cmp_Or_int.mono _ _ | exact LeO.refl _ | exact LeO.none _ | refine LeO.ite ?_ ?_ | refine LeO.bind ?_ (fun _ => ?_)) | exact cmp_Or_int.mono _ _ | exact LeO.none _ | refine LeO.ite ?_ ?_ | refine LeO.bind ?_ (fun _ => ?_))
def impl_compareClaims.T1 : Bool × List (List Nat × List Nat) := (true, [([], []), ([0], [0]), ([], []), ([2], [2]), ([1, 3], [1, 3]), ([], []), ([5], [5]), ([], []), ([7], [7]), ([6, 8, 4], [6, 8]), ([], []), ([10], [10]), ([], []), ([12], [12]), ([11, 13, 9], [11, 13]), ([4, 9, 14], [4, 9, 14]), ([15, 14], [15]), ([16, 16, 0, 1, 2, 3, 4, 5, 6, 7, 8, 9, 10, 11, 12, 13, 14, 15, 16], [16])])
def impl_compareClaims.B1 : List Nat := [0, 1, 0, 4, 15, 0, 32, 0, 128, 511, 0, 1024, 0, 4096, 16383, 32767, 65535, 131071]
theorem impl_compareClaims.tab1 : rtab .any (opsOf Try.f202 1) = impl_compareClaims.T1 := by kernel_rfl
theorem impl_compareClaims.bits1 : waitsOk impl_compareClaims.T1.2 impl_compareClaims.B1 = true := by kernel_rfl
set_option maxHeartbeats 8000000 in
set_option maxRecDepth 100000 in
theorem impl_compareClaims.calls (k : Nat) (a0_0 : Int) (a0_1 : Int) (a0_2 : Int) (a1_0 : Int) (a1_1 : Int) (a1_2 : Int) (r : Int) (w : World) (h : impl_compareClaims.f k a0_0 a0_1 a0_2 a1_0 a1_1 a1_2 = some r) :
  Calls Try.prog 202 #[.agg #[.int .i64 a0_0, .int .i64 a0_1, .int .i64 a0_2], .agg #[.int .i64 a1_0, .int .i64 a1_1, .int .i64 a1_2]] w fun e w' => e = .returned (.int .i64 r) ∧ Below w.heap.size w w' := by
 have hu85 := Try.underlying85
 have HB := Aside0.mk (Below.refl w.heap.size w)
 have H : ((cmp_Compare_int.f a0_0 a1_0).bind fun t200 => ((cmp_Compare_int.f a0_1 a1_1).bind fun t201 => ((cmp_Compare_int.f a0_2 a1_2).bind fun t202 => ((cmp_Or_int.f k (([t200, t201, t202] : List Int))).bind fun t206 => (some t206))))) = some r := h
 clear h; replace H := bS H; obtain ⟨t200, A3, H⟩ := H
 replace H : ((cmp_Compare_int.f a0_1 a1_1).bind fun t201 => ((cmp_Compare_int.f a0_2 a1_2).bind fun t202 => ((cmp_Or_int.f k (([t200, t201, t202] : List Int))).bind fun t206 => (some t206)))) = some r := H
 replace H := bS H; obtain ⟨t201, A4, H⟩ := H
 replace H : ((cmp_Compare_int.f a0_2 a1_2).bind fun t202 => ((cmp_Or_int.f k (([t200, t201, t202] : List Int))).bind fun t206 => (some t206))) = some r := H
 replace H := bS H; obtain ⟨t202, A5, H⟩ := H
 replace H : ((cmp_Or_int.f k (([t200, t201, t202] : List Int))).bind fun t206 => (some t206)) = some r := H
 obtain ⟨y203, hy_⟩ : ∃ y_ : List Int, y_ = (([t200, t201, t202] : List Int)) := ⟨_, rfl⟩
 replace H : ((cmp_Or_int.f k y203).bind fun t206 => (some t206)) = some r := yH
 have Ny203 := ak hy_; clear hy_; replace H := bS H; obtain ⟨t206, A6, H⟩ := H
 replace H : (some t206) = some r := H
 obtain rfl := Option.some.inj H
 go_enter Try.func202, Try.ntmps202
 try go_wp2_with (first | ((with_reducible refine gate_dst (N := 2) rfl ?_); refine boxev 2 #[.int .i64 a0_0, .int .i64 a0_1, .int .i64 a0_2] 85 ?_; intro gb198 hg w7 hbox hb; have BK198 := ak (hbox); have GW198 := ak (hgl hg (belowd HB)); have GE198 := ak (hgl hg (belowd HB)); replace HB := ak (below_step (belowd HB) hb); clear hb hbox hg) | ((with_reducible refine gate_dst (N := 3) rfl ?_); refine boxev 3 #[.int .i64 a1_0, .int .i64 a1_1, .int .i64 a1_2] 85 ?_; intro gb199 hg w8 hbox hb; have BK199 := ak (hbox); have GW199 := ak (hgl hg (belowg1 HB GE198)); have GE199 := ak (hgl hg (belowg1 HB GE198)); replace HB := ak (below_step (belowg1 HB GE198) hb); have NB198_199 := ak ((by rw [hg]; exact Nat.ne_of_lt (blk_lt (blkd BK198)) : gb198 ≠ gb199)); have NB199_198 := ak ((by rw [hg]; exact Nat.ne_of_gt (blk_lt (blkd BK198)) : gb199 ≠ gb198)); replace BK198 := ak (blk_below (blkd BK198) hb); clear hb hbox hg))
 replace BK198 := ak (blk_drew BK198.out)
 replace BK199 := ak (blk_drew BK199.out)
 replace HB := ak (below_drew1 HB.out)
 refine start_ (n := 18) (S := fun w' => w'.cell? ⟨gb198, 0, none⟩ = some (.int .i64 a0_0) ∧ w'.cell? ⟨gb198, 1, none⟩ = some (.int .i64 a0_1) ∧ w'.cell? ⟨gb198, 2, none⟩ = some (.int .i64 a0_2) ∧ w'.cell? ⟨gb199, 0, none⟩ = some (.int .i64 a1_0) ∧ w'.cell? ⟨gb199, 1, none⟩ = some (.int .i64 a1_1) ∧ w'.cell? ⟨gb199, 2, none⟩ = some (.int .i64 a1_2)) (ds := []) (bl 18 0) (by kernel_rfl) rfl rfl ⟨bq BK198 0, bq BK198 1, bq BK198 2, bq BK199 0, bq BK199 1, bq BK199 2⟩ (fun hHeld => ?_); refine with_tabW impl_compareClaims.tab1 impl_compareClaims.bits1 (fun HT_ HW_ => ?_)
 generalize w8.drew = w9 at BK198 BK199 HB hHeld ⊢
 refine pureA 0 (some 5) 18 1 HT_ ?_
 refine pureA 2 (some 7) 18 5 HT_ ?_
 refine pureA 5 (some 10) 18 37 HT_ ?_
 refine pureA 7 (some 12) 18 165 HT_ ?_
 refine pureA 10 (some 15) 18 1189 HT_ ?_
 refine pureA 12 (some 17) 18 5285 HT_ ?_
 refine takeA 1 (some 6) 18 5287 HT_ HW_ hHeld ?_ (hy := by rintro w' ⟨s0, s1, s2, s3, s4, s5⟩; go_simp; with_reducible rfl)
 refine takeA 3 (some 8) 18 5295 HT_ HW_ hHeld ?_ (hy := by rintro w' ⟨s0, s1, s2, s3, s4, s5⟩; go_simp; with_reducible rfl)
 refine takeA 6 (some 11) 18 5359 HT_ HW_ hHeld ?_ (hy := by rintro w' ⟨s0, s1, s2, s3, s4, s5⟩; go_simp; with_reducible rfl)
 refine takeA 8 (some 13) 18 5615 HT_ HW_ hHeld ?_ (hy := by rintro w' ⟨s0, s1, s2, s3, s4, s5⟩; go_simp; with_reducible rfl)
 refine takeA 11 (some 16) 18 7663 HT_ HW_ hHeld ?_ (hy := by rintro w' ⟨s0, s1, s2, s3, s4, s5⟩; go_simp; with_reducible rfl)
 refine takeA 13 (some 18) 18 15855 HT_ HW_ hHeld ?_ (hy := by rintro w' ⟨s0, s1, s2, s3, s4, s5⟩; go_simp; with_reducible rfl)
 refine oneA 4 (some 9) 18 15871 HT_ (fun K hK => ?_)
 refine goes_ Try.func232 (by kernel_rfl) rfl #[.int .i64 a0_0, .int .i64 a1_0] (by rfl) rfl rfl (by (try simp only [List.map_toArray, List.map_cons, List.map_nil]); first | done | rfl | (simp only [List.length_drop, List.length_take]; rfl)) ?_
 with_reducible refine (cmp_Compare_int.calls a0_0 a1_0 t200 _ A3.out).mono ?_
 rintro e w' ⟨rfl, ⟨nd, rfl⟩⟩
 refine ⟨_, rfl, ?_⟩
 refine hK.out _ _ ⟨bq BK198 0, bq BK198 1, bq BK198 2, bq BK199 0, bq BK199 1, bq BK199 2⟩ (fun hHeld => ?_)
 clear hK K
 refine norm_ (a' := ?_) ?_ ?_
 rotate_left
 ·show Act.put _ (some 9) _ = _
  simp only [Act.put, List.setIfInBounds_toArray, List.set_cons_zero, List.set_cons_succ, i64_w, i32_w]
  rfl
 refine oneA 9 (some 14) 18 16383 HT_ (fun K hK => ?_)
 refine goes_ Try.func232 (by kernel_rfl) rfl #[.int .i64 a0_1, .int .i64 a1_1] (by rfl) rfl rfl (by (try simp only [List.map_toArray, List.map_cons, List.map_nil]); first | done | rfl | (simp only [List.length_drop, List.length_take]; rfl)) ?_
 with_reducible refine (cmp_Compare_int.calls a0_1 a1_1 t201 _ A4.out).mono ?_
 rintro e w' ⟨rfl, ⟨nd, rfl⟩⟩
 refine ⟨_, rfl, ?_⟩
 refine hK.out _ _ ⟨bq BK198 0, bq BK198 1, bq BK198 2, bq BK199 0, bq BK199 1, bq BK199 2⟩ (fun hHeld => ?_)
 clear hK K
 refine norm_ (a' := ?_) ?_ ?_
 rotate_left
 ·show Act.put _ (some 14) _ = _
  simp only [Act.put, List.setIfInBounds_toArray, List.set_cons_zero, List.set_cons_succ, i64_w, i32_w]
  rfl
 refine oneA 14 (some 19) 18 32767 HT_ (fun K hK => ?_)
 refine goes_ Try.func232 (by kernel_rfl) rfl #[.int .i64 a0_2, .int .i64 a1_2] (by rfl) rfl rfl (by (try simp only [List.map_toArray, List.map_cons, List.map_nil]); first | done | rfl | (simp only [List.length_drop, List.length_take]; rfl)) ?_
 with_reducible refine (cmp_Compare_int.calls a0_2 a1_2 t202 _ A5.out).mono ?_
 rintro e w' ⟨rfl, ⟨nd, rfl⟩⟩
 refine ⟨_, rfl, ?_⟩
 refine hK.out _ _ ⟨bq BK198 0, bq BK198 1, bq BK198 2, bq BK199 0, bq BK199 1, bq BK199 2⟩ (fun hHeld => ?_)
 clear hK K
 refine norm_ (a' := ?_) ?_ ?_
 rotate_left
 ·show Act.put _ (some 19) _ = _
  simp only [Act.put, List.setIfInBounds_toArray, List.set_cons_zero, List.set_cons_succ, i64_w, i32_w]
  rfl
 refine oneA 15 (some 20) 18 65535 HT_ (fun K hK => ?_)
 refine Kd.R_lit_step (Kd.int .i64) _ 3 ?hg (N := 20) ?hd (xs := ([t200, t201, t202] : List Int)) (inner := [.int .i64 t200, .int .i64 t201, .int .i64 t202]) (ok := fun _ => True) (okp := fun _ => True) ?hr ?hp (fun _ hk => hk) trivial (Below.refl _ _) (Nat.le_refl _) (by simp) ?_; (case hd => rfl); (case hg => rfl); (case hr => first | (go_simp; done) | (go_simp; rfl)); (case hp => exact (Reps.one (show Kd.M (Kd.int .i64) _ _ _ t200 [.int .i64 t200] from rfl) (Reps.one (show Kd.M (Kd.int .i64) _ _ _ t201 [.int .i64 t201] from rfl) (Reps.one (show Kd.M (Kd.int .i64) _ _ _ t202 [.int .i64 t202] from rfl) (Reps.none _ _)))))
 intro v204 w10 ho11 hb hg_ hnew_
 clear hg_ hnew_
 (first | rw [← Ny203.out] at ho11 | (simp only [Int.reduceToNat] at ho11; rw [← Ny203.out] at ho11))
 have HO205 := ak (Kd.R_lower ho11 (below_size (belowg2 HB GE198 GE199)))
 replace BK198 := ak (blk_below (blkd BK198) hb)
 replace BK199 := ak (blk_below (blkd BK199) hb)
 replace HB := ak (below_step (belowg2 HB GE198 GE199) hb)
 clear hb ho11
 obtain ⟨Ao12, co12, eo12⟩ := Kd.R_slice HO205.out
 (first | subst eo12 | (injection eo12 with f1_ f2_ f3_; have f4_ := f1_.symm; have f5_ := f3_.symm; clear f1_ f2_ f3_; subst f4_; subst f5_))
 refine hK.out _ _ ⟨bq BK198 0, bq BK198 1, bq BK198 2, bq BK199 0, bq BK199 1, bq BK199 2⟩ (fun hHeld => ?_)
 clear hK K
 refine norm_ (a' := ?_) ?_ ?_
 rotate_left
 ·show Act.put _ (some 20) _ = _
  simp only [Act.put, List.setIfInBounds_toArray, List.set_cons_zero, List.set_cons_succ, i64_w, i32_w]
  rfl
 refine oneA 16 (some 21) 18 131071 HT_ (fun K hK => ?_)
 refine goes_ Try.func231 (by kernel_rfl) rfl #[.slice Ao12 y203.length co12] (by rfl) rfl rfl (by (try simp only [List.map_toArray, List.map_cons, List.map_nil]); first | done | rfl | (simp only [List.length_drop, List.length_take]; rfl)) ?_
 with_reducible refine (cmp_Or_int.calls k _ _ y203 t206 _ ?side1 ?side2 A6.out).mono ?_
 (case side1 => exact cd (Kd.R_reads' HO205.out).2.2)
 (case side2 => exact (Kd.R_reads' HO205.out).2.1)
 rintro e w' ⟨rfl, ⟨nd, rfl⟩⟩
 refine ⟨_, rfl, ?_⟩
 refine hK.out _ _ ⟨bq BK198 0, bq BK198 1, bq BK198 2, bq BK199 0, bq BK199 1, bq BK199 2⟩ (fun hHeld => ?_)
 clear hK K
 refine norm_ (a' := ?_) ?_ ?_
 rotate_left
 ·show Act.put _ (some 21) _ = _
  simp only [Act.put, List.setIfInBounds_toArray, List.set_cons_zero, List.set_cons_succ, i64_w, i32_w]
  rfl
 refine pureA 17 (some 4) 18 262143 HT_ ?_
 refine done_ (done_of HT_.out (by kernel_rfl)) ?_
 try go_wp2
 go_ret
 exact ⟨er2, belowg2 HB GE198 GE199⟩

/-! the comparing function, told plainly; how far it draws -/
instance : Inhabited S85 := ⟨z85⟩
instance : DecidableEq S85 := fun x y => decidable_of_iff (x.f0 = y.f0 ∧ x.f1 = y.f1 ∧ x.f2 = y.f2) (by cases x; cases y; simp)
def impl_compareClaims.cf (x y : S85) : Int := if x.f0 < y.f0 then -1 else if y.f0 < x.f0 then 1 else if x.f1 < y.f1 then -1 else if y.f1 < x.f1 then 1 else if x.f2 < y.f2 then -1 else if y.f2 < x.f2 then 1 else 0
def impl_compareClaims.enc (x : S85) : List Value := [.int .i64 x.f0, .int .i64 x.f1, .int .i64 x.f2]
theorem impl_compareClaims.flat : Flat k85 impl_compareClaims.enc := by
 refine ⟨fun w base ok x cs => ⟨?_, ?_⟩, fun x => rfl, fun x v hv => ?_⟩
 ·rintro ⟨c0, c1, rfl, rfl, c2, c3, rfl, rfl, rfl⟩
  rfl
 ·rintro rfl
  exact ⟨[_], [_, _], rfl, rfl, [_], [_], rfl, rfl, rfl⟩
 ·simp only [impl_compareClaims.enc, List.mem_cons, List.not_mem_nil, or_false] at hv
  rcases hv with rfl | rfl | rfl <;> rfl
theorem impl_compareClaims.ltcf (x y : S85) : Go.Proofs.ltOf impl_compareClaims.cf x y = decide (x.f0 < y.f0 ∨ x.f0 = y.f0 ∧ (x.f1 < y.f1 ∨ x.f1 = y.f1 ∧ x.f2 < y.f2)) := by
 unfold Go.Proofs.ltOf
 rw [decide_eq_decide]
 unfold impl_compareClaims.cf
 split <;> (try split) <;> (try split) <;> (try split) <;> (try split) <;> (try split) <;> omega
theorem impl_compareClaims.swo : Go.Sort.SWO (Go.Proofs.ltOf impl_compareClaims.cf) := by
 refine ⟨fun x => ?_, fun x y z h1 h2 => ?_, fun x y z h1 h2 => ?_⟩ <;> simp only [impl_compareClaims.ltcf, decide_eq_true_eq, decide_eq_false_iff_not] at * <;> omega
theorem impl_compareClaims.total : ∀ x y, Go.Proofs.ltOf impl_compareClaims.cf x y = false → Go.Proofs.ltOf impl_compareClaims.cf y x = false → x = y := by
 intro x y h1 h2
 simp only [impl_compareClaims.ltcf, decide_eq_false_iff_not] at h1 h2
 cases x
 cases y
 simp only [S85.mk.injEq]
 dsimp only at h1 h2
 omega
theorem impl_compareClaims.gds : ∀ (op : BinOp) (a b : Operand) (x y : S85) (w : World), Sem.run Try.prog (eqGuard op 85 a b (.agg (impl_compareClaims.enc x).toArray) (.agg (impl_compareClaims.enc y).toArray)) w = .ok () w := fun op a b x y w => run_eqGuard_agg w op 85 a b _ _ (by kernel_rfl)
theorem impl_compareClaims.eqs : ∀ (x y : S85) (w : World), Sem.run Try.prog (binOp .eql 85 (.agg (impl_compareClaims.enc x).toArray) (.agg (impl_compareClaims.enc y).toArray)) w = .ok (.bool (decide (x = y))) w := by
 intro x y w
 have hu := Try.underlying85
 have hu3 := Try.underlying3
 unfold impl_compareClaims.enc
 go_simp
 cases x
 cases y
 simp only [S85.mk.injEq]
 repeat' split
 all_goals simp_all
theorem impl_compareClaims.nes : ∀ (x y : S85) (w : World), Sem.run Try.prog (binOp .neq 85 (.agg (impl_compareClaims.enc x).toArray) (.agg (impl_compareClaims.enc y).toArray)) w = .ok (.bool (!decide (x = y))) w := by
 intro x y w
 have hu := Try.underlying85
 have hu3 := Try.underlying3
 unfold impl_compareClaims.enc
 go_simp
 cases x
 cases y
 simp only [S85.mk.injEq]
 repeat' split
 all_goals simp_all
theorem impl_compareClaims.tells (x y : S85) : impl_compareClaims.f 5 x.f0 x.f1 x.f2 y.f0 y.f1 y.f2 = some (impl_compareClaims.cf x y) := by
 have e1 : ∀ a b : Int, cmp_Compare_int.f a b = some (if a < b then -1 else if b < a then 1 else 0) := by
  intro a b
  unfold cmp_Compare_int.f cmp_isNaN_int.f
  simp only [Option.bind_some, bne_self_eq_false, Bool.false_eq_true, if_false]
  split
  ·rfl
  ·split <;> rfl
 have e2 : ∀ a b c : Int, cmp_Or_int.f 5 [a, b, c] = some (if a = 0 then if b = 0 then c else b else a) := by
  intro a b c
  by_cases h1 : a = 0 <;> by_cases h2 : b = 0 <;> by_cases h3 : c = 0 <;> simp [cmp_Or_int.f, cmp_Or_int.l0, rd, wrap64, h1, h2, h3]
 unfold impl_compareClaims.f
 simp only [e1, e2, Option.bind_some]
 unfold impl_compareClaims.cf
 congr 1
 repeat' split
 all_goals first | rfl | omega
set_option maxHeartbeats 8000000 in
set_option maxRecDepth 100000 in
theorem impl_compareClaims.laid (k : Nat) (a0_0 : Int) (a0_1 : Int) (a0_2 : Int) (a1_0 : Int) (a1_1 : Int) (a1_2 : Int) (r : Int) (w : World) (h : impl_compareClaims.f k a0_0 a0_1 a0_2 a1_0 a1_1 a1_2 = some r) :
  Calls Try.prog 202 #[.agg #[.int .i64 a0_0, .int .i64 a0_1, .int .i64 a0_2], .agg #[.int .i64 a1_0, .int .i64 a1_1, .int .i64 a1_2]] w fun e w' => e = .returned (.int .i64 r) ∧ ∃ q os, w' = Sort.grow (w.drewN q) os := by
 have HD := Aside0.mk (Nat.le_refl w.drawn)
 have hu85 := Try.underlying85
 have HB := Aside0.mk (Below.refl w.heap.size w)
 have H : ((cmp_Compare_int.f a0_0 a1_0).bind fun t200 => ((cmp_Compare_int.f a0_1 a1_1).bind fun t201 => ((cmp_Compare_int.f a0_2 a1_2).bind fun t202 => ((cmp_Or_int.f k (([t200, t201, t202] : List Int))).bind fun t206 => (some t206))))) = some r := h
 clear h; replace H := bS H; obtain ⟨t200, A3, H⟩ := H
 replace H : ((cmp_Compare_int.f a0_1 a1_1).bind fun t201 => ((cmp_Compare_int.f a0_2 a1_2).bind fun t202 => ((cmp_Or_int.f k (([t200, t201, t202] : List Int))).bind fun t206 => (some t206)))) = some r := H
 replace H := bS H; obtain ⟨t201, A4, H⟩ := H
 replace H : ((cmp_Compare_int.f a0_2 a1_2).bind fun t202 => ((cmp_Or_int.f k (([t200, t201, t202] : List Int))).bind fun t206 => (some t206))) = some r := H
 replace H := bS H; obtain ⟨t202, A5, H⟩ := H
 replace H : ((cmp_Or_int.f k (([t200, t201, t202] : List Int))).bind fun t206 => (some t206)) = some r := H
 obtain ⟨y203, hy_⟩ : ∃ y_ : List Int, y_ = (([t200, t201, t202] : List Int)) := ⟨_, rfl⟩
 replace H : ((cmp_Or_int.f k y203).bind fun t206 => (some t206)) = some r := yH
 have Ny203 := ak hy_; clear hy_; replace H := bS H; obtain ⟨t206, A6, H⟩ := H
 replace H : (some t206) = some r := H
 obtain rfl := Option.some.inj H
 go_enter Try.func202, Try.ntmps202
 try go_wp2_with (first | ((with_reducible refine gate_dst (N := 2) rfl ?_); refine box_eventD ?hg (N := 2) ?hd (cs := #[.int .i64 a0_0, .int .i64 a0_1, .int .i64 a0_2]) (t := 85) ?hr ?_; (case hd => rfl); (case hg => rfl); (case hr => first | (go_simp; done) | (go_simp; rfl)); intro gb198 hg w7 hbox hb hd_; replace HD := Aside0.mk (show w.drawn ≤ w7.drawn from Nat.le_trans (Nat.le_trans HD.out (by first | exact Nat.le_refl _ | (simp only [drn, drn1]; omega))) (Nat.le_of_eq hd_.symm)); clear hd_; have BK198 := ak (hbox); have GW198 := ak (hgl hg (belowd HB)); have GE198 := ak (hgl hg (belowd HB)); replace HB := ak (below_step (belowd HB) hb); clear hb hbox hg) | ((with_reducible refine gate_dst (N := 3) rfl ?_); refine box_eventD ?hg (N := 3) ?hd (cs := #[.int .i64 a1_0, .int .i64 a1_1, .int .i64 a1_2]) (t := 85) ?hr ?_; (case hd => rfl); (case hg => rfl); (case hr => first | (go_simp; done) | (go_simp; rfl)); intro gb199 hg w8 hbox hb hd_; replace HD := Aside0.mk (show w.drawn ≤ w8.drawn from Nat.le_trans (Nat.le_trans HD.out (by first | exact Nat.le_refl _ | (simp only [drn, drn1]; omega))) (Nat.le_of_eq hd_.symm)); clear hd_; have BK199 := ak (hbox); have GW199 := ak (hgl hg (belowg1 HB GE198)); have GE199 := ak (hgl hg (belowg1 HB GE198)); replace HB := ak (below_step (belowg1 HB GE198) hb); have NB198_199 := ak ((by rw [hg]; exact Nat.ne_of_lt (blk_lt (blkd BK198)) : gb198 ≠ gb199)); have NB199_198 := ak ((by rw [hg]; exact Nat.ne_of_gt (blk_lt (blkd BK198)) : gb199 ≠ gb198)); replace BK198 := ak (blk_below (blkd BK198) hb); clear hb hbox hg))
 replace BK198 := ak (blk_drew BK198.out)
 replace BK199 := ak (blk_drew BK199.out)
 replace HB := ak (below_drew1 HB.out)
 refine start_ (n := 18) (S := fun w' => w'.cell? ⟨gb198, 0, none⟩ = some (.int .i64 a0_0) ∧ w'.cell? ⟨gb198, 1, none⟩ = some (.int .i64 a0_1) ∧ w'.cell? ⟨gb198, 2, none⟩ = some (.int .i64 a0_2) ∧ w'.cell? ⟨gb199, 0, none⟩ = some (.int .i64 a1_0) ∧ w'.cell? ⟨gb199, 1, none⟩ = some (.int .i64 a1_1) ∧ w'.cell? ⟨gb199, 2, none⟩ = some (.int .i64 a1_2)) (ds := []) (bl 18 0) (by kernel_rfl) rfl rfl ⟨bq BK198 0, bq BK198 1, bq BK198 2, bq BK199 0, bq BK199 1, bq BK199 2⟩ (fun hHeld => ?_); refine with_tabW impl_compareClaims.tab1 impl_compareClaims.bits1 (fun HT_ HW_ => ?_)
 replace HD := Aside0.mk (show w.drawn ≤ w8.drew.drawn from Nat.le_succ_of_le HD.out)
 generalize w8.drew = w9 at BK198 BK199 HB HD hHeld ⊢
 refine pureA 0 (some 5) 18 1 HT_ ?_
 refine pureA 2 (some 7) 18 5 HT_ ?_
 refine pureA 5 (some 10) 18 37 HT_ ?_
 refine pureA 7 (some 12) 18 165 HT_ ?_
 refine pureA 10 (some 15) 18 1189 HT_ ?_
 refine pureA 12 (some 17) 18 5285 HT_ ?_
 refine takeA 1 (some 6) 18 5287 HT_ HW_ hHeld ?_ (hy := by rintro w' ⟨s0, s1, s2, s3, s4, s5⟩; go_simp; with_reducible rfl)
 refine takeA 3 (some 8) 18 5295 HT_ HW_ hHeld ?_ (hy := by rintro w' ⟨s0, s1, s2, s3, s4, s5⟩; go_simp; with_reducible rfl)
 refine takeA 6 (some 11) 18 5359 HT_ HW_ hHeld ?_ (hy := by rintro w' ⟨s0, s1, s2, s3, s4, s5⟩; go_simp; with_reducible rfl)
 refine takeA 8 (some 13) 18 5615 HT_ HW_ hHeld ?_ (hy := by rintro w' ⟨s0, s1, s2, s3, s4, s5⟩; go_simp; with_reducible rfl)
 refine takeA 11 (some 16) 18 7663 HT_ HW_ hHeld ?_ (hy := by rintro w' ⟨s0, s1, s2, s3, s4, s5⟩; go_simp; with_reducible rfl)
 refine takeA 13 (some 18) 18 15855 HT_ HW_ hHeld ?_ (hy := by rintro w' ⟨s0, s1, s2, s3, s4, s5⟩; go_simp; with_reducible rfl)
 refine oneA 4 (some 9) 18 15871 HT_ (fun K hK => ?_)
 refine goes_ Try.func232 (by kernel_rfl) rfl #[.int .i64 a0_0, .int .i64 a1_0] (by rfl) rfl rfl (by (try simp only [List.map_toArray, List.map_cons, List.map_nil]); first | done | rfl | (simp only [List.length_drop, List.length_take]; rfl)) ?_
 with_reducible refine (cmp_Compare_int.calls a0_0 a1_0 t200 _ A3.out).mono ?_
 rintro e w' ⟨rfl, ⟨nd, rfl⟩⟩
 refine ⟨_, rfl, ?_⟩
 refine hK.out _ _ ⟨bq BK198 0, bq BK198 1, bq BK198 2, bq BK199 0, bq BK199 1, bq BK199 2⟩ (fun hHeld => ?_)
 clear hK K
 refine norm_ (a' := ?_) ?_ ?_
 rotate_left
 ·show Act.put _ (some 9) _ = _
  simp only [Act.put, List.setIfInBounds_toArray, List.set_cons_zero, List.set_cons_succ, i64_w, i32_w]
  rfl
 refine oneA 9 (some 14) 18 16383 HT_ (fun K hK => ?_)
 refine goes_ Try.func232 (by kernel_rfl) rfl #[.int .i64 a0_1, .int .i64 a1_1] (by rfl) rfl rfl (by (try simp only [List.map_toArray, List.map_cons, List.map_nil]); first | done | rfl | (simp only [List.length_drop, List.length_take]; rfl)) ?_
 with_reducible refine (cmp_Compare_int.calls a0_1 a1_1 t201 _ A4.out).mono ?_
 rintro e w' ⟨rfl, ⟨nd, rfl⟩⟩
 refine ⟨_, rfl, ?_⟩
 refine hK.out _ _ ⟨bq BK198 0, bq BK198 1, bq BK198 2, bq BK199 0, bq BK199 1, bq BK199 2⟩ (fun hHeld => ?_)
 clear hK K
 refine norm_ (a' := ?_) ?_ ?_
 rotate_left
 ·show Act.put _ (some 14) _ = _
  simp only [Act.put, List.setIfInBounds_toArray, List.set_cons_zero, List.set_cons_succ, i64_w, i32_w]
  rfl
 refine oneA 14 (some 19) 18 32767 HT_ (fun K hK => ?_)
 refine goes_ Try.func232 (by kernel_rfl) rfl #[.int .i64 a0_2, .int .i64 a1_2] (by rfl) rfl rfl (by (try simp only [List.map_toArray, List.map_cons, List.map_nil]); first | done | rfl | (simp only [List.length_drop, List.length_take]; rfl)) ?_
 with_reducible refine (cmp_Compare_int.calls a0_2 a1_2 t202 _ A5.out).mono ?_
 rintro e w' ⟨rfl, ⟨nd, rfl⟩⟩
 refine ⟨_, rfl, ?_⟩
 refine hK.out _ _ ⟨bq BK198 0, bq BK198 1, bq BK198 2, bq BK199 0, bq BK199 1, bq BK199 2⟩ (fun hHeld => ?_)
 clear hK K
 refine norm_ (a' := ?_) ?_ ?_
 rotate_left
 ·show Act.put _ (some 19) _ = _
  simp only [Act.put, List.setIfInBounds_toArray, List.set_cons_zero, List.set_cons_succ, i64_w, i32_w]
  rfl
 refine oneA 15 (some 20) 18 65535 HT_ (fun K hK => ?_)
 refine R_lit_stepD (Kd.int .i64) _ 3 ?hg (N := 20) ?hd (xs := ([t200, t201, t202] : List Int)) (inner := [.int .i64 t200, .int .i64 t201, .int .i64 t202]) (ok := fun _ => True) (okp := fun _ => True) ?hr ?hp (fun _ hk => hk) trivial (Below.refl _ _) (Nat.le_refl _) (by simp) ?_; (case hd => rfl); (case hg => rfl); (case hr => first | (go_simp; done) | (go_simp; rfl)); (case hp => exact (Reps.one (show Kd.M (Kd.int .i64) _ _ _ t200 [.int .i64 t200] from rfl) (Reps.one (show Kd.M (Kd.int .i64) _ _ _ t201 [.int .i64 t201] from rfl) (Reps.one (show Kd.M (Kd.int .i64) _ _ _ t202 [.int .i64 t202] from rfl) (Reps.none _ _)))))
 intro v204 w10 ho11 hb hg_ hnew_ hd_
 replace HD := Aside0.mk (show w.drawn ≤ w10.drawn from Nat.le_trans (Nat.le_trans HD.out (by first | exact Nat.le_refl _ | (simp only [drn, drn1]; omega))) (Nat.le_of_eq hd_.symm))
 clear hd_; clear hg_ hnew_
 (first | rw [← Ny203.out] at ho11 | (simp only [Int.reduceToNat] at ho11; rw [← Ny203.out] at ho11))
 have HO205 := ak (Kd.R_lower ho11 (below_size (belowg2 HB GE198 GE199)))
 replace BK198 := ak (blk_below (blkd BK198) hb)
 replace BK199 := ak (blk_below (blkd BK199) hb)
 replace HB := ak (below_step (belowg2 HB GE198 GE199) hb)
 clear hb ho11
 obtain ⟨Ao12, co12, eo12⟩ := Kd.R_slice HO205.out
 (first | subst eo12 | (injection eo12 with f1_ f2_ f3_; have f4_ := f1_.symm; have f5_ := f3_.symm; clear f1_ f2_ f3_; subst f4_; subst f5_))
 refine hK.out _ _ ⟨bq BK198 0, bq BK198 1, bq BK198 2, bq BK199 0, bq BK199 1, bq BK199 2⟩ (fun hHeld => ?_)
 clear hK K
 refine norm_ (a' := ?_) ?_ ?_
 rotate_left
 ·show Act.put _ (some 20) _ = _
  simp only [Act.put, List.setIfInBounds_toArray, List.set_cons_zero, List.set_cons_succ, i64_w, i32_w]
  rfl
 refine oneA 16 (some 21) 18 131071 HT_ (fun K hK => ?_)
 refine goes_ Try.func231 (by kernel_rfl) rfl #[.slice Ao12 y203.length co12] (by rfl) rfl rfl (by (try simp only [List.map_toArray, List.map_cons, List.map_nil]); first | done | rfl | (simp only [List.length_drop, List.length_take]; rfl)) ?_
 with_reducible refine (cmp_Or_int.calls k _ _ y203 t206 _ ?side1 ?side2 A6.out).mono ?_
 (case side1 => exact cd (Kd.R_reads' HO205.out).2.2)
 (case side2 => exact (Kd.R_reads' HO205.out).2.1)
 rintro e w' ⟨rfl, ⟨nd, rfl⟩⟩
 refine ⟨_, rfl, ?_⟩
 refine hK.out _ _ ⟨bq BK198 0, bq BK198 1, bq BK198 2, bq BK199 0, bq BK199 1, bq BK199 2⟩ (fun hHeld => ?_)
 clear hK K
 refine norm_ (a' := ?_) ?_ ?_
 rotate_left
 ·show Act.put _ (some 21) _ = _
  simp only [Act.put, List.setIfInBounds_toArray, List.set_cons_zero, List.set_cons_succ, i64_w, i32_w]
  rfl
 refine pureA 17 (some 4) 18 262143 HT_ ?_
 refine done_ (done_of HT_.out (by kernel_rfl)) ?_
 try go_wp2
 go_ret
 exact ⟨er2, laid_of (belowg2 HB GE198 GE199) (Nat.le_trans HD.out (by first | exact Nat.le_refl _ | (simp only [drn, drn1]; omega)))⟩


/-! ### impl_Claim_203: function 203 -/
def impl_Claim_203.f (l0 : List S85) : Option (List S85) := some (Lib.compactUpTo l0.toArray l0.length)
theorem impl_Claim_203.calls (P0_ : Nat → Prop) (u9000_ : Value) (l0 : List (S85)) (r : List (S85)) (w0 w : World) (hB : Below w0.heap.size w0 w) (ho0 : Kd.R k85 85 w w0.heap.size P0_ u9000_ l0) (h : impl_Claim_203.f l0 = some r) :
  Calls Try.prog 203 #[u9000_] w fun e w' => ∃ v0_ : Value, e = .returned (v0_) ∧ Kd.R k85 85 w' w0.heap.size (fun k_ => (P0_ k_ ∨ w.heap.size ≤ k_)) v0_ r ∧ Below w0.heap.size w0 w' ∧ Kept w w' (fun k_ => P0_ k_) := by
 unfold impl_Claim_203.f at h
 obtain rfl := Option.some.inj h
 exact compact_step impl_compareClaims.flat Try.sizeOf85 Try.isAgg85 (by decide) impl_compareClaims.eqs impl_compareClaims.nes impl_compareClaims.gds _ Try.zeroValue85 rfl (by decide) hB ho0

-- NOT PRINTED: function 987650003 (slices_pdqsortCmpFunc_229_at_202)

/-! ### slices_SortFunc_201_at_202: function 201 -/
def slices_SortFunc_201_at_202.le (x y : S85) : Bool := !(Go.Proofs.ltOf impl_compareClaims.cf) y x
def slices_SortFunc_201_at_202.f (l0 : List S85) : Option (List S85) := if l0.length < 4611686018427387904 then some (l0.mergeSort slices_SortFunc_201_at_202.le) else none
theorem slices_SortFunc_201_at_202.calls (P0_ : Nat → Prop) (u9000_ : Value) (l0 : List (S85)) (r : List (S85)) (w0 w : World) (hB : Below w0.heap.size w0 w) (ho0 : Kd.R k85 85 w w0.heap.size P0_ u9000_ l0) (h : slices_SortFunc_201_at_202.f l0 = some r) :
  Calls Try.prog 201 #[u9000_, .func (.func 202) #[] #[]] w fun e w' => e = .returned (.tuple #[]) ∧ Kd.R k85 85 w' w0.heap.size (fun k_ => (P0_ k_ ∨ w.heap.size ≤ k_)) u9000_ r ∧ Below w0.heap.size w0 w' ∧ Kept w w' (fun k_ => P0_ k_) := by
 unfold slices_SortFunc_201_at_202.f at h
 replace h := ifS h
 obtain ⟨hl, h⟩ := h
 obtain rfl := Option.some.inj h
 exact sort_step impl_compareClaims.flat Try.sizeOf85 Try.isAgg85 impl_compareClaims.cf impl_compareClaims.swo impl_compareClaims.total (fun W x y => impl_compareClaims.laid 5 _ _ _ _ _ _ _ W (impl_compareClaims.tells x y)) hB ho0 hl

/-! ### impl_claimsIn: function 139 -/
def impl_claimsIn.l0 : Nat → List (S85) → List (S91) → Int → Int → Option ((List (S85)))
  | 0, _, _, _, _ => none
  | k + 1, x3, x7, x8, x9 => if x9 < x8 then (if 0 ≤ x9 then (if x9 < (x7.length : Int) then (if x3.length < 5864062014805 then (impl_claimsIn.l0 k (x3 ++ [(⟨(rd_T91 x7 x9).f1.f0, (rd_T91 x7 x9).f1.f1, (rd_T91 x7 x9).f1.f2⟩ : S85)]) x7 x8 (wrap64 (x9 + 1))) else (none)) else (none)) else (none)) else ((slices_SortFunc_201_at_202.f x3).bind fun t215 => ((impl_Claim_203.f t215).bind fun t216 => (some t216)))
def impl_claimsIn.f (k : Nat) (l0 : List (S91)) : Option ((List (S85))) := impl_claimsIn.l0 k (([] : List (S85))) l0 (l0.length : Int) 0
theorem impl_claimsIn.mono_l : ∀ k, (∀ y0 y1 y2 y3, LeO (impl_claimsIn.l0 k y0 y1 y2 y3) (impl_claimsIn.l0 (k + 1) y0 y1 y2 y3))
 | 0 => fun _ _ _ _ r h => by simp [impl_claimsIn.l0] at h
 | k + 1 => by
  have ih0 := impl_claimsIn.mono_l k
  ·intro y0 y1 y2 y3
   unfold impl_claimsIn.l0
   repeat' (first | (with_reducible first | exact ih0 _ _ _ _ | exact LeO.refl _ | exact LeO.none _ | refine LeO.ite ?_ ?_ | refine LeO.bind ?_ (fun _ => ?_)) | exact ih0 _ _ _ _ | exact LeO.none _ | refine LeO.ite ?_ ?_ | refine LeO.bind ?_ (fun _ => ?_))
theorem impl_claimsIn.mono : ∀ a0 k, LeO (impl_claimsIn.f k a0) (impl_claimsIn.f (k + 1) a0) := by
 intro a0 k
 have ih0 := impl_claimsIn.mono_l k
 unfold impl_claimsIn.f
 repeat' (first | (with_reducible first | exact ih0 _ _ _ _ | exact LeO.refl _ | exact LeO.none _ | refine LeO.ite ?_ ?_ | refine LeO.bind ?_ (fun _ => ?_)) | exact ih0 _ _ _ _ | exact LeO.none _ | refine LeO.ite ?_ ?_ | refine LeO.bind ?_ (fun _ => ?_))
set_option maxHeartbeats 8000000 in
set_option maxRecDepth 100000 in
theorem impl_claimsIn.calls (k : Nat) (A0 : Option Addr) (c0 : Nat) (l0 : List (S91)) (r : List (S85)) (w : World) (hr0 : Kd.C k91 w A0 l0.length l0) (hc0 : l0.length ≤ c0) (h : impl_claimsIn.f k l0 = some r) :
  Calls Try.prog 139 #[.slice A0 l0.length c0] w fun e w' => ∃ v0_ : Value, e = .returned (v0_) ∧ Kd.R k85 85 w' w.heap.size (fun _ => True) v0_ r ∧ Below w.heap.size w w' := by
 have hu91 := Try.underlying91
 have hu85 := Try.underlying85
 have HR0 := Aside0.mk hr0; have HC0 := Aside0.mk hc0; clear hr0 hc0
 have HB := Aside0.mk (Below.refl w.heap.size w)
 have H : (impl_claimsIn.l0 k (([] : List (S85))) l0 (l0.length : Int) 0) = some r := h
 clear h
 obtain ⟨y207, hy_⟩ : ∃ y_ : List (S85), y_ = (([] : List (S85))) := ⟨_, rfl⟩
 replace H : (impl_claimsIn.l0 k y207 l0 (l0.length : Int) 0) = some r := yH
 have Ny207 := ak hy_; clear hy_
 have H' := Aside0.mk H
 clear H
 go_enter Try.func139, Try.ntmps139
 go_wp2_with (first | ((with_reducible refine gate_dst (N := 6) rfl ?_); refine Kd.R_lit k85 _ 85 ?hg (N := 6) ?hd (xs := ([] : List (S85))) (inner := []) (ok := fun _ => True) (okp := fun _ => True) ?hr ?hp (fun _ hk => hk) trivial (Below.refl _ _) (Nat.le_refl _) (by simp) ?_; (case hd => rfl); (case hg => rfl); (case hr => first | (go_simp; done) | (go_simp; rfl)); (case hp => exact (Reps.none _ _)); intro v208 w2 ho3 hb hg_ hnew_; clear hg_ hnew_; (first | rw [← Ny207.out] at ho3 | (simp only [Int.reduceToNat] at ho3; rw [← Ny207.out] at ho3)); have HO209 := ak (Kd.R_lower ho3 (below_size (belowd HB))); replace HB := ak (below_step (belowd HB) hb); clear hb ho3))
 go_loopg [3, 9] k (fun kq v3 v9 w' => ∃ (x3_1 : List (S85)) (x9_1 : Int), v9 = .int .i64 x9_1 ∧ Aside0 (impl_claimsIn.l0 kq x3_1 l0 (l0.length : Int) x9_1 = some r) ∧ Aside0 (kq ≤ k) ∧ Aside0 (Kd.R k85 85 w' w.heap.size (fun _ => True) v3 x3_1) ∧ Aside0 (Below w.heap.size w w'))
 case atStart => exact ⟨(y207), (0), er, H', ⟨Nat.le_refl _⟩, ⟨rdl HO209⟩, ⟨belowd HB⟩⟩
 case round =>
  clear H'
  obtain ⟨x3_1, x9_1, rfl, HA, HK1, HO_3, HB⟩ := hrel
  cases gk with
  | zero => exact absurd HA.out (by simp [impl_claimsIn.l0])
  | succ k1 =>
   have H := HA.out; clear HA
   simp only [impl_claimsIn.l0] at H
   by_cases c4 : x9_1 < (l0.length : Int)
   ·rw [if_pos c4] at H
    have c4b0 : decide (x9_1 < (l0.length : Int)) = true := decide_eq_true c4
    clear c4; replace H := ifS H; obtain ⟨c5, H⟩ := H; have c5b0 := decide_eq_true c5; clear c5; replace H := ifS H; obtain ⟨c6, H⟩ := H; have c6b0 := decide_eq_true c6; clear c6; replace H := ifS H; obtain ⟨c7, H⟩ := H; have LMc7 := Aside0.mk c7; clear c7
    obtain ⟨y212, hy_⟩ : ∃ y_ : List (S85), y_ = (x3_1 ++ [(⟨(rd_T91 l0 x9_1).f1.f0, (rd_T91 l0 x9_1).f1.f1, (rd_T91 l0 x9_1).f1.f2⟩ : S85)]) := ⟨_, rfl⟩
    replace H : (impl_claimsIn.l0 k1 y212 l0 (l0.length : Int) (wrap64 (x9_1 + 1))) = some r := yH
    have Ny212 := ak hy_; clear hy_
    have H' := Aside0.mk H
    clear H
    have p210 : 0 ≤ (x9_1 : Int) := da
    have q210 : x9_1 < (l0.length : Int) := da
    obtain ⟨ad210, e210, hx210_0, hx210_1, hx210_2, hx210_3, hx210_4⟩ := at_T91 HR0.out x9_1 p210 q210
    cases e210
    replace hx210_0 := (HB.out.cell (World.block_lt_of_cell? w _ hx210_0)).trans hx210_0
    replace hx210_1 := (HB.out.cell (World.block_lt_of_cell? w _ hx210_1)).trans hx210_1
    replace hx210_2 := (HB.out.cell (World.block_lt_of_cell? w _ hx210_2)).trans hx210_2
    replace hx210_3 := (HB.out.cell (World.block_lt_of_cell? w _ hx210_3)).trans hx210_3
    replace hx210_4 := (HB.out.cell (World.block_lt_of_cell? w _ hx210_4)).trans hx210_4
    replace p210 := eq_true p210; replace q210 := eq_true q210
    go_wp2_with (first | ((with_reducible refine gate_dst (N := 5) rfl ?_); refine boxev 5 #[.int .i64 0, .int .i64 0, .int .i64 0, .int .i64 0, .bool false] 91 ?_; intro gb211 hg w8 hbox hb; replace HO_3 := ak (Kd.R_below (rdl HO_3) hb); have BK211 := ak (hbox); have GW211 := ak (hgl hg (belowd HB)); have GE211 := ak (hgl hg (belowd HB)); replace HB := ak (below_step (belowd HB) hb); clear hb hbox hg; obtain ⟨hcz9_0, hcz9_1, hcz9_2, hcz9_3, hcz9_4, hfz9_0, hfz9_1, hfz9_2, hfz9_3, hfz9_4⟩ := box5 BK211) | ((with_reducible refine gate_builtin (b := .append) (xs := #[.tmp 13, .tmp 16]) rfl ?_); at_builtin; refine Kd.R_append k85 (w0 := w) w.heap.size rfl (.tmp 13) (.tmp 16) 70 85 (.agg #[(.int .i64 0), (.int .i64 0), (.int .i64 0)]) 24 rfl Try.underlying70 info85 rfl (by decide) (by omega) u3 x3_1 (⟨(rd_T91 l0 x9_1).f1.f0, (rd_T91 l0 x9_1).f1.f1, (rd_T91 l0 x9_1).f1.f2⟩ : S85) [.int .i64 ((rd_T91 l0 x9_1).f1.f0), .int .i64 ((rd_T91 l0 x9_1).f1.f1), .int .i64 ((rd_T91 l0 x9_1).f1.f2)] (fun _ => True) (fun _ => False) rfl (by first | (go_simp; done) | (go_simp; rfl)) ?aP (fun _ hk => hk.elim) ?aF ?aO ?aB ?aS ?aL ?_; (case aP => exact k85_mkM _ _ _ (⟨(rd_T91 l0 x9_1).f1.f0, (rd_T91 l0 x9_1).f1.f1, (rd_T91 l0 x9_1).f1.f2⟩ : S85)); (case aB => exact (belowg1 HB GE211)); (case aF => exact (fun _ _ => trivial)); (case aO => exact (by (with_reducible repeat (first | apply Kd.R_alloc | apply Kd.R_drewN | apply Kd.R_drew)); exact Kd.R_mono (farsR (Kd.R_types HO_3.out BK211.out (by decide))) (fun _ hk => trivial))); (case aS => exact (below_size (belowg1 HB GE211))); (case aL => have := LMc7.out; omega); intro v213 w10 ho hb hg hat; rw [← Ny212.out] at ho; replace BK211 := ak (blk_grown (g := gb211) (o := .cells #[.int .i64 ((rd_T91 l0 x9_1).f0), .int .i64 ((rd_T91 l0 x9_1).f1.f0), .int .i64 ((rd_T91 l0 x9_1).f1.f1), .int .i64 ((rd_T91 l0 x9_1).f1.f2), .bool ((rd_T91 l0 x9_1).f2)] 91 (0, 0)) (by (with_reducible repeat (first | refine blk_drewN ?_ _ | refine blk_drew ?_ | refine blk_alloc ?_ _)); refine blk_put (cs := #[.int .i64 ((rd_T91 l0 x9_1).f0), .int .i64 ((rd_T91 l0 x9_1).f1.f0), .int .i64 ((rd_T91 l0 x9_1).f1.f1), .int .i64 ((rd_T91 l0 x9_1).f1.f2), .bool false]) ?_ 4 _ rfl; (with_reducible repeat (first | refine blk_drewN ?_ _ | refine blk_drew ?_ | refine blk_alloc ?_ _)); refine blk_put (cs := #[.int .i64 ((rd_T91 l0 x9_1).f0), .int .i64 ((rd_T91 l0 x9_1).f1.f0), .int .i64 ((rd_T91 l0 x9_1).f1.f1), .int .i64 0, .bool false]) ?_ 3 _ rfl; (with_reducible repeat (first | refine blk_drewN ?_ _ | refine blk_drew ?_ | refine blk_alloc ?_ _)); refine blk_put (cs := #[.int .i64 ((rd_T91 l0 x9_1).f0), .int .i64 ((rd_T91 l0 x9_1).f1.f0), .int .i64 0, .int .i64 0, .bool false]) ?_ 2 _ rfl; (with_reducible repeat (first | refine blk_drewN ?_ _ | refine blk_drew ?_ | refine blk_alloc ?_ _)); refine blk_put (cs := #[.int .i64 ((rd_T91 l0 x9_1).f0), .int .i64 0, .int .i64 0, .int .i64 0, .bool false]) ?_ 1 _ rfl; (with_reducible repeat (first | refine blk_drewN ?_ _ | refine blk_drew ?_ | refine blk_alloc ?_ _)); refine blk_put (cs := #[.int .i64 0, .int .i64 0, .int .i64 0, .int .i64 0, .bool false]) ?_ 0 _ rfl; (with_reducible repeat (first | refine blk_drewN ?_ _ | refine blk_drew ?_ | refine blk_alloc ?_ _)); exact BK211.out) hg (Kd.R_ne HO_3.out BK211.out (by decide))); replace HB := ak (hb); have HO214 := ak (ho); clear HO_3; clear ho hb hg hat))
    go_roundg k1
    case measure => have := HK1.out; omega
    case rel => exact ⟨(y212), (wrap64 (x9_1 + 1)), er, H', ⟨by have := HK1.out; omega⟩, ⟨rdl HO214⟩, ⟨belowg1 HB GE211⟩⟩
   ·rw [if_neg c4] at H
    have c4b0 : decide (x9_1 < (l0.length : Int)) = false := decide_eq_false c4
    clear c4; replace H := bS H; obtain ⟨t215, A11, H⟩ := H
    replace H : ((impl_Claim_203.f t215).bind fun t216 => (some t216)) = some r := H
    replace H := bS H; obtain ⟨t216, A12, H⟩ := H
    replace H : (some t216) = some r := H
    obtain rfl := Option.some.inj H
    obtain ⟨Ao13, co13, eo13⟩ := Kd.R_slice HO_3.out
    subst eo13
    go_wp2_with (first | ((with_reducible refine gate_callee (f := 201) rfl ?_); refine goesLa (some 20) rfl Try.func201 #[.slice Ao13 x3_1.length co13, .func (.func 202) #[] #[]] rfl ?_; (with_reducible refine (slices_SortFunc_201_at_202.calls (fun k_ => some k_ = (.slice Ao13 x3_1.length co13 : Value).ownBlock) (.slice Ao13 x3_1.length co13) x3_1  t215 w _ ?side1 ?side2 A11.out).mono ?_); (case side1 => repeat (first | (with_reducible first | exact HB.out | apply below_alloc | apply pw_below_drewN | apply below_drew1) | exact HB.out)); (case side2 => exact Kd.R_tight rfl HO_3.out); rintro e w14 ⟨rfl, hy0, hb, hkp⟩; refine ⟨_, rfl, ?_⟩; replace HO_3 := ak (Kd.R_reok rfl hy0 (fun k_ e_ => HO_3.out.1 k_ e_)); replace HB := ak (hb); (try clear hb); (try clear hkp); (try clear hy0)) | ((with_reducible refine gate_callee (f := 203) rfl ?_); refine goesLa (some 22) rfl Try.func203 #[.slice Ao13 x3_1.length co13] rfl ?_; (with_reducible refine (impl_Claim_203.calls (fun k_ => some k_ = (.slice Ao13 x3_1.length co13 : Value).ownBlock) (.slice Ao13 x3_1.length co13) t215 t216 w _ ?side1 ?side2 A12.out).mono ?_); (case side1 => repeat (first | (with_reducible first | exact HB.out | apply below_alloc | apply pw_below_drewN | apply below_drew1) | exact HB.out)); (case side2 => exact Kd.R_tight rfl HO_3.out); rintro e w15 ⟨v217, rfl, ho0, hb, hkp⟩; refine ⟨_, rfl, ?_⟩; have HO218 := ak (Kd.R_mono (ok' := fun k_ => True) ho0 (fun k_ hk_ => trivial)); replace HB := ak (hb); clear HO_3; (try clear hb); (try clear hkp); (try clear ho0)))
    go_ret
    exact ⟨_, er2, by (with_reducible repeat (first | apply Kd.R_alloc | apply Kd.R_drewN | apply Kd.R_drew)); exact HO218.out, belowd HB⟩

/-! ### impl_Statement_204: function 204 -/
def impl_Statement_204.l0 : Nat → List (S91) → Int → Int → Int → Int → Int → Int → Bool → Option (Int)
  | 0, _, _, _, _, _, _, _, _ => none
  | k + 1, x0, x7, x8, x220000, x220001, x220002, x220003, x220004 => if x8 < x7 then (if 0 ≤ x8 then (if x8 < (x0.length : Int) then (if (x220000 == ((rd_T91 x0 x8).f0) && ((x220001 == ((rd_T91 x0 x8).f1.f0) && (x220002 == ((rd_T91 x0 x8).f1.f1) && (x220003 == ((rd_T91 x0 x8).f1.f2)))) && (x220004 == ((rd_T91 x0 x8).f2)))) = true then (some x8) else (impl_Statement_204.l0 k x0 x7 (wrap64 (x8 + 1)) x220000 x220001 x220002 x220003 x220004)) else (none)) else (none)) else (some (-1))
def impl_Statement_204.f (k : Nat) (l0 : List (S91)) (a1_0 : Int) (a1_1 : Int) (a1_2 : Int) (a1_3 : Int) (a1_4 : Bool) : Option (Int) := impl_Statement_204.l0 k l0 (l0.length : Int) 0 a1_0 a1_1 a1_2 a1_3 a1_4
theorem impl_Statement_204.mono_l : ∀ k, (∀ y0 y1 y2 y3 y4 y5 y6 y7, LeO (impl_Statement_204.l0 k y0 y1 y2 y3 y4 y5 y6 y7) (impl_Statement_204.l0 (k + 1) y0 y1 y2 y3 y4 y5 y6 y7))
 | 0 => fun _ _ _ _ _ _ _ _ r h => by simp [impl_Statement_204.l0] at h
 | k + 1 => by
  have ih0 := impl_Statement_204.mono_l k
  ·intro y0 y1 y2 y3 y4 y5 y6 y7
   unfold impl_Statement_204.l0
   repeat' (first | (with_reducible first | exact ih0 _ _ _ _ _ _ _ _ | exact LeO.refl _ | exact LeO.none _ | refine LeO.ite ?_ ?_ | refine LeO.bind ?_ (fun _ => ?_)) | exact ih0 _ _ _ _ _ _ _ _ | exact LeO.none _ | refine LeO.ite ?_ ?_ | refine LeO.bind ?_ (fun _ => ?_))
theorem impl_Statement_204.mono : ∀ a0 a1 a2 a3 a4 a5 k, LeO (impl_Statement_204.f k a0 a1 a2 a3 a4 a5) (impl_Statement_204.f (k + 1) a0 a1 a2 a3 a4 a5) := by
 intro a0 a1 a2 a3 a4 a5 k
 have ih0 := impl_Statement_204.mono_l k
 unfold impl_Statement_204.f
 repeat' (first | (with_reducible first | exact ih0 _ _ _ _ _ _ _ _ | exact LeO.refl _ | exact LeO.none _ | refine LeO.ite ?_ ?_ | refine LeO.bind ?_ (fun _ => ?_)) | exact ih0 _ _ _ _ _ _ _ _ | exact LeO.none _ | refine LeO.ite ?_ ?_ | refine LeO.bind ?_ (fun _ => ?_))
set_option maxHeartbeats 8000000 in
set_option maxRecDepth 100000 in
theorem impl_Statement_204.calls (k : Nat) (A0 : Option Addr) (c0 : Nat) (l0 : List (S91)) (a1_0 : Int) (a1_1 : Int) (a1_2 : Int) (a1_3 : Int) (a1_4 : Bool) (r : Int) (w : World) (hr0 : Kd.C k91 w A0 l0.length l0) (hc0 : l0.length ≤ c0) (h : impl_Statement_204.f k l0 a1_0 a1_1 a1_2 a1_3 a1_4 = some r) :
  Calls Try.prog 204 #[.slice A0 l0.length c0, .agg #[.int .i64 a1_0, .int .i64 a1_1, .int .i64 a1_2, .int .i64 a1_3, .bool a1_4]] w fun e w' => e = .returned (.int .i64 r) ∧ Below w.heap.size w w' := by
 have hu91 := Try.underlying91
 have HR0 := Aside0.mk hr0; have HC0 := Aside0.mk hc0; clear hr0 hc0
 have HB := Aside0.mk (Below.refl w.heap.size w)
 have H : (impl_Statement_204.l0 k l0 (l0.length : Int) 0 a1_0 a1_1 a1_2 a1_3 a1_4) = some r := h
 clear h
 have H' := Aside0.mk H
 clear H
 go_enter Try.func204, Try.ntmps204
 go_wp2_with (first | ((with_reducible refine gate_dst (N := 3) rfl ?_); refine boxev 3 #[.int .i64 a1_0, .int .i64 a1_1, .int .i64 a1_2, .int .i64 a1_3, .bool a1_4] 91 ?_; intro gb219 hg w3 hbox hb; have BK219 := ak (hbox); have GW219 := ak (hgl hg (belowd HB)); have GE219 := ak (hgl hg (belowd HB)); replace HB := ak (below_step (belowd HB) hb); clear hb hbox hg))
 repeat (go_quiet (first | ((with_reducible refine gate_dst (N := 3) rfl ?_); refine boxev 3 #[.int .i64 a1_0, .int .i64 a1_1, .int .i64 a1_2, .int .i64 a1_3, .bool a1_4] 91 ?_; intro gb219 hg w3 hbox hb; have BK219 := ak (hbox); have GW219 := ak (hgl hg (belowd HB)); have GE219 := ak (hgl hg (belowd HB)); replace HB := ak (below_step (belowd HB) hb); clear hb hbox hg)); try go_wp2_with (first | ((with_reducible refine gate_dst (N := 3) rfl ?_); refine boxev 3 #[.int .i64 a1_0, .int .i64 a1_1, .int .i64 a1_2, .int .i64 a1_3, .bool a1_4] 91 ?_; intro gb219 hg w3 hbox hb; have BK219 := ak (hbox); have GW219 := ak (hgl hg (belowd HB)); have GE219 := ak (hgl hg (belowd HB)); replace HB := ak (below_step (belowd HB) hb); clear hb hbox hg)))
 go_loopg [8] k (fun kq v8 w' => ∃ (x8_1 : Int), v8 = .int .i64 x8_1 ∧ Aside0 (impl_Statement_204.l0 kq l0 (l0.length : Int) x8_1 a1_0 a1_1 a1_2 a1_3 a1_4 = some r) ∧ Aside0 (kq ≤ k) ∧ Aside0 (w'.heap[gb219]? = some (.cells #[.int .i64 a1_0, .int .i64 a1_1, .int .i64 a1_2, .int .i64 a1_3, .bool a1_4] 91 (0, 0))) ∧ Aside0 (Below w.heap.size w w'))
 case atStart => exact ⟨(0), er, H', ⟨Nat.le_refl _⟩, ⟨blkd BK219⟩, ⟨belowg1 HB GE219⟩⟩
 case round =>
  clear H'
  obtain ⟨x8_1, rfl, HA, HK1, BK219, HB⟩ := hrel
  cases gk with
  | zero => exact absurd HA.out (by simp [impl_Statement_204.l0])
  | succ k1 =>
   have H := HA.out; clear HA
   simp only [impl_Statement_204.l0] at H
   by_cases c4 : x8_1 < (l0.length : Int)
   ·rw [if_pos c4] at H
    have c4b0 : decide (x8_1 < (l0.length : Int)) = true := decide_eq_true c4
    clear c4; replace H := ifS H; obtain ⟨c5, H⟩ := H; have c5b0 := decide_eq_true c5; clear c5; replace H := ifS H; obtain ⟨c6, H⟩ := H; have c6b0 := decide_eq_true c6; clear c6
    by_cases c7 : (a1_0 == ((rd_T91 l0 x8_1).f0) && ((a1_1 == ((rd_T91 l0 x8_1).f1.f0) && (a1_2 == ((rd_T91 l0 x8_1).f1.f1) && (a1_3 == ((rd_T91 l0 x8_1).f1.f2)))) && (a1_4 == ((rd_T91 l0 x8_1).f2)))) = true
    ·rw [if_pos c7] at H
     have c7b0 : (a1_0 == ((rd_T91 l0 x8_1).f0) && ((a1_1 == ((rd_T91 l0 x8_1).f1.f0) && (a1_2 == ((rd_T91 l0 x8_1).f1.f1) && (a1_3 == ((rd_T91 l0 x8_1).f1.f2)))) && (a1_4 == ((rd_T91 l0 x8_1).f2)))) = true := c7
     (try (have c7b1 : decide (a1_0 = ((rd_T91 l0 x8_1).f0) && ((a1_1 == ((rd_T91 l0 x8_1).f1.f0) && (a1_2 == ((rd_T91 l0 x8_1).f1.f1) && (a1_3 == ((rd_T91 l0 x8_1).f1.f2)))) && (a1_4 == ((rd_T91 l0 x8_1).f2)))) = true := by simpa using c7))
     (try (have c7b2 : (a1_0 == ((rd_T91 l0 x8_1).f0) && ((a1_1 == ((rd_T91 l0 x8_1).f1.f0) && (a1_2 == ((rd_T91 l0 x8_1).f1.f1) && (a1_3 == ((rd_T91 l0 x8_1).f1.f2)))) && (a1_4 == ((rd_T91 l0 x8_1).f2)))) = true := by simpa using c7))
     clear c7
     obtain rfl := Option.some.inj H
     obtain ⟨hcz8_0, hcz8_1, hcz8_2, hcz8_3, hcz8_4, hfz8_0, hfz8_1, hfz8_2, hfz8_3, hfz8_4⟩ := box5 BK219
     have p220 : 0 ≤ (x8_1 : Int) := da
     have q220 : x8_1 < (l0.length : Int) := da
     obtain ⟨ad220, e220, hx220_0, hx220_1, hx220_2, hx220_3, hx220_4⟩ := at_T91 HR0.out x8_1 p220 q220
     cases e220
     replace hx220_0 := (HB.out.cell (World.block_lt_of_cell? w _ hx220_0)).trans hx220_0
     replace hx220_1 := (HB.out.cell (World.block_lt_of_cell? w _ hx220_1)).trans hx220_1
     replace hx220_2 := (HB.out.cell (World.block_lt_of_cell? w _ hx220_2)).trans hx220_2
     replace hx220_3 := (HB.out.cell (World.block_lt_of_cell? w _ hx220_3)).trans hx220_3
     replace hx220_4 := (HB.out.cell (World.block_lt_of_cell? w _ hx220_4)).trans hx220_4
     replace p220 := eq_true p220; replace q220 := eq_true q220; go_wp2
     repeat (go_quiet (fail); try go_wp2)
     go_ret
     exact ⟨er2, belowg1 HB GE219⟩
    ·rw [if_neg c7] at H
     have c7b0 : (a1_0 == ((rd_T91 l0 x8_1).f0) && ((a1_1 == ((rd_T91 l0 x8_1).f1.f0) && (a1_2 == ((rd_T91 l0 x8_1).f1.f1) && (a1_3 == ((rd_T91 l0 x8_1).f1.f2)))) && (a1_4 == ((rd_T91 l0 x8_1).f2)))) = false := by simpa using c7
     (try (have c7b1 : decide (a1_0 = ((rd_T91 l0 x8_1).f0) && ((a1_1 == ((rd_T91 l0 x8_1).f1.f0) && (a1_2 == ((rd_T91 l0 x8_1).f1.f1) && (a1_3 == ((rd_T91 l0 x8_1).f1.f2)))) && (a1_4 == ((rd_T91 l0 x8_1).f2)))) = false := by simpa using c7))
     (try (have c7b2 : (a1_0 == ((rd_T91 l0 x8_1).f0) && ((a1_1 == ((rd_T91 l0 x8_1).f1.f0) && (a1_2 == ((rd_T91 l0 x8_1).f1.f1) && (a1_3 == ((rd_T91 l0 x8_1).f1.f2)))) && (a1_4 == ((rd_T91 l0 x8_1).f2)))) = false := by simpa using c7))
     (try (have c7b3 : ¬ (a1_0 = ((rd_T91 l0 x8_1).f0) && ((a1_1 == ((rd_T91 l0 x8_1).f1.f0) && (a1_2 == ((rd_T91 l0 x8_1).f1.f1) && (a1_3 == ((rd_T91 l0 x8_1).f1.f2)))) && (a1_4 == ((rd_T91 l0 x8_1).f2)))) := by simpa using c7))
     clear c7
     have H' := Aside0.mk H
     clear H; obtain ⟨hcz9_0, hcz9_1, hcz9_2, hcz9_3, hcz9_4, hfz9_0, hfz9_1, hfz9_2, hfz9_3, hfz9_4⟩ := box5 BK219
     have p220 : 0 ≤ (x8_1 : Int) := da
     have q220 : x8_1 < (l0.length : Int) := da
     obtain ⟨ad220, e220, hx220_0, hx220_1, hx220_2, hx220_3, hx220_4⟩ := at_T91 HR0.out x8_1 p220 q220
     cases e220
     replace hx220_0 := (HB.out.cell (World.block_lt_of_cell? w _ hx220_0)).trans hx220_0
     replace hx220_1 := (HB.out.cell (World.block_lt_of_cell? w _ hx220_1)).trans hx220_1
     replace hx220_2 := (HB.out.cell (World.block_lt_of_cell? w _ hx220_2)).trans hx220_2
     replace hx220_3 := (HB.out.cell (World.block_lt_of_cell? w _ hx220_3)).trans hx220_3
     replace hx220_4 := (HB.out.cell (World.block_lt_of_cell? w _ hx220_4)).trans hx220_4
     replace p220 := eq_true p220; replace q220 := eq_true q220; go_wp2
     repeat (go_quiet (fail); try go_wp2)
     go_roundg k1
     case measure => have := HK1.out; omega
     case rel => exact ⟨(wrap64 (x8_1 + 1)), er, H', ⟨by have := HK1.out; omega⟩, ⟨blkd BK219⟩, ⟨belowg1 HB GE219⟩⟩
   ·rw [if_neg c4] at H
    have c4b0 : decide (x8_1 < (l0.length : Int)) = false := decide_eq_false c4
    clear c4
    obtain rfl := Option.some.inj H
    go_wp2
    repeat (go_quiet (fail); try go_wp2)
    go_ret
    exact ⟨er2, belowg1 HB GE219⟩

/-! ### impl_Statement_144: function 144 -/
def impl_Statement_144.f (k : Nat) (l0 : List (S91)) (a1_0 : Int) (a1_1 : Int) (a1_2 : Int) (a1_3 : Int) (a1_4 : Bool) : Option (Bool) := (impl_Statement_204.f k l0 a1_0 a1_1 a1_2 a1_3 a1_4).bind fun t222 => (some (decide (t222 ≥ 0)))
theorem impl_Statement_144.mono : ∀ a0 a1 a2 a3 a4 a5 k, LeO (impl_Statement_144.f k a0 a1 a2 a3 a4 a5) (impl_Statement_144.f (k + 1) a0 a1 a2 a3 a4 a5) := by
 intro a0 a1 a2 a3 a4 a5 k
 unfold impl_Statement_144.f
 repeat' (first | (with_reducible first | exact impl_Statement_204.mono _ _ _ _ _ _ _ | exact LeO.refl _ | exact LeO.none _ | refine LeO.ite ?_ ?_ | refine LeO.bind ?_ (fun _ => ?_)) | exact impl_Statement_204.mono _ _ _ _ _ _ _ | exact LeO.none _ | refine LeO.ite ?_ ?_ | refine LeO.bind ?_ (fun _ => ?_))
set_option maxHeartbeats 8000000 in
set_option maxRecDepth 100000 in
theorem impl_Statement_144.calls (k : Nat) (A0 : Option Addr) (c0 : Nat) (l0 : List (S91)) (a1_0 : Int) (a1_1 : Int) (a1_2 : Int) (a1_3 : Int) (a1_4 : Bool) (r : Bool) (w : World) (hr0 : Kd.C k91 w A0 l0.length l0) (hc0 : l0.length ≤ c0) (h : impl_Statement_144.f k l0 a1_0 a1_1 a1_2 a1_3 a1_4 = some r) :
  Calls Try.prog 144 #[.slice A0 l0.length c0, .agg #[.int .i64 a1_0, .int .i64 a1_1, .int .i64 a1_2, .int .i64 a1_3, .bool a1_4]] w fun e w' => e = .returned (.bool r) ∧ Below w.heap.size w w' := by
 have hu91 := Try.underlying91
 have HR0 := Aside0.mk hr0; have HC0 := Aside0.mk hc0; clear hr0 hc0
 have HB := Aside0.mk (Below.refl w.heap.size w)
 have H : ((impl_Statement_204.f k l0 a1_0 a1_1 a1_2 a1_3 a1_4).bind fun t222 => (some (decide (t222 ≥ 0)))) = some r := h
 clear h; replace H := bS H; obtain ⟨t222, A3, H⟩ := H
 replace H : (some (decide (t222 ≥ 0))) = some r := H
 obtain rfl := Option.some.inj H
 go_enter Try.func144, Try.ntmps144
 go_wp2_with (first | ((with_reducible refine gate_dst (N := 3) rfl ?_); refine boxev 3 #[.int .i64 a1_0, .int .i64 a1_1, .int .i64 a1_2, .int .i64 a1_3, .bool a1_4] 91 ?_; intro gb221 hg w4 hbox hb; have BK221 := ak (hbox); have GW221 := ak (hgl hg (belowd HB)); have GE221 := ak (hgl hg (belowd HB)); replace HB := ak (below_step (belowd HB) hb); clear hb hbox hg; obtain ⟨hcz5_0, hcz5_1, hcz5_2, hcz5_3, hcz5_4, hfz5_0, hfz5_1, hfz5_2, hfz5_3, hfz5_4⟩ := box5 BK221) | ((with_reducible refine gate_callee (f := 204) rfl ?_); refine goesLa (some 7) rfl Try.func204 #[.slice A0 l0.length c0, .agg #[.int .i64 a1_0, .int .i64 a1_1, .int .i64 a1_2, .int .i64 a1_3, .bool a1_4]] rfl ?_; (with_reducible refine (impl_Statement_204.calls k _ _ l0 a1_0 a1_1 a1_2 a1_3 a1_4 t222 _ ?side1 ?side2 A3.out).mono ?_); (case side1 => exact cd (Kd.C_below HR0.out HB.out)); (case side2 => exact HC0.out); rintro e w6 ⟨rfl, hb⟩; refine ⟨_, rfl, ?_⟩; replace BK221 := ak (blk_below (blkd BK221) hb); replace HB := ak (below_step (belowg1 HB GE221) hb); (try clear hb)))
 go_ret
 exact ⟨er2, belowg1 HB GE221⟩

/-! ### impl_refusedBy: function 146 -/
def impl_refusedBy.l0 : Nat → List (S91) → List Int → Int → Int → Int → Int → Option (List Int)
  | 0, _, _, _, _, _, _ => none
  | k + 1, x0, x5, x8, x224000, x224001, x224002 => if x8 < 7 then ((impl_Statement_144.f k x0 x8 x224000 x224001 x224002 true).bind fun t227 => (if t227 = true then ((impl_Statement_144.f k x0 x8 x224000 x224001 x224002 false).bind fun t228 => (if t228 = true then (impl_refusedBy.l0 k x0 x5 (wrap64 (x8 + 1)) x224000 x224001 x224002) else (if x5.length < 17592186044416 then (impl_refusedBy.l0 k x0 (x5 ++ [x8]) (wrap64 (x8 + 1)) x224000 x224001 x224002) else (none)))) else (impl_refusedBy.l0 k x0 x5 (wrap64 (x8 + 1)) x224000 x224001 x224002))) else (some x5)
def impl_refusedBy.f (k : Nat) (l0 : List (S91)) (a1_0 : Int) (a1_1 : Int) (a1_2 : Int) : Option (List Int) := impl_refusedBy.l0 k l0 (([] : List Int)) 0 a1_0 a1_1 a1_2
theorem impl_refusedBy.mono_l : ∀ k, (∀ y0 y1 y2 y3 y4 y5, LeO (impl_refusedBy.l0 k y0 y1 y2 y3 y4 y5) (impl_refusedBy.l0 (k + 1) y0 y1 y2 y3 y4 y5))
 | 0 => fun _ _ _ _ _ _ r h => by simp [impl_refusedBy.l0] at h
 | k + 1 => by
  have ih0 := impl_refusedBy.mono_l k
  ·intro y0 y1 y2 y3 y4 y5
   unfold impl_refusedBy.l0
   repeat' (first | (with_reducible first | exact ih0 _ _ _ _ _ _ | exact impl_Statement_144.mono _ _ _ _ _ _ _ | exact LeO.refl _ | exact LeO.none _ | refine LeO.ite ?_ ?_ | refine LeO.bind ?_ (fun _ => ?_)) | exact ih0 _ _ _ _ _ _ | exact impl_Statement_144.mono _ _ _ _ _ _ _ | exact LeO.none _ | refine LeO.ite ?_ ?_ | refine LeO.bind ?_ (fun _ => ?_))
theorem impl_refusedBy.mono : ∀ a0 a1 a2 a3 k, LeO (impl_refusedBy.f k a0 a1 a2 a3) (impl_refusedBy.f (k + 1) a0 a1 a2 a3) := by
 intro a0 a1 a2 a3 k
 have ih0 := impl_refusedBy.mono_l k
 unfold impl_refusedBy.f
 repeat' (first | (with_reducible first | exact ih0 _ _ _ _ _ _ | exact impl_Statement_144.mono _ _ _ _ _ _ _ | exact LeO.refl _ | exact LeO.none _ | refine LeO.ite ?_ ?_ | refine LeO.bind ?_ (fun _ => ?_)) | exact ih0 _ _ _ _ _ _ | exact impl_Statement_144.mono _ _ _ _ _ _ _ | exact LeO.none _ | refine LeO.ite ?_ ?_ | refine LeO.bind ?_ (fun _ => ?_))
set_option maxHeartbeats 8000000 in
set_option maxRecDepth 100000 in
theorem impl_refusedBy.calls (k : Nat) (A0 : Option Addr) (c0 : Nat) (l0 : List (S91)) (a1_0 : Int) (a1_1 : Int) (a1_2 : Int) (r : List Int) (w : World) (hr0 : Kd.C k91 w A0 l0.length l0) (hc0 : l0.length ≤ c0) (h : impl_refusedBy.f k l0 a1_0 a1_1 a1_2 = some r) :
  Calls Try.prog 146 #[.slice A0 l0.length c0, .agg #[.int .i64 a1_0, .int .i64 a1_1, .int .i64 a1_2]] w fun e w' => ∃ v0_ : Value, e = .returned (v0_) ∧ Kd.R (Kd.int .i64) 3 w' w.heap.size (fun _ => True) v0_ r ∧ Below w.heap.size w w' := by
 have hu85 := Try.underlying85
 have hu91 := Try.underlying91
 have HR0 := Aside0.mk hr0; have HC0 := Aside0.mk hc0; clear hr0 hc0
 have HB := Aside0.mk (Below.refl w.heap.size w)
 have H : (impl_refusedBy.l0 k l0 (([] : List Int)) 0 a1_0 a1_1 a1_2) = some r := h
 clear h
 obtain ⟨y224, hy_⟩ : ∃ y_ : List Int, y_ = (([] : List Int)) := ⟨_, rfl⟩
 replace H : (impl_refusedBy.l0 k l0 y224 0 a1_0 a1_1 a1_2) = some r := yH
 have Ny224 := ak hy_; clear hy_
 have H' := Aside0.mk H
 clear H
 go_enter Try.func146, Try.ntmps146
 go_wp2_with (first | ((with_reducible refine gate_dst (N := 3) rfl ?_); refine boxev 3 #[.int .i64 a1_0, .int .i64 a1_1, .int .i64 a1_2] 85 ?_; intro gb223 hg w3 hbox hb; have BK223 := ak (hbox); have GW223 := ak (hgl hg (belowd HB)); have GE223 := ak (hgl hg (belowd HB)); replace HB := ak (below_step (belowd HB) hb); clear hb hbox hg) | ((with_reducible refine gate_dst (N := 7) rfl ?_); refine Kd.R_lit (Kd.int .i64) _ 3 ?hg (N := 7) ?hd (xs := ([] : List Int)) (inner := []) (ok := fun _ => True) (okp := fun _ => True) ?hr ?hp (fun _ hk => hk) trivial (Below.refl _ _) (Nat.le_refl _) (by simp) ?_; (case hd => rfl); (case hg => rfl); (case hr => first | (go_simp; done) | (go_simp; rfl)); (case hp => exact (Reps.none _ _)); intro v225 w4 ho5 hb hg_ hnew_; clear hg_ hnew_; (first | rw [← Ny224.out] at ho5 | (simp only [Int.reduceToNat] at ho5; rw [← Ny224.out] at ho5)); have HO226 := ak (Kd.R_lower ho5 (below_size (belowg1 HB GE223))); replace BK223 := ak (blk_below (blkd BK223) hb); replace HB := ak (below_step (belowg1 HB GE223) hb); clear hb ho5))
 go_loopg [5, 8] k (fun kq v5 v8 w' => ∃ (x5_1 : List Int) (x8_1 : Int), v8 = .int .i64 x8_1 ∧ Aside0 (impl_refusedBy.l0 kq l0 x5_1 x8_1 a1_0 a1_1 a1_2 = some r) ∧ Aside0 (kq ≤ k) ∧ Aside0 (Kd.R (Kd.int .i64) 3 w' w.heap.size (fun _ => True) v5 x5_1) ∧ Aside0 (w'.heap[gb223]? = some (.cells #[.int .i64 a1_0, .int .i64 a1_1, .int .i64 a1_2] 85 (0, 0))) ∧ Aside0 (Below w.heap.size w w'))
 case atStart => exact ⟨(y224), (0), er, H', ⟨Nat.le_refl _⟩, ⟨rdl HO226⟩, ⟨blkd BK223⟩, ⟨belowg1 HB GE223⟩⟩
 case round =>
  clear H'
  obtain ⟨x5_1, x8_1, rfl, HA, HK1, HO_5, BK223, HB⟩ := hrel
  cases gk with
  | zero => exact absurd HA.out (by simp [impl_refusedBy.l0])
  | succ k1 =>
   have H := HA.out; clear HA
   simp only [impl_refusedBy.l0] at H
   by_cases c6 : x8_1 < 7
   ·rw [if_pos c6] at H
    have c6b0 : decide (x8_1 < 7) = true := decide_eq_true c6
    clear c6; replace H := bS H; obtain ⟨t227, A7, H⟩ := H
    replace H : (if t227 = true then ((impl_Statement_144.f k1 l0 x8_1 a1_0 a1_1 a1_2 false).bind fun t228 => (if t228 = true then (impl_refusedBy.l0 k1 l0 x5_1 (wrap64 (x8_1 + 1)) a1_0 a1_1 a1_2) else (if x5_1.length < 17592186044416 then (impl_refusedBy.l0 k1 l0 (x5_1 ++ [x8_1]) (wrap64 (x8_1 + 1)) a1_0 a1_1 a1_2) else (none)))) else (impl_refusedBy.l0 k1 l0 x5_1 (wrap64 (x8_1 + 1)) a1_0 a1_1 a1_2)) = some r := H
    by_cases c8 : t227 = true
    ·subst c8
     have H1 : ((impl_Statement_144.f k1 l0 x8_1 a1_0 a1_1 a1_2 false).bind fun t228 => (if t228 = true then (impl_refusedBy.l0 k1 l0 x5_1 (wrap64 (x8_1 + 1)) a1_0 a1_1 a1_2) else (if x5_1.length < 17592186044416 then (impl_refusedBy.l0 k1 l0 (x5_1 ++ [x8_1]) (wrap64 (x8_1 + 1)) a1_0 a1_1 a1_2) else (none)))) = some r := by rw [if_pos rfl] at H; exact H
     clear H
     have H := H1
     clear H1; replace H := bS H; obtain ⟨t228, A9, H⟩ := H
     replace H : (if t228 = true then (impl_refusedBy.l0 k1 l0 x5_1 (wrap64 (x8_1 + 1)) a1_0 a1_1 a1_2) else (if x5_1.length < 17592186044416 then (impl_refusedBy.l0 k1 l0 (x5_1 ++ [x8_1]) (wrap64 (x8_1 + 1)) a1_0 a1_1 a1_2) else (none))) = some r := H
     by_cases c10 : t228 = true
     ·subst c10
      have H1 : (impl_refusedBy.l0 k1 l0 x5_1 (wrap64 (x8_1 + 1)) a1_0 a1_1 a1_2) = some r := by rw [if_pos rfl] at H; exact H
      clear H
      have H := H1
      clear H1
      have H' := Aside0.mk H
      clear H; obtain ⟨hcz11_0, hcz11_1, hcz11_2, hfz11_0, hfz11_1, hfz11_2⟩ := box3 BK223
      go_wp2_with (first | ((with_reducible refine gate_callee (f := 144) rfl ?_); refine goesLa (some 15) rfl Try.func144 #[.slice A0 l0.length c0, .agg #[.int .i64 x8_1, .int .i64 a1_0, .int .i64 a1_1, .int .i64 a1_2, .bool true]] rfl ?_; (with_reducible refine (impl_Statement_144.calls k1 _ _ l0 x8_1 a1_0 a1_1 a1_2 true true _ ?side1 ?side2 A7.out).mono ?_); (case side1 => exact cd (Kd.C_below HR0.out HB.out)); (case side2 => exact HC0.out); rintro e w12 ⟨rfl, hb⟩; refine ⟨_, rfl, ?_⟩; replace HO_5 := ak (Kd.R_below (rdl HO_5) hb); replace BK223 := ak (blk_below (blkd BK223) hb); replace HB := ak (below_step (belowg1 HB GE223) hb); (try clear hb); obtain ⟨hcz13_0, hcz13_1, hcz13_2, hfz13_0, hfz13_1, hfz13_2⟩ := box3 BK223) | (go_at_call 144; (with_reducible refine (impl_Statement_144.calls k1 _ _ l0 x8_1 a1_0 a1_1 a1_2 false true _ ?side1 ?side2 A9.out).mono ?_); (case side1 => exact cd (Kd.C_below HR0.out HB.out)); (case side2 => exact HC0.out); rintro e w14 ⟨rfl, hb⟩; replace HO_5 := ak (Kd.R_below (rdl HO_5) hb); replace BK223 := ak (blk_below (blkd BK223) hb); replace HB := ak (below_step (belowg1 HB GE223) hb); (try clear hb)))
      go_roundg k1
      case measure => have := HK1.out; omega
      case rel => exact ⟨(x5_1), (wrap64 (x8_1 + 1)), er, H', ⟨by have := HK1.out; omega⟩, ⟨rdl HO_5⟩, ⟨blkd BK223⟩, ⟨belowg1 HB GE223⟩⟩
     ·replace c10 := Bool.eq_false_iff.mpr c10
      subst c10
      have H1 : (if x5_1.length < 17592186044416 then (impl_refusedBy.l0 k1 l0 (x5_1 ++ [x8_1]) (wrap64 (x8_1 + 1)) a1_0 a1_1 a1_2) else (none)) = some r := by rw [if_neg (show ¬ (false = true) by decide)] at H; exact H
      clear H
      have H := H1
      clear H1; replace H := ifS H; obtain ⟨c15, H⟩ := H; have LMc15 := Aside0.mk c15; clear c15
      obtain ⟨y229, hy_⟩ : ∃ y_ : List Int, y_ = (x5_1 ++ [x8_1]) := ⟨_, rfl⟩
      replace H : (impl_refusedBy.l0 k1 l0 y229 (wrap64 (x8_1 + 1)) a1_0 a1_1 a1_2) = some r := yH
      have Ny229 := ak hy_; clear hy_
      have H' := Aside0.mk H
      clear H; obtain ⟨hcz16_0, hcz16_1, hcz16_2, hfz16_0, hfz16_1, hfz16_2⟩ := box3 BK223
      go_wp2_with (first | ((with_reducible refine gate_callee (f := 144) rfl ?_); refine goesLa (some 15) rfl Try.func144 #[.slice A0 l0.length c0, .agg #[.int .i64 x8_1, .int .i64 a1_0, .int .i64 a1_1, .int .i64 a1_2, .bool true]] rfl ?_; (with_reducible refine (impl_Statement_144.calls k1 _ _ l0 x8_1 a1_0 a1_1 a1_2 true true _ ?side1 ?side2 A7.out).mono ?_); (case side1 => exact cd (Kd.C_below HR0.out HB.out)); (case side2 => exact HC0.out); rintro e w17 ⟨rfl, hb⟩; refine ⟨_, rfl, ?_⟩; replace HO_5 := ak (Kd.R_below (rdl HO_5) hb); replace BK223 := ak (blk_below (blkd BK223) hb); replace HB := ak (below_step (belowg1 HB GE223) hb); (try clear hb); obtain ⟨hcz18_0, hcz18_1, hcz18_2, hfz18_0, hfz18_1, hfz18_2⟩ := box3 BK223) | (go_at_call 144; (with_reducible refine (impl_Statement_144.calls k1 _ _ l0 x8_1 a1_0 a1_1 a1_2 false false _ ?side1 ?side2 A9.out).mono ?_); (case side1 => exact cd (Kd.C_below HR0.out HB.out)); (case side2 => exact HC0.out); rintro e w19 ⟨rfl, hb⟩; replace HO_5 := ak (Kd.R_below (rdl HO_5) hb); replace BK223 := ak (blk_below (blkd BK223) hb); replace HB := ak (below_step (belowg1 HB GE223) hb); (try clear hb)) | ((with_reducible refine gate_builtin (b := .append) (xs := #[.tmp 24, .tmp 26]) rfl ?_); at_builtin; refine Kd.R_append (Kd.int .i64) (w0 := w) w.heap.size rfl (.tmp 24) (.tmp 26) 23 3 (.int .i64 0) 8 rfl Try.underlying23 info3 rfl (by decide) (by omega) u5 x5_1 x8_1 [.int .i64 x8_1] (fun _ => True) (fun _ => False) rfl rfl ?aP (fun _ hk => hk.elim) ?aF ?aO ?aB ?aS ?aL ?_; (case aP => exact rfl); (case aB => exact (belowg1 HB GE223)); (case aF => exact (fun _ _ => trivial)); (case aO => exact (rdl HO_5)); (case aS => exact (below_size (belowg1 HB GE223))); (case aL => have := LMc15.out; omega); intro v230 w20 ho hb hg hat; rw [← Ny229.out] at ho; replace BK223 := ak (blk_grown (blkd BK223) hg (Kd.R_ne HO_5.out BK223.out (by decide))); replace HB := ak (hb); have HO231 := ak (ho); clear HO_5; clear ho hb hg hat))
      go_roundg k1
      case measure => have := HK1.out; omega
      case rel => exact ⟨(y229), (wrap64 (x8_1 + 1)), er, H', ⟨by have := HK1.out; omega⟩, ⟨rdl HO231⟩, ⟨blkd BK223⟩, ⟨belowg1 HB GE223⟩⟩
    ·replace c8 := Bool.eq_false_iff.mpr c8
     subst c8
     have H1 : (impl_refusedBy.l0 k1 l0 x5_1 (wrap64 (x8_1 + 1)) a1_0 a1_1 a1_2) = some r := by rw [if_neg (show ¬ (false = true) by decide)] at H; exact H
     clear H
     have H := H1
     clear H1
     have H' := Aside0.mk H
     clear H; obtain ⟨hcz21_0, hcz21_1, hcz21_2, hfz21_0, hfz21_1, hfz21_2⟩ := box3 BK223
     go_wp2_with (first | ((with_reducible refine gate_callee (f := 144) rfl ?_); refine goesLa (some 15) rfl Try.func144 #[.slice A0 l0.length c0, .agg #[.int .i64 x8_1, .int .i64 a1_0, .int .i64 a1_1, .int .i64 a1_2, .bool true]] rfl ?_; (with_reducible refine (impl_Statement_144.calls k1 _ _ l0 x8_1 a1_0 a1_1 a1_2 true false _ ?side1 ?side2 A7.out).mono ?_); (case side1 => exact cd (Kd.C_below HR0.out HB.out)); (case side2 => exact HC0.out); rintro e w22 ⟨rfl, hb⟩; refine ⟨_, rfl, ?_⟩; replace HO_5 := ak (Kd.R_below (rdl HO_5) hb); replace BK223 := ak (blk_below (blkd BK223) hb); replace HB := ak (below_step (belowg1 HB GE223) hb); (try clear hb)))
     go_roundg k1
     case measure => have := HK1.out; omega
     case rel => exact ⟨(x5_1), (wrap64 (x8_1 + 1)), er, H', ⟨by have := HK1.out; omega⟩, ⟨rdl HO_5⟩, ⟨blkd BK223⟩, ⟨belowg1 HB GE223⟩⟩
   ·rw [if_neg c6] at H
    have c6b0 : decide (x8_1 < 7) = false := decide_eq_false c6
    clear c6
    obtain rfl := Option.some.inj H
    go_wp2
    go_ret
    exact ⟨_, er2, by (with_reducible repeat (first | apply Kd.R_alloc | apply Kd.R_drewN | apply Kd.R_drew)); exact HO_5.out, belowg1 HB GE223⟩

/-! ### impl_debits: function 155 -/
def impl_debits.l0 : Nat → Int → List (S91) → Int → List (S85) → List (S85) → Int → Int → Option ((List (S85)))
  | 0, _, _, _, _, _, _, _ => none
  | k + 1, x0, x1, x2, x7, x12, x13, x14 => if x14 < x13 then (if 0 ≤ x14 then (if x14 < (x12.length : Int) then (if ((rd_T85 x12 x14).f0) = x2 then ((impl_refusedBy.f k x1 ((rd_T85 x12 x14).f0) ((rd_T85 x12 x14).f1) ((rd_T85 x12 x14).f2)).bind fun t240 => (if (t240.length : Int) > x0 then (if x7.length < 5864062014805 then (impl_debits.l0 k x0 x1 x2 (x7 ++ [(⟨(rd_T85 x12 x14).f0, (rd_T85 x12 x14).f1, (rd_T85 x12 x14).f2⟩ : S85)]) x12 x13 (wrap64 (x14 + 1))) else (none)) else (impl_debits.l0 k x0 x1 x2 x7 x12 x13 (wrap64 (x14 + 1))))) else (impl_debits.l0 k x0 x1 x2 x7 x12 x13 (wrap64 (x14 + 1)))) else (none)) else (none)) else (some x7)
def impl_debits.f (k : Nat) (a0 : Int) (l1 : List (S91)) (a2 : Int) : Option ((List (S85))) := (impl_claimsIn.f k l1).bind fun t235 => (impl_debits.l0 k a0 l1 a2 (([] : List (S85))) t235 (t235.length : Int) 0)
theorem impl_debits.mono_l : ∀ k, (∀ y0 y1 y2 y3 y4 y5 y6, LeO (impl_debits.l0 k y0 y1 y2 y3 y4 y5 y6) (impl_debits.l0 (k + 1) y0 y1 y2 y3 y4 y5 y6))
 | 0 => fun _ _ _ _ _ _ _ r h => by simp [impl_debits.l0] at h
 | k + 1 => by
  have ih0 := impl_debits.mono_l k
  ·intro y0 y1 y2 y3 y4 y5 y6
   unfold impl_debits.l0
   repeat' (first | (with_reducible first | exact ih0 _ _ _ _ _ _ _ | exact impl_claimsIn.mono _ _ | exact impl_refusedBy.mono _ _ _ _ _ | exact LeO.refl _ | exact LeO.none _ | refine LeO.ite ?_ ?_ | refine LeO.bind ?_ (fun _ => ?_)) | exact ih0 _ _ _ _ _ _ _ | exact impl_claimsIn.mono _ _ | exact impl_refusedBy.mono _ _ _ _ _ | exact LeO.none _ | refine LeO.ite ?_ ?_ | refine LeO.bind ?_ (fun _ => ?_))
theorem impl_debits.mono : ∀ a0 a1 a2 k, LeO (impl_debits.f k a0 a1 a2) (impl_debits.f (k + 1) a0 a1 a2) := by
 intro a0 a1 a2 k
 have ih0 := impl_debits.mono_l k
 unfold impl_debits.f
 repeat' (first | (with_reducible first | exact ih0 _ _ _ _ _ _ _ | exact impl_claimsIn.mono _ _ | exact impl_refusedBy.mono _ _ _ _ _ | exact LeO.refl _ | exact LeO.none _ | refine LeO.ite ?_ ?_ | refine LeO.bind ?_ (fun _ => ?_)) | exact ih0 _ _ _ _ _ _ _ | exact impl_claimsIn.mono _ _ | exact impl_refusedBy.mono _ _ _ _ _ | exact LeO.none _ | refine LeO.ite ?_ ?_ | refine LeO.bind ?_ (fun _ => ?_))
set_option maxHeartbeats 8000000 in
set_option maxRecDepth 100000 in
theorem impl_debits.calls (k : Nat) (a0 : Int) (A1 : Option Addr) (c1 : Nat) (l1 : List (S91)) (a2 : Int) (r : List (S85)) (w : World) (hr1 : Kd.C k91 w A1 l1.length l1) (hc1 : l1.length ≤ c1) (h : impl_debits.f k a0 l1 a2 = some r) :
  Calls Try.prog 155 #[.int .i64 a0, .slice A1 l1.length c1, .int .i64 a2] w fun e w' => ∃ v0_ : Value, e = .returned (v0_) ∧ Kd.R k85 85 w' w.heap.size (fun _ => True) v0_ r ∧ Below w.heap.size w w' := by
 have hu85 := Try.underlying85
 have HR1 := Aside0.mk hr1; have HC1 := Aside0.mk hc1; clear hr1 hc1
 have HB := Aside0.mk (Below.refl w.heap.size w)
 have H : ((impl_claimsIn.f k l1).bind fun t235 => (impl_debits.l0 k a0 l1 a2 (([] : List (S85))) t235 (t235.length : Int) 0)) = some r := h
 clear h
 obtain ⟨y232, hy_⟩ : ∃ y_ : List (S85), y_ = (([] : List (S85))) := ⟨_, rfl⟩
 replace H : ((impl_claimsIn.f k l1).bind fun t235 => (impl_debits.l0 k a0 l1 a2 y232 t235 (t235.length : Int) 0)) = some r := yH
 have Ny232 := ak hy_; clear hy_; replace H := bS H; obtain ⟨t235, A4, H⟩ := H
 replace H : (impl_debits.l0 k a0 l1 a2 y232 t235 (t235.length : Int) 0) = some r := H
 have H' := Aside0.mk H
 clear H
 go_enter Try.func155, Try.ntmps155
 go_wp2_with (first | ((with_reducible refine gate_dst (N := 10) rfl ?_); (try (refine gate_guard (by rfl) ?_; dsimp only)); refine Kd.R_lit k85 _ 85 ?hg (N := 10) ?hd (xs := ([] : List (S85))) (inner := []) (ok := fun _ => True) (okp := fun _ => True) ?hr ?hp (fun _ hk => hk) trivial (Below.refl _ _) (Nat.le_refl _) (by simp) ?_; (case hd => rfl); (case hg => rfl); (case hr => first | (go_simp; done) | (go_simp; rfl)); (case hp => exact (Reps.none _ _)); intro v233 w5 ho6 hb hg_ hnew_; clear hg_ hnew_; (first | rw [← Ny232.out] at ho6 | (simp only [Int.reduceToNat] at ho6; rw [← Ny232.out] at ho6)); have HO234 := ak (Kd.R_lower ho6 (below_size (belowd HB))); replace HB := ak (below_step (belowd HB) hb); clear hb ho6) | ((with_reducible refine gate_callee (f := 139) rfl ?_); refine goesLa (some 12) rfl Try.func139 #[.slice A1 l1.length c1] rfl ?_; (with_reducible refine (impl_claimsIn.calls k _ _ l1 t235 _ ?side1 ?side2 A4.out).mono ?_); (case side1 => exact cd (Kd.C_below HR1.out HB.out)); (case side2 => exact HC1.out); rintro e w7 ⟨v236, rfl, ho0, hb⟩; refine ⟨_, rfl, ?_⟩; have HO237 := ak (Kd.R_lower (Kd.R_new' ho0 (Kd.R_lt (rdl HO234))) (below_size (belowd HB))); replace HO234 := ak (Kd.R_elder' (rdl HO234) (Kd.R_base ho0) hb); replace HB := ak (below_step (belowd HB) hb); (try clear hb); (try clear ho0); obtain ⟨Ao8, co8, eo8⟩ := Kd.R_slice HO237.out; subst eo8))
 go_loopg [7, 14] k (fun kq v7 v14 w' => ∃ (x7_1 : List (S85)) (x14_1 : Int), v14 = .int .i64 x14_1 ∧ Aside0 (impl_debits.l0 kq a0 l1 a2 x7_1 t235 (t235.length : Int) x14_1 = some r) ∧ Aside0 (kq ≤ k) ∧ Aside0 (Kd.R k85 85 w' w.heap.size (fun k_ => some k_ ≠ ((.slice Ao8 t235.length co8) : Value).ownBlock) v7 x7_1) ∧ Aside0 (Kd.R k85 85 w' w.heap.size (fun k_ => some k_ ≠ (v7 : Value).ownBlock) (.slice Ao8 t235.length co8) t235) ∧ Aside0 (Below w.heap.size w w'))
 case atStart => exact ⟨(y232), (0), er, H', ⟨Nat.le_refl _⟩, ⟨by (with_reducible repeat (first | apply Kd.R_alloc | apply Kd.R_drewN | apply Kd.R_drew)); exact Kd.R_mono HO234.out (fun _ hk => hk.2)⟩, ⟨by (with_reducible repeat (first | apply Kd.R_alloc | apply Kd.R_drewN | apply Kd.R_drew)); exact Kd.R_mono HO237.out (fun _ hk => hk.2)⟩, ⟨belowd HB⟩⟩
 case round =>
  clear H'
  (try clear c1)
  obtain ⟨x7_1, x14_1, rfl, HA, HK1, HO_7, HO_12, HB⟩ := hrel
  cases gk with
  | zero => exact absurd HA.out (by simp [impl_debits.l0])
  | succ k1 =>
   have H := HA.out; clear HA
   simp only [impl_debits.l0] at H
   by_cases c9 : x14_1 < (t235.length : Int)
   ·rw [if_pos c9] at H
    have c9b0 : decide (x14_1 < (t235.length : Int)) = true := decide_eq_true c9
    clear c9; replace H := ifS H; obtain ⟨c10, H⟩ := H; have c10b0 := decide_eq_true c10; clear c10; replace H := ifS H; obtain ⟨c11, H⟩ := H; have c11b0 := decide_eq_true c11; clear c11
    by_cases c12 : ((rd_T85 t235 x14_1).f0) = a2
    ·rw [if_pos c12] at H
     have c12b0 : (((rd_T85 t235 x14_1).f0) == a2) = true := beq_iff_eq.mpr c12
     have c12b1 : (((rd_T85 t235 x14_1).f0) != a2) = false := bne_eq_false_iff_eq.mpr c12
     clear c12; replace H := bS H; obtain ⟨t240, A13, H⟩ := H
     replace H : (if (t240.length : Int) > a0 then (if x7_1.length < 5864062014805 then (impl_debits.l0 k1 a0 l1 a2 (x7_1 ++ [(⟨(rd_T85 t235 x14_1).f0, (rd_T85 t235 x14_1).f1, (rd_T85 t235 x14_1).f2⟩ : S85)]) t235 (t235.length : Int) (wrap64 (x14_1 + 1))) else (none)) else (impl_debits.l0 k1 a0 l1 a2 x7_1 t235 (t235.length : Int) (wrap64 (x14_1 + 1)))) = some r := H
     by_cases c14 : (t240.length : Int) > a0
     ·rw [if_pos c14] at H
      have c14b0 : decide (a0 < (t240.length : Int)) = true := decide_eq_true c14
      clear c14; replace H := ifS H; obtain ⟨c15, H⟩ := H; have LMc15 := Aside0.mk c15; clear c15
      obtain ⟨y243, hy_⟩ : ∃ y_ : List (S85), y_ = (x7_1 ++ [(⟨(rd_T85 t235 x14_1).f0, (rd_T85 t235 x14_1).f1, (rd_T85 t235 x14_1).f2⟩ : S85)]) := ⟨_, rfl⟩
      replace H : (impl_debits.l0 k1 a0 l1 a2 y243 t235 (t235.length : Int) (wrap64 (x14_1 + 1))) = some r := yH
      have Ny243 := ak hy_; clear hy_
      have H' := Aside0.mk H
      clear H
      have p238 : 0 ≤ (x14_1 : Int) := da
      have q238 : x14_1 < (t235.length : Int) := da
      obtain ⟨ad238, e238, hx238_0, hx238_1, hx238_2⟩ := at_T85 (Kd.R_reads' HO_12.out).2.2 x14_1 p238 q238
      cases e238
      replace p238 := eq_true p238; replace q238 := eq_true q238
      go_wp2_with (first | ((with_reducible refine gate_dst (N := 9) rfl ?_); (try (refine gate_guard (by rfl) ?_; dsimp only)); refine boxev 9 #[.int .i64 0, .int .i64 0, .int .i64 0] 85 ?_; intro gb239 hg w16 hbox hb; replace HO_7 := ak (Kd.R_below (Kd.R_elderB (rdl HO_7) gb239 (Nat.le_of_eq hg.symm)) hb); replace HO_12 := ak (Kd.R_below (Kd.R_elderB (rdl HO_12) gb239 (Nat.le_of_eq hg.symm)) hb); have BK239 := ak (hbox); have GW239 := ak (hgl hg (belowd HB)); have GE239 := ak (hgl hg (belowd HB)); replace HB := ak (below_step (belowd HB) hb); clear hb hbox hg; obtain ⟨hcz17_0, hcz17_1, hcz17_2, hfz17_0, hfz17_1, hfz17_2⟩ := box3 BK239) | (go_at_call 146; (with_reducible refine (impl_refusedBy.calls k1 _ _ l1 ((rd_T85 t235 x14_1).f0) ((rd_T85 t235 x14_1).f1) ((rd_T85 t235 x14_1).f2) t240 _ ?side1 ?side2 A13.out).mono ?_); (case side1 => exact Kd.C_below HR1.out (belowg1 HB GE239)); (case side2 => exact HC1.out); rintro e w18 ⟨v241, rfl, ho0, hb⟩; replace HO_7 := ak (Kd.R_below (by (with_reducible repeat (first | apply Kd.R_alloc | apply Kd.R_drewN | apply Kd.R_drew)); exact (Kd.R_mono (farsR (Kd.R_mono HO_7.out (fun k_ hk => (⟨hk, hk.2⟩ : _ ∧ k_ ≠ gb239)))) (fun _ h_ => h_.1))) hb); replace HO_12 := ak (Kd.R_below (by (with_reducible repeat (first | apply Kd.R_alloc | apply Kd.R_drewN | apply Kd.R_drew)); exact (Kd.R_mono (farsR (Kd.R_mono HO_12.out (fun k_ hk => (⟨hk, hk.2⟩ : _ ∧ k_ ≠ gb239)))) (fun _ h_ => h_.1))) hb); have HO242 := ak (Kd.R_lower ho0 (below_size (belowg1 HB GE239))); replace BK239 := ak (blk_below (g := gb239) (o := .cells #[.int .i64 ((rd_T85 t235 x14_1).f0), .int .i64 ((rd_T85 t235 x14_1).f1), .int .i64 ((rd_T85 t235 x14_1).f2)] 85 (0, 0)) (by (with_reducible repeat (first | refine blk_drewN ?_ _ | refine blk_drew ?_ | refine blk_alloc ?_ _)); refine blk_put (cs := #[.int .i64 ((rd_T85 t235 x14_1).f0), .int .i64 ((rd_T85 t235 x14_1).f1), .int .i64 0]) ?_ 2 _ rfl; (with_reducible repeat (first | refine blk_drewN ?_ _ | refine blk_drew ?_ | refine blk_alloc ?_ _)); refine blk_put (cs := #[.int .i64 ((rd_T85 t235 x14_1).f0), .int .i64 0, .int .i64 0]) ?_ 1 _ rfl; (with_reducible repeat (first | refine blk_drewN ?_ _ | refine blk_drew ?_ | refine blk_alloc ?_ _)); refine blk_put (cs := #[.int .i64 0, .int .i64 0, .int .i64 0]) ?_ 0 _ rfl; (with_reducible repeat (first | refine blk_drewN ?_ _ | refine blk_drew ?_ | refine blk_alloc ?_ _)); exact BK239.out) hb); replace HB := ak (below_step (belowg1 HB GE239) hb); (try clear hb); (try clear ho0); obtain ⟨Ao19, co19, eo19⟩ := Kd.R_slice HO242.out; subst eo19; obtain ⟨hcz20_0, hcz20_1, hcz20_2, hfz20_0, hfz20_1, hfz20_2⟩ := box3 BK239) | ((with_reducible refine gate_builtin (b := .append) (xs := #[.tmp 30, .tmp 32]) rfl ?_); (try (refine gate_guard (by rfl) ?_; dsimp only)); at_builtin; refine Kd.R_append k85 (w0 := w) w.heap.size rfl (.tmp 30) (.tmp 32) 70 85 (.agg #[(.int .i64 0), (.int .i64 0), (.int .i64 0)]) 24 rfl Try.underlying70 info85 rfl (by decide) (by omega) u7 x7_1 (⟨(rd_T85 t235 x14_1).f0, (rd_T85 t235 x14_1).f1, (rd_T85 t235 x14_1).f2⟩ : S85) [.int .i64 ((rd_T85 t235 x14_1).f0), .int .i64 ((rd_T85 t235 x14_1).f1), .int .i64 ((rd_T85 t235 x14_1).f2)] (fun k_ => some k_ ≠ (.slice (some ad238) t235.length co8 : Value).ownBlock ∧ k_ ≠ gb239) (fun _ => False) rfl rfl ?aP (fun _ hk => hk.elim) ?aF ?aO ?aB ?aS ?aL ?_; (case aP => exact k85_mkM _ _ _ (⟨(rd_T85 t235 x14_1).f0, (rd_T85 t235 x14_1).f1, (rd_T85 t235 x14_1).f2⟩ : S85)); (case aB => exact (belowg1 HB GE239)); (case aF => exact (fun k_ hk => ⟨Kd.fresh' (Kd.R_lt (rdl HO_12)) k_ hk, Kd.freshB (blkd BK239) k_ hk⟩)); (case aO => exact (rdl HO_7)); (case aS => exact (below_size (belowg1 HB GE239))); (case aL => have := LMc15.out; omega); intro v244 w21 ho hb hg hat; rw [← Ny243.out] at ho; replace HO_12 := ak (Kd.R_after (ok := (fun k_ => k_ ≠ gb239)) (by (with_reducible repeat (first | apply Kd.R_alloc | apply Kd.R_drewN | apply Kd.R_drew)); exact Kd.R_mono HO_12.out (fun _ hk => ⟨hk.2, hk.1⟩)) hg hat); replace BK239 := ak (blk_grown (blkd BK239) hg (Kd.R_away HO_7.out (fun _ hk => hk.2))); replace HO242 := ak (Kd.R_over' (rdl HO242) (Kd.R_typed (rdl HO_7)) (by decide) hg); replace HB := ak (hb); have HO245 := ak (ho); clear HO_7; clear ho hb hg hat))
      go_roundg k1
      case measure => have := HK1.out; omega
      case rel => exact ⟨(y243), (wrap64 (x14_1 + 1)), er, H', ⟨by have := HK1.out; omega⟩, ⟨by (with_reducible repeat (first | apply Kd.R_alloc | apply Kd.R_drewN | apply Kd.R_drew)); exact Kd.R_mono HO245.out (fun _ hk => hk.1)⟩, ⟨by (with_reducible repeat (first | apply Kd.R_alloc | apply Kd.R_drewN | apply Kd.R_drew)); exact Kd.R_mono HO_12.out (fun _ hk => hk.2)⟩, ⟨belowg1 HB GE239⟩⟩
     ·rw [if_neg c14] at H
      have c14b0 : decide (a0 < (t240.length : Int)) = false := decide_eq_false c14
      clear c14
      have H' := Aside0.mk H
      clear H
      have p238 : 0 ≤ (x14_1 : Int) := da
      have q238 : x14_1 < (t235.length : Int) := da
      obtain ⟨ad238, e238, hx238_0, hx238_1, hx238_2⟩ := at_T85 (Kd.R_reads' HO_12.out).2.2 x14_1 p238 q238
      cases e238
      replace p238 := eq_true p238; replace q238 := eq_true q238
      go_wp2_with (first | ((with_reducible refine gate_dst (N := 9) rfl ?_); (try (refine gate_guard (by rfl) ?_; dsimp only)); refine boxev 9 #[.int .i64 0, .int .i64 0, .int .i64 0] 85 ?_; intro gb239 hg w22 hbox hb; replace HO_7 := ak (Kd.R_below (Kd.R_elderB (rdl HO_7) gb239 (Nat.le_of_eq hg.symm)) hb); replace HO_12 := ak (Kd.R_below (Kd.R_elderB (rdl HO_12) gb239 (Nat.le_of_eq hg.symm)) hb); have BK239 := ak (hbox); have GW239 := ak (hgl hg (belowd HB)); have GE239 := ak (hgl hg (belowd HB)); replace HB := ak (below_step (belowd HB) hb); clear hb hbox hg; obtain ⟨hcz23_0, hcz23_1, hcz23_2, hfz23_0, hfz23_1, hfz23_2⟩ := box3 BK239) | (go_at_call 146; (with_reducible refine (impl_refusedBy.calls k1 _ _ l1 ((rd_T85 t235 x14_1).f0) ((rd_T85 t235 x14_1).f1) ((rd_T85 t235 x14_1).f2) t240 _ ?side1 ?side2 A13.out).mono ?_); (case side1 => exact Kd.C_below HR1.out (belowg1 HB GE239)); (case side2 => exact HC1.out); rintro e w24 ⟨v241, rfl, ho0, hb⟩; replace HO_7 := ak (Kd.R_below (by (with_reducible repeat (first | apply Kd.R_alloc | apply Kd.R_drewN | apply Kd.R_drew)); exact (Kd.R_mono (farsR (Kd.R_mono HO_7.out (fun k_ hk => (⟨hk, hk.2⟩ : _ ∧ k_ ≠ gb239)))) (fun _ h_ => h_.1))) hb); replace HO_12 := ak (Kd.R_below (by (with_reducible repeat (first | apply Kd.R_alloc | apply Kd.R_drewN | apply Kd.R_drew)); exact (Kd.R_mono (farsR (Kd.R_mono HO_12.out (fun k_ hk => (⟨hk, hk.2⟩ : _ ∧ k_ ≠ gb239)))) (fun _ h_ => h_.1))) hb); have HO242 := ak (Kd.R_lower ho0 (below_size (belowg1 HB GE239))); replace BK239 := ak (blk_below (g := gb239) (o := .cells #[.int .i64 ((rd_T85 t235 x14_1).f0), .int .i64 ((rd_T85 t235 x14_1).f1), .int .i64 ((rd_T85 t235 x14_1).f2)] 85 (0, 0)) (by (with_reducible repeat (first | refine blk_drewN ?_ _ | refine blk_drew ?_ | refine blk_alloc ?_ _)); refine blk_put (cs := #[.int .i64 ((rd_T85 t235 x14_1).f0), .int .i64 ((rd_T85 t235 x14_1).f1), .int .i64 0]) ?_ 2 _ rfl; (with_reducible repeat (first | refine blk_drewN ?_ _ | refine blk_drew ?_ | refine blk_alloc ?_ _)); refine blk_put (cs := #[.int .i64 ((rd_T85 t235 x14_1).f0), .int .i64 0, .int .i64 0]) ?_ 1 _ rfl; (with_reducible repeat (first | refine blk_drewN ?_ _ | refine blk_drew ?_ | refine blk_alloc ?_ _)); refine blk_put (cs := #[.int .i64 0, .int .i64 0, .int .i64 0]) ?_ 0 _ rfl; (with_reducible repeat (first | refine blk_drewN ?_ _ | refine blk_drew ?_ | refine blk_alloc ?_ _)); exact BK239.out) hb); replace HB := ak (below_step (belowg1 HB GE239) hb); (try clear hb); (try clear ho0); obtain ⟨Ao25, co25, eo25⟩ := Kd.R_slice HO242.out; subst eo25))
      go_roundg k1
      case measure => have := HK1.out; omega
      case rel => exact ⟨(x7_1), (wrap64 (x14_1 + 1)), er, H', ⟨by have := HK1.out; omega⟩, ⟨by (with_reducible repeat (first | apply Kd.R_alloc | apply Kd.R_drewN | apply Kd.R_drew)); exact Kd.R_mono HO_7.out (fun _ hk => hk.1)⟩, ⟨by (with_reducible repeat (first | apply Kd.R_alloc | apply Kd.R_drewN | apply Kd.R_drew)); exact Kd.R_mono HO_12.out (fun _ hk => hk.1)⟩, ⟨belowg1 HB GE239⟩⟩
    ·rw [if_neg c12] at H
     have c12b0 : (((rd_T85 t235 x14_1).f0) == a2) = false := beq_eq_false_iff_ne.mpr c12
     have c12b1 : (((rd_T85 t235 x14_1).f0) != a2) = true := bne_iff_ne.mpr c12
     have H' := Aside0.mk H
     clear H
     have p238 : 0 ≤ (x14_1 : Int) := da
     have q238 : x14_1 < (t235.length : Int) := da
     obtain ⟨ad238, e238, hx238_0, hx238_1, hx238_2⟩ := at_T85 (Kd.R_reads' HO_12.out).2.2 x14_1 p238 q238
     cases e238
     replace p238 := eq_true p238; replace q238 := eq_true q238
     go_wp2_with (first | ((with_reducible refine gate_dst (N := 9) rfl ?_); (try (refine gate_guard (by rfl) ?_; dsimp only)); refine boxev 9 #[.int .i64 0, .int .i64 0, .int .i64 0] 85 ?_; intro gb239 hg w26 hbox hb; replace HO_7 := ak (Kd.R_below (Kd.R_elderB (rdl HO_7) gb239 (Nat.le_of_eq hg.symm)) hb); replace HO_12 := ak (Kd.R_below (Kd.R_elderB (rdl HO_12) gb239 (Nat.le_of_eq hg.symm)) hb); have BK239 := ak (hbox); have GW239 := ak (hgl hg (belowd HB)); have GE239 := ak (hgl hg (belowd HB)); replace HB := ak (below_step (belowd HB) hb); clear hb hbox hg; obtain ⟨hcz27_0, hcz27_1, hcz27_2, hfz27_0, hfz27_1, hfz27_2⟩ := box3 BK239))
     go_roundg k1
     case measure => have := HK1.out; omega
     case rel => exact ⟨(x7_1), (wrap64 (x14_1 + 1)), er, H', ⟨by have := HK1.out; omega⟩, ⟨by (with_reducible repeat (first | apply Kd.R_alloc | apply Kd.R_drewN | apply Kd.R_drew)); exact Kd.R_mono (farsR (Kd.R_mono HO_7.out (fun k_ hk => (⟨hk, hk.2⟩ : _ ∧ k_ ≠ gb239)))) (fun _ hk => hk.1.1)⟩, ⟨by (with_reducible repeat (first | apply Kd.R_alloc | apply Kd.R_drewN | apply Kd.R_drew)); exact Kd.R_mono (farsR (Kd.R_mono HO_12.out (fun k_ hk => (⟨hk, hk.2⟩ : _ ∧ k_ ≠ gb239)))) (fun _ hk => hk.1.1)⟩, ⟨belowg1 HB GE239⟩⟩
   ·rw [if_neg c9] at H
    have c9b0 : decide (x14_1 < (t235.length : Int)) = false := decide_eq_false c9
    clear c9
    obtain rfl := Option.some.inj H
    go_wp2
    go_ret
    exact ⟨_, er2, by (with_reducible repeat (first | apply Kd.R_alloc | apply Kd.R_drewN | apply Kd.R_drew)); exact Kd.R_mono HO_7.out (fun _ hk => trivial), belowd HB⟩

/-! ### impl_DebitsFor: function 67 -/
def impl_DebitsFor.f (k : Nat) (a0 : Int) (l1 : List (S91)) (a2 : Int) : Option ((List (S85)) × Bool) := (impl_areFaults.f a0).bind fun t246 => (if t246 = true then ((impl_areStatements.f k l1).bind fun t247 => (if t247 = true then ((impl_within.f a2 0 20).bind fun t248 => (if t248 = true then ((impl_debits.f k a0 l1 a2).bind fun t249 => (some (t249, true))) else (some (([] : List (S85)), false)))) else (some (([] : List (S85)), false)))) else (some (([] : List (S85)), false)))
theorem impl_DebitsFor.mono : ∀ a0 a1 a2 k, LeO (impl_DebitsFor.f k a0 a1 a2) (impl_DebitsFor.f (k + 1) a0 a1 a2) := by
 intro a0 a1 a2 k
 unfold impl_DebitsFor.f
 repeat' (first | (with_reducible first | exact impl_areStatements.mono _ _ | exact impl_debits.mono _ _ _ _ | exact LeO.refl _ | exact LeO.none _ | refine LeO.ite ?_ ?_ | refine LeO.bind ?_ (fun _ => ?_)) | exact impl_areStatements.mono _ _ | exact impl_debits.mono _ _ _ _ | exact LeO.none _ | refine LeO.ite ?_ ?_ | refine LeO.bind ?_ (fun _ => ?_))
set_option maxHeartbeats 8000000 in
set_option maxRecDepth 100000 in
theorem impl_DebitsFor.calls (k : Nat) (a0 : Int) (A1 : Option Addr) (c1 : Nat) (l1 : List (S91)) (a2 : Int) (r1 : List (S85)) (r2 : Bool) (w : World) (hr1 : Kd.C k91 w A1 l1.length l1) (hc1 : l1.length ≤ c1) (h : impl_DebitsFor.f k a0 l1 a2 = some (r1, r2)) :
  Calls Try.prog 67 #[.int .i64 a0, .slice A1 l1.length c1, .int .i64 a2] w fun e w' => ∃ v0_ : Value, e = .returned (.tuple #[v0_, .bool r2]) ∧ Kd.R k85 85 w' w.heap.size (fun _ => True) v0_ r1 ∧ Below w.heap.size w w' := by
 have HR1 := Aside0.mk hr1; have HC1 := Aside0.mk hc1; clear hr1 hc1
 have HB := Aside0.mk (Below.refl w.heap.size w)
 have H : ((impl_areFaults.f a0).bind fun t246 => (if t246 = true then ((impl_areStatements.f k l1).bind fun t247 => (if t247 = true then ((impl_within.f a2 0 20).bind fun t248 => (if t248 = true then ((impl_debits.f k a0 l1 a2).bind fun t249 => (some (t249, true))) else (some (([] : List (S85)), false)))) else (some (([] : List (S85)), false)))) else (some (([] : List (S85)), false)))) = some (r1, r2) := h
 clear h; replace H := bS H; obtain ⟨t246, A4, H⟩ := H
 replace H : (if t246 = true then ((impl_areStatements.f k l1).bind fun t247 => (if t247 = true then ((impl_within.f a2 0 20).bind fun t248 => (if t248 = true then ((impl_debits.f k a0 l1 a2).bind fun t249 => (some (t249, true))) else (some (([] : List (S85)), false)))) else (some (([] : List (S85)), false)))) else (some (([] : List (S85)), false))) = some (r1, r2) := H
 by_cases c5 : t246 = true
 ·subst c5
  have H1 : ((impl_areStatements.f k l1).bind fun t247 => (if t247 = true then ((impl_within.f a2 0 20).bind fun t248 => (if t248 = true then ((impl_debits.f k a0 l1 a2).bind fun t249 => (some (t249, true))) else (some (([] : List (S85)), false)))) else (some (([] : List (S85)), false)))) = some (r1, r2) := by rw [if_pos rfl] at H; exact H
  clear H
  have H := H1
  clear H1; replace H := bS H; obtain ⟨t247, A6, H⟩ := H
  replace H : (if t247 = true then ((impl_within.f a2 0 20).bind fun t248 => (if t248 = true then ((impl_debits.f k a0 l1 a2).bind fun t249 => (some (t249, true))) else (some (([] : List (S85)), false)))) else (some (([] : List (S85)), false))) = some (r1, r2) := H
  by_cases c7 : t247 = true
  ·subst c7
   have H1 : ((impl_within.f a2 0 20).bind fun t248 => (if t248 = true then ((impl_debits.f k a0 l1 a2).bind fun t249 => (some (t249, true))) else (some (([] : List (S85)), false)))) = some (r1, r2) := by rw [if_pos rfl] at H; exact H
   clear H
   have H := H1
   clear H1; replace H := bS H; obtain ⟨t248, A8, H⟩ := H
   replace H : (if t248 = true then ((impl_debits.f k a0 l1 a2).bind fun t249 => (some (t249, true))) else (some (([] : List (S85)), false))) = some (r1, r2) := H
   by_cases c9 : t248 = true
   ·subst c9
    have H1 : ((impl_debits.f k a0 l1 a2).bind fun t249 => (some (t249, true))) = some (r1, r2) := by rw [if_pos rfl] at H; exact H
    clear H
    have H := H1
    clear H1; replace H := bS H; obtain ⟨t249, A10, H⟩ := H
    replace H : (some (t249, true)) = some (r1, r2) := H
    simp only [Option.some.injEq, Prod.mk.injEq] at H
    obtain ⟨rfl, rfl⟩ := H
    go_enter Try.func67, Try.ntmps67
    go_wp2_with (first | ((with_reducible refine gate_callee (f := 124) rfl ?_); refine goesLa (some 9) rfl Try.func124 #[.int .i64 a0] rfl ?_; (with_reducible refine (impl_areFaults.calls a0 true _ A4.out).mono ?_); rintro e w' ⟨rfl, ⟨nd, rfl⟩⟩; refine ⟨_, rfl, ?_⟩) | (go_at_call 138; (with_reducible refine (impl_areStatements.calls k _ _ l1 true _ ?side1 ?side2 A6.out).mono ?_); (case side1 => exact cd HR1.out); (case side2 => exact HC1.out); rintro e w11 ⟨rfl, hb⟩; replace HB := ak (below_step (belowd HB) hb); (try clear hb)) | (go_at_call 125; (with_reducible refine (impl_within.calls a2 0 20 true _ A8.out).mono ?_); rintro e w' ⟨rfl, ⟨nd, rfl⟩⟩) | ((with_reducible refine gate_callee (f := 155) rfl ?_); refine goesLa (some 24) rfl Try.func155 #[.int .i64 a0, .slice A1 l1.length c1, .int .i64 a2] rfl ?_; (with_reducible refine (impl_debits.calls k a0 _ _ l1 a2 t249 _ ?side1 ?side2 A10.out).mono ?_); (case side1 => exact cd (Kd.C_below HR1.out (belowd HB))); (case side2 => exact HC1.out); rintro e w12 ⟨v250, rfl, ho0, hb⟩; refine ⟨_, rfl, ?_⟩; have HO251 := ak (Kd.R_lower ho0 (below_size (belowd HB))); replace HB := ak (below_step (belowd HB) hb); (try clear hb); (try clear ho0)))
    go_ret2
    exact ⟨_, er2, by (with_reducible repeat (first | apply Kd.R_alloc | apply Kd.R_drewN | apply Kd.R_drew)); exact HO251.out, belowd HB⟩
   ·replace c9 := Bool.eq_false_iff.mpr c9
    subst c9
    have H1 : (some (([] : List (S85)), false)) = some (r1, r2) := by rw [if_neg (show ¬ (false = true) by decide)] at H; exact H
    clear H
    have H := H1
    clear H1
    simp only [Option.some.injEq, Prod.mk.injEq] at H
    obtain ⟨rfl, rfl⟩ := H
    go_enter Try.func67, Try.ntmps67
    go_wp2_with (first | ((with_reducible refine gate_callee (f := 124) rfl ?_); refine goesLa (some 9) rfl Try.func124 #[.int .i64 a0] rfl ?_; (with_reducible refine (impl_areFaults.calls a0 true _ A4.out).mono ?_); rintro e w' ⟨rfl, ⟨nd, rfl⟩⟩; refine ⟨_, rfl, ?_⟩) | (go_at_call 138; (with_reducible refine (impl_areStatements.calls k _ _ l1 true _ ?side1 ?side2 A6.out).mono ?_); (case side1 => exact cd HR1.out); (case side2 => exact HC1.out); rintro e w13 ⟨rfl, hb⟩; replace HB := ak (below_step (belowd HB) hb); (try clear hb)) | (go_at_call 125; (with_reducible refine (impl_within.calls a2 0 20 false _ A8.out).mono ?_); rintro e w' ⟨rfl, ⟨nd, rfl⟩⟩))
    go_ret2
    exact ⟨_, er2, by first | exact Kd.R_nil _ _ _ _ _ | exact Kd.N_nil _ _ _ _ _ | exact Kd.V_nil _ _ _ _ _ | exact Kd.Q_nil _ _ _ _ _ | exact Kd.S_nil _ _ _ _ _, belowd HB⟩
  ·replace c7 := Bool.eq_false_iff.mpr c7
   subst c7
   have H1 : (some (([] : List (S85)), false)) = some (r1, r2) := by rw [if_neg (show ¬ (false = true) by decide)] at H; exact H
   clear H
   have H := H1
   clear H1
   simp only [Option.some.injEq, Prod.mk.injEq] at H
   obtain ⟨rfl, rfl⟩ := H
   go_enter Try.func67, Try.ntmps67
   go_wp2_with (first | ((with_reducible refine gate_callee (f := 124) rfl ?_); refine goesLa (some 9) rfl Try.func124 #[.int .i64 a0] rfl ?_; (with_reducible refine (impl_areFaults.calls a0 true _ A4.out).mono ?_); rintro e w' ⟨rfl, ⟨nd, rfl⟩⟩; refine ⟨_, rfl, ?_⟩) | (go_at_call 138; (with_reducible refine (impl_areStatements.calls k _ _ l1 false _ ?side1 ?side2 A6.out).mono ?_); (case side1 => exact cd HR1.out); (case side2 => exact HC1.out); rintro e w14 ⟨rfl, hb⟩; replace HB := ak (below_step (belowd HB) hb); (try clear hb)))
   go_ret2
   exact ⟨_, er2, by first | exact Kd.R_nil _ _ _ _ _ | exact Kd.N_nil _ _ _ _ _ | exact Kd.V_nil _ _ _ _ _ | exact Kd.Q_nil _ _ _ _ _ | exact Kd.S_nil _ _ _ _ _, belowd HB⟩
 ·replace c5 := Bool.eq_false_iff.mpr c5
  subst c5
  have H1 : (some (([] : List (S85)), false)) = some (r1, r2) := by rw [if_neg (show ¬ (false = true) by decide)] at H; exact H
  clear H
  have H := H1
  clear H1
  simp only [Option.some.injEq, Prod.mk.injEq] at H
  obtain ⟨rfl, rfl⟩ := H
  go_enter Try.func67, Try.ntmps67
  go_wp2_with (first | ((with_reducible refine gate_callee (f := 124) rfl ?_); refine goesLa (some 9) rfl Try.func124 #[.int .i64 a0] rfl ?_; (with_reducible refine (impl_areFaults.calls a0 false _ A4.out).mono ?_); rintro e w' ⟨rfl, ⟨nd, rfl⟩⟩; refine ⟨_, rfl, ?_⟩))
  go_ret2
  exact ⟨_, er2, by first | exact Kd.R_nil _ _ _ _ _ | exact Kd.N_nil _ _ _ _ _ | exact Kd.V_nil _ _ _ _ _ | exact Kd.Q_nil _ _ _ _ _ | exact Kd.S_nil _ _ _ _ _, belowd HB⟩

end Go.Proofs.Ytkgogglnipdcfaa.QFnScores
