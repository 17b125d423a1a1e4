-- printed by this session's own program (wip/tools/pp.py: the kit's print.py with changes); Lean checks it
import Derived.Test.YtihekdlcfohkkaaGreatDoorQFnExactStepNetx0
import Derived.Test.YtihekdlcfohkkaaGreatDoorQFnExactStepNetx1
import Derived.Test.YtihekdlcfohkkaaGreatDoorQFnExactStepNetx7
import Derived.Test.YtihekdlcfohkkaaGreatDoorQFnExactStepNetx8
import Derived.Test.YtihekdlcfohkkaaGreatDoorQFnExactStepNetx9
import Derived.Test.YtihekdlcfohkkaaGreatDoorQFnExactStepNetx10
import Derived.Test.YtihekdlcfohkkaaGreatDoorQFnExactStepNetx11
namespace Go.Proofs.YtihekdlcfohkkaaGreatDoor.QFnExactStepNet
open Go.RowKit Go.Proofs.YtihekdlcfohkkaaGreatDoorW.PrintWords Go.Proofs.YtihekdlcfohkkaaGreatDoorW.PrintLast Go.Proofs.YtihekdlcfohkkaaGreatDoorW.PrintMore
attribute [local go_sem] max2_int min2_int max_two min_two max_three min_three max_four min_four strLss strGtr strLeq strGeq   -- for this text's walks alone
set_option linter.unusedVariables false
set_option linter.unusedSimpArgs false

/-! ### impl_Net_step: function 62 -/
def impl_Net_step.T5 : Bool × List (List Nat × List Nat) := (true, [([], []), ([0], [0]), ([1], [1]), ([2], [2]), ([3], [3]), ([4, 3], [3, 4]), ([3], [3]), ([6, 3], [3, 6]), ([7, 3], [3, 7]), ([8, 3], [3, 8]), ([9, 3], [3, 9]), ([10, 3], [3, 10]), ([5, 11, 3, 3], [3, 5, 11]), ([3, 12], [3, 12]), ([13, 12], [13])])
def impl_Net_step.B5 : List Nat := [0, 1, 3, 7, 15, 31, 15, 79, 207, 463, 975, 1999, 4095, 8191, 16383]
theorem impl_Net_step.tab5 : rtab .any (opsOf Tryz.f62 5) = impl_Net_step.T5 := by kernel_rfl
theorem impl_Net_step.bits5 : waitsOk impl_Net_step.T5.2 impl_Net_step.B5 = true := by kernel_rfl
def impl_Net_step.T8 : Bool × List (List Nat × List Nat) := (true, [([], []), ([0], [0]), ([1], [1]), ([2], [2]), ([3], [3]), ([4, 3], [3, 4]), ([3], [3]), ([6, 3], [3, 6]), ([7, 3], [3, 7]), ([8, 3], [3, 8]), ([9, 3], [3, 9]), ([10, 3], [3, 10]), ([11, 3], [3, 11]), ([12, 3], [3, 12]), ([5, 13, 3, 3], [3, 5, 13]), ([3, 14], [3, 14]), ([15, 14], [15])])
def impl_Net_step.B8 : List Nat := [0, 1, 3, 7, 15, 31, 15, 79, 207, 463, 975, 1999, 4047, 8143, 16383, 32767, 65535]
theorem impl_Net_step.tab8 : rtab .any (opsOf Tryz.f62 8) = impl_Net_step.T8 := by kernel_rfl
theorem impl_Net_step.bits8 : waitsOk impl_Net_step.T8.2 impl_Net_step.B8 = true := by kernel_rfl
def impl_Net_step.T9 : Bool × List (List Nat × List Nat) := (true, [([], []), ([], []), ([1], [1]), ([2], [2]), ([3], [3]), ([4], [4]), ([5], [5]), ([], []), ([7], [7]), ([6, 8], [6, 8]), ([9], [9]), ([0, 10], [0, 10])])
def impl_Net_step.B9 : List Nat := [0, 0, 2, 6, 14, 30, 62, 0, 128, 510, 1022, 2047]
theorem impl_Net_step.tab9 : rtab .any (opsOf Tryz.f62 9) = impl_Net_step.T9 := by kernel_rfl
theorem impl_Net_step.bits9 : waitsOk impl_Net_step.T9.2 impl_Net_step.B9 = true := by kernel_rfl
def impl_Net_step.f (k : Nat) (n : Nt) (a b : Int) (x : ByteArray) : Option (Nt × Bool) := if a = 1 then impl_Net_say.f k n b x else if x = (⟨#[]⟩ : ByteArray) then (if a = 2 then (impl_within.f b 0 (wrap64 ((n.ks.length : Int) - 1))).bind fun c => if c = true then (impl_Net_goOn.f k n b).bind fun m => some (m, true) else some (n, false) else if a = 3 then (if 0 < n.ss.length then (impl_within.f b 0 (wrap64 (((n.ss.getD 0 []).length : Int) - 1))).bind fun c => if c = true then (if 0 ≤ b ∧ b < ((n.ss.getD 0 []).length : Int) then (impl_Net_come.f k n 0 (rdOf ByteArray.empty (n.ss.getD 0 []) b)).bind fun m => some (m, true) else none) else some (n, false) else none) else some (n, false)) else some (n, false)
set_option maxHeartbeats 16000000 in
set_option maxRecDepth 100000 in
theorem impl_Net_step.calls {k : Nat} {v0 v1 v2 v3 : Value} {n m : Nt} {a b : Int} {x : ByteArray} {r : Bool} {L : List SA} {w0 w : World} {b0 : Nat} (hs : Sep w0 w (bA b0 #[v0, v1, v2, v3, .int .i64 n.sd] 27 :: netA v0 v1 v2 v3 n ++ L)) (h : impl_Net_step.f k n a b x = some (m, r)) :
    Calls Tryz.prog 62 #[.pointer (some ⟨b0, 0, none⟩), .agg #[.int .i64 a, .int .i64 b, .string x]] w fun e w' => e = .returned (.bool r) ∧ Sep w0 w' (bA b0 #[v0, v1, v2, v3, .int .i64 m.sd] 27 :: netA v0 v1 v2 v3 m ++ L) := by
 have hu27 := Tryz.underlying27
 have hu53 := Tryz.underlying53
 obtain ⟨ks, ps, ss, ib, sd⟩ := n
 have HS : Sep w0 w (bA b0 #[v0, v1, v2, v3, .int .i64 sd] 27 :: rA KI 3 v0 ks :: sA KT 62 v1 ps :: sA KT 62 v2 ss :: sA KT 62 v3 ib :: L) := hs
 clear hs
 unfold impl_Net_step.f at h
 dsimp only at h ⊢
 obtain ⟨A0, c0, rfl⟩ := HS.slR 1
 obtain ⟨A1, c1, rfl⟩ := HS.slS 2
 obtain ⟨A2, c2, rfl⟩ := HS.slS 3
 obtain ⟨A3, c3, rfl⟩ := HS.slS 4
 by_cases a1 : a = 1
 ·rw [if_pos a1] at h
  subst a1
  obtain ⟨ks1, ps1, ss1, ib1, sd1⟩ := m
  have T1 := ak h; clear h
  go_enter Tryz.func62, Tryz.ntmps62
  go_wp2_with (first | ((with_reducible refine gate_dst (N := 3) rfl ?_); refine boxev 3 #[.int .i64 1, .int .i64 b, .string x] 53 ?_; intro b3 hg_ W_ ho_ hb_; replace HS := HS.box hg_ ho_ hb_; clear hg_ ho_ hb_; obtain ⟨z30, z31, z32, f30, f31, f32⟩ := box3 (HS.blk 0); clear z30 z31 z32 f30 f31 f32; obtain ⟨z30, z31, z32, f30, f31, f32⟩ := box3 (HS.blk 0); obtain ⟨z00, z01, z02, z03, z04, f00, f01, f02, f03, f04⟩ := box5 (HS.blk 1)) | (go_at_call 97; have HC_ := impl_Net_say.calls (n := ⟨ks, ps, ss, ib, sd⟩) (HS.fr5.fr5.fr5.fr5.fr5) T1.out; refine HC_.mono ?_; clear HC_; rintro e W_ ⟨rfl, HS'_⟩; clear HS; have HS := HS'_; clear HS'_; dsimp only [netA, List.cons_append, List.nil_append] at HS; clear z30 z31 z32 f30 f31 f32 z00 z01 z02 z03 z04 f00 f01 f02 f03 f04; obtain ⟨z30, z31, z32, f30, f31, f32⟩ := box3 (HS.blk 5); obtain ⟨z00, z01, z02, z03, z04, f00, f01, f02, f03, f04⟩ := box5 (HS.blk 0)))
  go_ret
  replace HS := HS.fr5.tail
  exact ⟨er, HS⟩
 ·rw [if_neg a1] at h
  have ha1 : (a == 1) = false := beq_eq_false_iff_ne.2 a1
  by_cases hx : x = (⟨#[]⟩ : ByteArray)
  ·rw [if_pos hx] at h
   subst hx
   by_cases a2 : a = 2
   ·rw [if_pos a2] at h
    subst a2
    clear a1 ha1
    replace h := bS h; obtain ⟨c, T2, h⟩ := h
    cases c with
    | false =>
     rw [if_neg (by decide)] at h
     obtain ⟨rfl, rfl⟩ := (Prod.mk.injEq _ _ _ _).mp (Option.some.inj h)
     clear h
     go_enter Tryz.func62, Tryz.ntmps62
     go_upto_region 5 with (first | ((with_reducible refine gate_dst (N := 3) rfl ?_); refine boxev 3 #[.int .i64 2, .int .i64 b, .string (⟨#[]⟩ : ByteArray)] 53 ?_; intro b3 hg_ W_ ho_ hb_; replace HS := HS.box hg_ ho_ hb_; clear hg_ ho_ hb_; obtain ⟨z30, z31, z32, f30, f31, f32⟩ := box3 (HS.blk 0); clear z30 z31 z32 f30 f31 f32; obtain ⟨z30, z31, z32, f30, f31, f32⟩ := box3 (HS.blk 0); obtain ⟨z00, z01, z02, z03, z04, f00, f01, f02, f03, f04⟩ := box5 (HS.blk 1)))
     go_upto_region 5 with fail
     clear z30 z31 z32 f30 f31 f32 z00 z01 z02 z03 z04 f00 f01 f02 f03 f04
     obtain ⟨z30, z31, z32, f30, f31, f32⟩ := box3 (HS.blk 0)
     obtain ⟨z00, z01, z02, z03, z04, f00, f01, f02, f03, f04⟩ := box5 (HS.blk 1)
     refine start_ (n := 15) (S := fun w' => w'.cell? ⟨b3, 0, none⟩ = some (.int .i64 2) ∧ w'.cell? ⟨b3, 1, none⟩ = some (.int .i64 b) ∧ w'.cell? ⟨b3, 2, none⟩ = some (.string (⟨#[]⟩ : ByteArray)) ∧ w'.cell? ⟨b0, 0, none⟩ = some (.slice A0 ks.length c0) ∧ w'.cell? ⟨b0, 1, none⟩ = some (.slice A1 ps.length c1) ∧ w'.cell? ⟨b0, 2, none⟩ = some (.slice A2 ss.length c2) ∧ w'.cell? ⟨b0, 3, none⟩ = some (.slice A3 ib.length c3) ∧ w'.cell? ⟨b0, 4, none⟩ = some (.int .i64 sd)) (ds := []) (bl 15 0) (by kernel_rfl) rfl rfl ⟨z30, z31, z32, z00, z01, z02, z03, z04⟩ (fun hHeld => ?_); refine with_tabW impl_Net_step.tab5 impl_Net_step.bits5 (fun HT_ HW_ => ?_)
     clear z30 z31 z32 f30 f31 f32 z00 z01 z02 z03 z04 f00 f01 f02 f03 f04
     replace HS := HS.drew
     generalize World.drew _ = W9_ at HS hHeld ⊢
     refine pureA 0 (some 20) 15 1 HT_ ?_
     refine takeA 1 (some 21) 15 3 HT_ HW_ hHeld ?_ (hy := by rintro w' ⟨s0, s1, s2, s3, s4, s5, s6, s7⟩; go_simp; with_reducible rfl)
     refine pureA 2 (some 22) 15 7 HT_ ?_
     refine pureA 3 (some 23) 15 15 HT_ ?_
     try simp only [show ((2 : Int) == 2) = true from rfl]
     refine pureA 4 (some 24) 15 31 HT_ ?_
     refine takeA 5 (some 25) 15 63 HT_ HW_ hHeld ?_ (hy := by rintro w' ⟨s0, s1, s2, s3, s4, s5, s6, s7⟩; go_simp; with_reducible rfl)
     refine pureA 6 (some 26) 15 127 HT_ ?_
     refine pureA 7 (some 27) 15 255 HT_ ?_
     refine pureA 8 (some 28) 15 511 HT_ ?_
     refine takeA 9 (some 29) 15 1023 HT_ HW_ hHeld ?_ (hy := by rintro w' ⟨s0, s1, s2, s3, s4, s5, s6, s7⟩; go_simp; with_reducible rfl)
     refine pureA 10 (some 30) 15 2047 HT_ ?_
     refine pureA 11 (some 31) 15 4095 HT_ ?_
     refine oneA 12 (some 32) 15 8191 HT_ (fun K hK => ?_)
     refine goes_ Tryz.func70 (by kernel_rfl) rfl #[.int .i64 b, .int .i64 0, .int .i64 (wrap64 ((ks.length : Int) - 1))] (by rfl) rfl rfl (by (try simp only [List.map_toArray, List.map_cons, List.map_nil]); first | done | rfl) ?_
     refine (impl_within.calls _ _ _ _ _ T2.out).mono ?_
     clear hHeld
     rintro e W_ ⟨rfl, nd_, rfl⟩
     refine ⟨_, rfl, ?_⟩
     replace HS := HS.drewN nd_
     generalize World.drewN _ nd_ = W_ at HS ⊢
     obtain ⟨z30, z31, z32, f30, f31, f32⟩ := box3 (HS.blk 0)
     obtain ⟨z00, z01, z02, z03, z04, f00, f01, f02, f03, f04⟩ := box5 (HS.blk 1)
     refine hK.out _ _ ⟨z30, z31, z32, z00, z01, z02, z03, z04⟩ (fun hHeld => ?_)
     clear hK K z30 z31 z32 f30 f31 f32 z00 z01 z02 z03 z04 f00 f01 f02 f03 f04
     refine norm_ (a' := ?_) ?_ ?_
     rotate_left
     ·show Act.put _ (some 32) _ = _
      simp only [Act.put, List.setIfInBounds_toArray, List.set_cons_zero, List.set_cons_succ, i64_w, i32_w]
      rfl
     refine pureA 13 (some 33) 15 16383 HT_ ?_
     refine pureA 14 (some 19) 15 32767 HT_ ?_
     refine done_ (done_of HT_.out (by kernel_rfl)) ?_
     clear HT_ HW_ hHeld
     obtain ⟨z30, z31, z32, f30, f31, f32⟩ := box3 (HS.blk 0)
     obtain ⟨z00, z01, z02, z03, z04, f00, f01, f02, f03, f04⟩ := box5 (HS.blk 1)
     go_upto_region 8 with fail
     go_upto_region 8 with fail
     clear z30 z31 z32 f30 f31 f32 z00 z01 z02 z03 z04 f00 f01 f02 f03 f04
     obtain ⟨z30, z31, z32, f30, f31, f32⟩ := box3 (HS.blk 0)
     obtain ⟨z00, z01, z02, z03, z04, f00, f01, f02, f03, f04⟩ := box5 (HS.blk 1)
     refine start_ (n := 17) (S := fun w' => w'.cell? ⟨b3, 0, none⟩ = some (.int .i64 2) ∧ w'.cell? ⟨b3, 1, none⟩ = some (.int .i64 b) ∧ w'.cell? ⟨b3, 2, none⟩ = some (.string (⟨#[]⟩ : ByteArray)) ∧ w'.cell? ⟨b0, 0, none⟩ = some (.slice A0 ks.length c0) ∧ w'.cell? ⟨b0, 1, none⟩ = some (.slice A1 ps.length c1) ∧ w'.cell? ⟨b0, 2, none⟩ = some (.slice A2 ss.length c2) ∧ w'.cell? ⟨b0, 3, none⟩ = some (.slice A3 ib.length c3) ∧ w'.cell? ⟨b0, 4, none⟩ = some (.int .i64 sd)) (ds := []) (bl 17 0) (by kernel_rfl) rfl rfl ⟨z30, z31, z32, z00, z01, z02, z03, z04⟩ (fun hHeld => ?_); refine with_tabW impl_Net_step.tab8 impl_Net_step.bits8 (fun HT_ HW_ => ?_)
     clear z30 z31 z32 f30 f31 f32 z00 z01 z02 z03 z04 f00 f01 f02 f03 f04
     replace HS := HS.drew
     generalize World.drew _ = W9_ at HS hHeld ⊢
     refine pureA 0 (some 39) 17 1 HT_ ?_
     refine takeA 1 (some 40) 17 3 HT_ HW_ hHeld ?_ (hy := by rintro w' ⟨s0, s1, s2, s3, s4, s5, s6, s7⟩; go_simp; with_reducible rfl)
     refine pureA 2 (some 41) 17 7 HT_ ?_
     refine pureA 3 (some 42) 17 15 HT_ ?_
     try simp only [show ((2 : Int) == 3) = false from rfl]
     refine pureB 4 (some 43) 17 31 HT_ ?_
     refine pureB 5 (some 44) 17 63 HT_ ?_
     refine pureB 6 (some 45) 17 127 HT_ ?_
     refine pureB 7 (some 46) 17 255 HT_ ?_
     refine pureB 8 (some 47) 17 511 HT_ ?_
     refine pureB 9 (some 48) 17 1023 HT_ ?_
     refine pureB 10 (some 49) 17 2047 HT_ ?_
     refine pureB 11 (some 50) 17 4095 HT_ ?_
     refine pureB 12 (some 51) 17 8191 HT_ ?_
     refine pureB 13 (some 52) 17 16383 HT_ ?_
     refine pureB 14 (some 53) 17 32767 HT_ ?_
     refine pureA 15 (some 54) 17 65535 HT_ ?_
     refine pureA 16 (some 38) 17 131071 HT_ ?_
     refine done_ (done_of HT_.out (by kernel_rfl)) ?_
     clear HT_ HW_ hHeld
     obtain ⟨z30, z31, z32, f30, f31, f32⟩ := box3 (HS.blk 0)
     obtain ⟨z00, z01, z02, z03, z04, f00, f01, f02, f03, f04⟩ := box5 (HS.blk 1)
     go_wp2
     go_ret
     replace HS := HS.tail
     exact ⟨er, HS⟩
    | true =>
     rw [if_pos rfl] at h
     replace h := bS h; obtain ⟨⟨ks1, ps1, ss1, ib1, sd1⟩, T1, h⟩ := h
     obtain ⟨e1, e3⟩ := impl_Net_goOn.keeps T1.out
     dsimp only at e1 e3
     replace e1 := e1.symm; replace e3 := e3.symm
     subst e1 e3
     obtain ⟨rfl, rfl⟩ := (Prod.mk.injEq _ _ _ _).mp (Option.some.inj h)
     clear h
     go_enter Tryz.func62, Tryz.ntmps62
     go_upto_region 5 with (first | ((with_reducible refine gate_dst (N := 3) rfl ?_); refine boxev 3 #[.int .i64 2, .int .i64 b, .string (⟨#[]⟩ : ByteArray)] 53 ?_; intro b3 hg_ W_ ho_ hb_; replace HS := HS.box hg_ ho_ hb_; clear hg_ ho_ hb_; obtain ⟨z30, z31, z32, f30, f31, f32⟩ := box3 (HS.blk 0); clear z30 z31 z32 f30 f31 f32; obtain ⟨z30, z31, z32, f30, f31, f32⟩ := box3 (HS.blk 0); obtain ⟨z00, z01, z02, z03, z04, f00, f01, f02, f03, f04⟩ := box5 (HS.blk 1)))
     go_upto_region 5 with fail
     clear z30 z31 z32 f30 f31 f32 z00 z01 z02 z03 z04 f00 f01 f02 f03 f04
     obtain ⟨z30, z31, z32, f30, f31, f32⟩ := box3 (HS.blk 0)
     obtain ⟨z00, z01, z02, z03, z04, f00, f01, f02, f03, f04⟩ := box5 (HS.blk 1)
     refine start_ (n := 15) (S := fun w' => w'.cell? ⟨b3, 0, none⟩ = some (.int .i64 2) ∧ w'.cell? ⟨b3, 1, none⟩ = some (.int .i64 b) ∧ w'.cell? ⟨b3, 2, none⟩ = some (.string (⟨#[]⟩ : ByteArray)) ∧ w'.cell? ⟨b0, 0, none⟩ = some (.slice A0 ks.length c0) ∧ w'.cell? ⟨b0, 1, none⟩ = some (.slice A1 ps.length c1) ∧ w'.cell? ⟨b0, 2, none⟩ = some (.slice A2 ss.length c2) ∧ w'.cell? ⟨b0, 3, none⟩ = some (.slice A3 ib.length c3) ∧ w'.cell? ⟨b0, 4, none⟩ = some (.int .i64 sd)) (ds := []) (bl 15 0) (by kernel_rfl) rfl rfl ⟨z30, z31, z32, z00, z01, z02, z03, z04⟩ (fun hHeld => ?_); refine with_tabW impl_Net_step.tab5 impl_Net_step.bits5 (fun HT_ HW_ => ?_)
     clear z30 z31 z32 f30 f31 f32 z00 z01 z02 z03 z04 f00 f01 f02 f03 f04
     replace HS := HS.drew
     generalize World.drew _ = W9_ at HS hHeld ⊢
     refine pureA 0 (some 20) 15 1 HT_ ?_
     refine takeA 1 (some 21) 15 3 HT_ HW_ hHeld ?_ (hy := by rintro w' ⟨s0, s1, s2, s3, s4, s5, s6, s7⟩; go_simp; with_reducible rfl)
     refine pureA 2 (some 22) 15 7 HT_ ?_
     refine pureA 3 (some 23) 15 15 HT_ ?_
     try simp only [show ((2 : Int) == 2) = true from rfl]
     refine pureA 4 (some 24) 15 31 HT_ ?_
     refine takeA 5 (some 25) 15 63 HT_ HW_ hHeld ?_ (hy := by rintro w' ⟨s0, s1, s2, s3, s4, s5, s6, s7⟩; go_simp; with_reducible rfl)
     refine pureA 6 (some 26) 15 127 HT_ ?_
     refine pureA 7 (some 27) 15 255 HT_ ?_
     refine pureA 8 (some 28) 15 511 HT_ ?_
     refine takeA 9 (some 29) 15 1023 HT_ HW_ hHeld ?_ (hy := by rintro w' ⟨s0, s1, s2, s3, s4, s5, s6, s7⟩; go_simp; with_reducible rfl)
     refine pureA 10 (some 30) 15 2047 HT_ ?_
     refine pureA 11 (some 31) 15 4095 HT_ ?_
     refine oneA 12 (some 32) 15 8191 HT_ (fun K hK => ?_)
     refine goes_ Tryz.func70 (by kernel_rfl) rfl #[.int .i64 b, .int .i64 0, .int .i64 (wrap64 ((ks.length : Int) - 1))] (by rfl) rfl rfl (by (try simp only [List.map_toArray, List.map_cons, List.map_nil]); first | done | rfl) ?_
     refine (impl_within.calls _ _ _ _ _ T2.out).mono ?_
     clear hHeld
     rintro e W_ ⟨rfl, nd_, rfl⟩
     refine ⟨_, rfl, ?_⟩
     replace HS := HS.drewN nd_
     generalize World.drewN _ nd_ = W_ at HS ⊢
     obtain ⟨z30, z31, z32, f30, f31, f32⟩ := box3 (HS.blk 0)
     obtain ⟨z00, z01, z02, z03, z04, f00, f01, f02, f03, f04⟩ := box5 (HS.blk 1)
     refine hK.out _ _ ⟨z30, z31, z32, z00, z01, z02, z03, z04⟩ (fun hHeld => ?_)
     clear hK K z30 z31 z32 f30 f31 f32 z00 z01 z02 z03 z04 f00 f01 f02 f03 f04
     refine norm_ (a' := ?_) ?_ ?_
     rotate_left
     ·show Act.put _ (some 32) _ = _
      simp only [Act.put, List.setIfInBounds_toArray, List.set_cons_zero, List.set_cons_succ, i64_w, i32_w]
      rfl
     refine pureA 13 (some 33) 15 16383 HT_ ?_
     refine pureA 14 (some 19) 15 32767 HT_ ?_
     refine done_ (done_of HT_.out (by kernel_rfl)) ?_
     clear HT_ HW_ hHeld
     obtain ⟨z30, z31, z32, f30, f31, f32⟩ := box3 (HS.blk 0)
     obtain ⟨z00, z01, z02, z03, z04, f00, f01, f02, f03, f04⟩ := box5 (HS.blk 1)
     go_wp2_with (first | (go_at_call 92; have HC_ := impl_Net_goOn.calls (n := ⟨ks, ps, ss, ib, sd⟩) (HS.fr5.fr5.fr5.fr5.fr5) T1.out; refine HC_.mono ?_; clear HC_; rintro e W_ ⟨rfl, HS'_⟩; clear HS; have HS := HS'_; clear HS'_; dsimp only [netA, List.cons_append, List.nil_append] at HS; clear z30 z31 z32 f30 f31 f32 z00 z01 z02 z03 z04 f00 f01 f02 f03 f04; obtain ⟨z30, z31, z32, f30, f31, f32⟩ := box3 (HS.blk 5); obtain ⟨z00, z01, z02, z03, z04, f00, f01, f02, f03, f04⟩ := box5 (HS.blk 0)))
     go_ret
     replace HS := HS.fr5.tail
     exact ⟨er, HS⟩
   ·rw [if_neg a2] at h
    have ha2 : (a == 2) = false := beq_eq_false_iff_ne.2 a2
    by_cases a3 : a = 3
    ·rw [if_pos a3] at h
     subst a3
     clear a1 ha1 a2 ha2
     replace h := ifS h; obtain ⟨hs0, h⟩ := h
     obtain ⟨g2, q2, e⟩ := HS.addr 3 (hx := hs0)
     obtain rfl : A2 = some ⟨g2, 0, none⟩ := by injection e
     clear e
     have j0 : (0 : Int) ≤ 0 := Int.le_refl 0
     have j1 : (0 : Int) < (ss.length : Int) := by omega
     have pj1 : (0 < (ss.length : Int)) = True := eq_true j1
     have pj2 : (0 < ss.length) = True := eq_true hs0
     obtain ⟨AS, qS, HS, -, -⟩ := HS.fr3.lend 0 j0 j1
     have GS0 : ss.getD (0 : Int).toNat [] = ss.getD 0 [] := rfl
     rw [GS0] at HS
     generalize hS : ss.getD 0 [] = S at HS h GS0
     have GS := ak GS0; clear GS0 hS
     replace h := bS h; obtain ⟨c, T2, h⟩ := h
     cases c with
     | false =>
      rw [if_neg (by decide)] at h
      obtain ⟨rfl, rfl⟩ := (Prod.mk.injEq _ _ _ _).mp (Option.some.inj h)
      clear h
      go_enter Tryz.func62, Tryz.ntmps62
      go_upto_region 5 with (first | ((with_reducible refine gate_dst (N := 3) rfl ?_); refine boxev 3 #[.int .i64 3, .int .i64 b, .string (⟨#[]⟩ : ByteArray)] 53 ?_; intro b3 hg_ W_ ho_ hb_; replace HS := HS.box hg_ ho_ hb_; clear hg_ ho_ hb_; obtain ⟨z30, z31, z32, f30, f31, f32⟩ := box3 (HS.blk 0); clear z30 z31 z32 f30 f31 f32; obtain ⟨z30, z31, z32, f30, f31, f32⟩ := box3 (HS.blk 0); obtain ⟨z00, z01, z02, z03, z04, f00, f01, f02, f03, f04⟩ := box5 (HS.blk 3)))
      go_upto_region 5 with fail
      clear z30 z31 z32 f30 f31 f32 z00 z01 z02 z03 z04 f00 f01 f02 f03 f04
      obtain ⟨z30, z31, z32, f30, f31, f32⟩ := box3 (HS.blk 0)
      obtain ⟨z00, z01, z02, z03, z04, f00, f01, f02, f03, f04⟩ := box5 (HS.blk 3)
      refine start_ (n := 15) (S := fun w' => w'.cell? ⟨b3, 0, none⟩ = some (.int .i64 3) ∧ w'.cell? ⟨b3, 1, none⟩ = some (.int .i64 b) ∧ w'.cell? ⟨b3, 2, none⟩ = some (.string (⟨#[]⟩ : ByteArray)) ∧ w'.cell? ⟨b0, 0, none⟩ = some (.slice A0 ks.length c0) ∧ w'.cell? ⟨b0, 1, none⟩ = some (.slice A1 ps.length c1) ∧ w'.cell? ⟨b0, 2, none⟩ = some (.slice (some ⟨g2, 0, none⟩) ss.length c2) ∧ w'.cell? ⟨b0, 3, none⟩ = some (.slice A3 ib.length c3) ∧ w'.cell? ⟨b0, 4, none⟩ = some (.int .i64 sd)) (ds := []) (bl 15 0) (by kernel_rfl) rfl rfl ⟨z30, z31, z32, z00, z01, z02, z03, z04⟩ (fun hHeld => ?_); refine with_tabW impl_Net_step.tab5 impl_Net_step.bits5 (fun HT_ HW_ => ?_)
      clear z30 z31 z32 f30 f31 f32 z00 z01 z02 z03 z04 f00 f01 f02 f03 f04
      replace HS := HS.drew
      generalize World.drew _ = W9_ at HS hHeld ⊢
      refine pureA 0 (some 20) 15 1 HT_ ?_
      refine takeA 1 (some 21) 15 3 HT_ HW_ hHeld ?_ (hy := by rintro w' ⟨s0, s1, s2, s3, s4, s5, s6, s7⟩; go_simp; with_reducible rfl)
      refine pureA 2 (some 22) 15 7 HT_ ?_
      refine pureA 3 (some 23) 15 15 HT_ ?_
      try simp only [show ((3 : Int) == 2) = false from rfl]
      refine pureB 4 (some 24) 15 31 HT_ ?_
      refine pureB 5 (some 25) 15 63 HT_ ?_
      refine pureB 6 (some 26) 15 127 HT_ ?_
      refine pureB 7 (some 27) 15 255 HT_ ?_
      refine pureB 8 (some 28) 15 511 HT_ ?_
      refine pureB 9 (some 29) 15 1023 HT_ ?_
      refine pureB 10 (some 30) 15 2047 HT_ ?_
      refine pureB 11 (some 31) 15 4095 HT_ ?_
      refine pureB 12 (some 32) 15 8191 HT_ ?_
      refine pureA 13 (some 33) 15 16383 HT_ ?_
      refine pureA 14 (some 19) 15 32767 HT_ ?_
      refine done_ (done_of HT_.out (by kernel_rfl)) ?_
      clear HT_ HW_ hHeld
      obtain ⟨z30, z31, z32, f30, f31, f32⟩ := box3 (HS.blk 0)
      obtain ⟨z00, z01, z02, z03, z04, f00, f01, f02, f03, f04⟩ := box5 (HS.blk 3)
      go_upto_region 8 with fail
      go_upto_region 8 with fail
      clear z30 z31 z32 f30 f31 f32 z00 z01 z02 z03 z04 f00 f01 f02 f03 f04
      obtain ⟨z30, z31, z32, f30, f31, f32⟩ := box3 (HS.blk 0)
      obtain ⟨z00, z01, z02, z03, z04, f00, f01, f02, f03, f04⟩ := box5 (HS.blk 3)
      obtain ⟨hcgs, hfgs⟩ := HS.fr1.hole j0 j1
      refine start_ (n := 17) (S := fun w' => w'.cell? ⟨b3, 0, none⟩ = some (.int .i64 3) ∧ w'.cell? ⟨b3, 1, none⟩ = some (.int .i64 b) ∧ w'.cell? ⟨b3, 2, none⟩ = some (.string (⟨#[]⟩ : ByteArray)) ∧ w'.cell? ⟨b0, 0, none⟩ = some (.slice A0 ks.length c0) ∧ w'.cell? ⟨b0, 1, none⟩ = some (.slice A1 ps.length c1) ∧ w'.cell? ⟨b0, 2, none⟩ = some (.slice (some ⟨g2, 0, none⟩) ss.length c2) ∧ w'.cell? ⟨b0, 3, none⟩ = some (.slice A3 ib.length c3) ∧ w'.cell? ⟨b0, 4, none⟩ = some (.int .i64 sd) ∧ w'.cell? ⟨g2, 0, none⟩ = some (.slice AS S.length qS)) (ds := []) (bl 17 0) (by kernel_rfl) rfl rfl ⟨z30, z31, z32, z00, z01, z02, z03, z04, hcgs⟩ (fun hHeld => ?_); refine with_tabW impl_Net_step.tab8 impl_Net_step.bits8 (fun HT_ HW_ => ?_)
      clear z30 z31 z32 f30 f31 f32 z00 z01 z02 z03 z04 f00 f01 f02 f03 f04 hcgs hfgs
      replace HS := HS.drew
      generalize World.drew _ = W9_ at HS hHeld ⊢
      refine pureA 0 (some 39) 17 1 HT_ ?_
      refine takeA 1 (some 40) 17 3 HT_ HW_ hHeld ?_ (hy := by rintro w' ⟨s0, s1, s2, s3, s4, s5, s6, s7, s8⟩; go_simp; with_reducible rfl)
      refine pureA 2 (some 41) 17 7 HT_ ?_
      refine pureA 3 (some 42) 17 15 HT_ ?_
      try simp only [show ((3 : Int) == 3) = true from rfl]
      refine pureA 4 (some 43) 17 31 HT_ ?_
      refine takeA 5 (some 44) 17 63 HT_ HW_ hHeld ?_ (hy := by rintro w' ⟨s0, s1, s2, s3, s4, s5, s6, s7, s8⟩; go_simp; with_reducible rfl)
      refine pureA 6 (some 45) 17 127 HT_ ?_
      refine pureA 7 (some 46) 17 255 HT_ ?_
      refine pureA 8 (some 47) 17 511 HT_ ?_
      refine takeA 9 (some 48) 17 1023 HT_ HW_ hHeld ?_ (hy := by rintro w' ⟨s0, s1, s2, s3, s4, s5, s6, s7, s8⟩; go_simp; with_reducible rfl)
      refine pureA 10 (some 49) 17 2047 HT_ ?_
      refine takeA 11 (some 50) 17 4095 HT_ HW_ hHeld ?_ (hy := by rintro w' ⟨s0, s1, s2, s3, s4, s5, s6, s7, s8⟩; go_simp; with_reducible rfl)
      refine pureA 12 (some 51) 17 8191 HT_ ?_
      refine pureA 13 (some 52) 17 16383 HT_ ?_
      refine oneA 14 (some 53) 17 32767 HT_ (fun K hK => ?_)
      refine goes_ Tryz.func70 (by kernel_rfl) rfl #[.int .i64 b, .int .i64 0, .int .i64 (wrap64 ((S.length : Int) - 1))] (by rfl) rfl rfl (by (try simp only [List.map_toArray, List.map_cons, List.map_nil]); first | done | rfl) ?_
      refine (impl_within.calls _ _ _ _ _ T2.out).mono ?_
      clear hHeld
      rintro e W_ ⟨rfl, nd_, rfl⟩
      refine ⟨_, rfl, ?_⟩
      replace HS := HS.drewN nd_
      generalize World.drewN _ nd_ = W_ at HS ⊢
      obtain ⟨z30, z31, z32, f30, f31, f32⟩ := box3 (HS.blk 0)
      obtain ⟨z00, z01, z02, z03, z04, f00, f01, f02, f03, f04⟩ := box5 (HS.blk 3)
      obtain ⟨hcgs, hfgs⟩ := HS.fr1.hole j0 j1
      refine hK.out _ _ ⟨z30, z31, z32, z00, z01, z02, z03, z04, hcgs⟩ (fun hHeld => ?_)
      clear hK K z30 z31 z32 f30 f31 f32 z00 z01 z02 z03 z04 f00 f01 f02 f03 f04 hcgs hfgs
      refine norm_ (a' := ?_) ?_ ?_
      rotate_left
      ·show Act.put _ (some 53) _ = _
       simp only [Act.put, List.setIfInBounds_toArray, List.set_cons_zero, List.set_cons_succ, i64_w, i32_w]
       rfl
      refine pureA 15 (some 54) 17 65535 HT_ ?_
      refine pureA 16 (some 38) 17 131071 HT_ ?_
      refine done_ (done_of HT_.out (by kernel_rfl)) ?_
      clear HT_ HW_ hHeld
      obtain ⟨z30, z31, z32, f30, f31, f32⟩ := box3 (HS.blk 0)
      obtain ⟨z00, z01, z02, z03, z04, f00, f01, f02, f03, f04⟩ := box5 (HS.blk 3)
      go_wp2
      replace HS := HS.fr2.fr2.back0 GS
      go_ret
      replace HS := HS.fr1.tail
      exact ⟨er, HS.fr4.fr1.fr4.fr4.fr4⟩
     | true =>
      rw [if_pos rfl] at h
      replace h := ifS h; obtain ⟨⟨b0_, b1_⟩, h⟩ := h
      replace h := bS h; obtain ⟨⟨ks1, ps1, ss1, ib1, sd1⟩, T1, h⟩ := h
      obtain ⟨e1, e2, e3⟩ := impl_Net_come.keeps T1.out
      dsimp only at e1 e2 e3
      replace e1 := e1.symm; replace e2 := e2.symm; replace e3 := e3.symm
      subst e1 e2 e3
      obtain ⟨rfl, rfl⟩ := (Prod.mk.injEq _ _ _ _).mp (Option.some.inj h)
      clear h
      generalize hs_ : rdOf ByteArray.empty S b = s at T1
      go_enter Tryz.func62, Tryz.ntmps62
      go_upto_region 5 with (first | ((with_reducible refine gate_dst (N := 3) rfl ?_); refine boxev 3 #[.int .i64 3, .int .i64 b, .string (⟨#[]⟩ : ByteArray)] 53 ?_; intro b3 hg_ W_ ho_ hb_; replace HS := HS.box hg_ ho_ hb_; clear hg_ ho_ hb_; obtain ⟨z30, z31, z32, f30, f31, f32⟩ := box3 (HS.blk 0); clear z30 z31 z32 f30 f31 f32; obtain ⟨z30, z31, z32, f30, f31, f32⟩ := box3 (HS.blk 0); obtain ⟨z00, z01, z02, z03, z04, f00, f01, f02, f03, f04⟩ := box5 (HS.blk 3)))
      go_upto_region 5 with fail
      clear z30 z31 z32 f30 f31 f32 z00 z01 z02 z03 z04 f00 f01 f02 f03 f04
      obtain ⟨z30, z31, z32, f30, f31, f32⟩ := box3 (HS.blk 0)
      obtain ⟨z00, z01, z02, z03, z04, f00, f01, f02, f03, f04⟩ := box5 (HS.blk 3)
      refine start_ (n := 15) (S := fun w' => w'.cell? ⟨b3, 0, none⟩ = some (.int .i64 3) ∧ w'.cell? ⟨b3, 1, none⟩ = some (.int .i64 b) ∧ w'.cell? ⟨b3, 2, none⟩ = some (.string (⟨#[]⟩ : ByteArray)) ∧ w'.cell? ⟨b0, 0, none⟩ = some (.slice A0 ks.length c0) ∧ w'.cell? ⟨b0, 1, none⟩ = some (.slice A1 ps.length c1) ∧ w'.cell? ⟨b0, 2, none⟩ = some (.slice (some ⟨g2, 0, none⟩) ss.length c2) ∧ w'.cell? ⟨b0, 3, none⟩ = some (.slice A3 ib.length c3) ∧ w'.cell? ⟨b0, 4, none⟩ = some (.int .i64 sd)) (ds := []) (bl 15 0) (by kernel_rfl) rfl rfl ⟨z30, z31, z32, z00, z01, z02, z03, z04⟩ (fun hHeld => ?_); refine with_tabW impl_Net_step.tab5 impl_Net_step.bits5 (fun HT_ HW_ => ?_)
      clear z30 z31 z32 f30 f31 f32 z00 z01 z02 z03 z04 f00 f01 f02 f03 f04
      replace HS := HS.drew
      generalize World.drew _ = W9_ at HS hHeld ⊢
      refine pureA 0 (some 20) 15 1 HT_ ?_
      refine takeA 1 (some 21) 15 3 HT_ HW_ hHeld ?_ (hy := by rintro w' ⟨s0, s1, s2, s3, s4, s5, s6, s7⟩; go_simp; with_reducible rfl)
      refine pureA 2 (some 22) 15 7 HT_ ?_
      refine pureA 3 (some 23) 15 15 HT_ ?_
      try simp only [show ((3 : Int) == 2) = false from rfl]
      refine pureB 4 (some 24) 15 31 HT_ ?_
      refine pureB 5 (some 25) 15 63 HT_ ?_
      refine pureB 6 (some 26) 15 127 HT_ ?_
      refine pureB 7 (some 27) 15 255 HT_ ?_
      refine pureB 8 (some 28) 15 511 HT_ ?_
      refine pureB 9 (some 29) 15 1023 HT_ ?_
      refine pureB 10 (some 30) 15 2047 HT_ ?_
      refine pureB 11 (some 31) 15 4095 HT_ ?_
      refine pureB 12 (some 32) 15 8191 HT_ ?_
      refine pureA 13 (some 33) 15 16383 HT_ ?_
      refine pureA 14 (some 19) 15 32767 HT_ ?_
      refine done_ (done_of HT_.out (by kernel_rfl)) ?_
      clear HT_ HW_ hHeld
      obtain ⟨z30, z31, z32, f30, f31, f32⟩ := box3 (HS.blk 0)
      obtain ⟨z00, z01, z02, z03, z04, f00, f01, f02, f03, f04⟩ := box5 (HS.blk 3)
      go_upto_region 8 with fail
      go_upto_region 8 with fail
      clear z30 z31 z32 f30 f31 f32 z00 z01 z02 z03 z04 f00 f01 f02 f03 f04
      obtain ⟨z30, z31, z32, f30, f31, f32⟩ := box3 (HS.blk 0)
      obtain ⟨z00, z01, z02, z03, z04, f00, f01, f02, f03, f04⟩ := box5 (HS.blk 3)
      obtain ⟨hcgs, hfgs⟩ := HS.fr1.hole j0 j1
      refine start_ (n := 17) (S := fun w' => w'.cell? ⟨b3, 0, none⟩ = some (.int .i64 3) ∧ w'.cell? ⟨b3, 1, none⟩ = some (.int .i64 b) ∧ w'.cell? ⟨b3, 2, none⟩ = some (.string (⟨#[]⟩ : ByteArray)) ∧ w'.cell? ⟨b0, 0, none⟩ = some (.slice A0 ks.length c0) ∧ w'.cell? ⟨b0, 1, none⟩ = some (.slice A1 ps.length c1) ∧ w'.cell? ⟨b0, 2, none⟩ = some (.slice (some ⟨g2, 0, none⟩) ss.length c2) ∧ w'.cell? ⟨b0, 3, none⟩ = some (.slice A3 ib.length c3) ∧ w'.cell? ⟨b0, 4, none⟩ = some (.int .i64 sd) ∧ w'.cell? ⟨g2, 0, none⟩ = some (.slice AS S.length qS)) (ds := []) (bl 17 0) (by kernel_rfl) rfl rfl ⟨z30, z31, z32, z00, z01, z02, z03, z04, hcgs⟩ (fun hHeld => ?_); refine with_tabW impl_Net_step.tab8 impl_Net_step.bits8 (fun HT_ HW_ => ?_)
      clear z30 z31 z32 f30 f31 f32 z00 z01 z02 z03 z04 f00 f01 f02 f03 f04 hcgs hfgs
      replace HS := HS.drew
      generalize World.drew _ = W9_ at HS hHeld ⊢
      refine pureA 0 (some 39) 17 1 HT_ ?_
      refine takeA 1 (some 40) 17 3 HT_ HW_ hHeld ?_ (hy := by rintro w' ⟨s0, s1, s2, s3, s4, s5, s6, s7, s8⟩; go_simp; with_reducible rfl)
      refine pureA 2 (some 41) 17 7 HT_ ?_
      refine pureA 3 (some 42) 17 15 HT_ ?_
      try simp only [show ((3 : Int) == 3) = true from rfl]
      refine pureA 4 (some 43) 17 31 HT_ ?_
      refine takeA 5 (some 44) 17 63 HT_ HW_ hHeld ?_ (hy := by rintro w' ⟨s0, s1, s2, s3, s4, s5, s6, s7, s8⟩; go_simp; with_reducible rfl)
      refine pureA 6 (some 45) 17 127 HT_ ?_
      refine pureA 7 (some 46) 17 255 HT_ ?_
      refine pureA 8 (some 47) 17 511 HT_ ?_
      refine takeA 9 (some 48) 17 1023 HT_ HW_ hHeld ?_ (hy := by rintro w' ⟨s0, s1, s2, s3, s4, s5, s6, s7, s8⟩; go_simp; with_reducible rfl)
      refine pureA 10 (some 49) 17 2047 HT_ ?_
      refine takeA 11 (some 50) 17 4095 HT_ HW_ hHeld ?_ (hy := by rintro w' ⟨s0, s1, s2, s3, s4, s5, s6, s7, s8⟩; go_simp; with_reducible rfl)
      refine pureA 12 (some 51) 17 8191 HT_ ?_
      refine pureA 13 (some 52) 17 16383 HT_ ?_
      refine oneA 14 (some 53) 17 32767 HT_ (fun K hK => ?_)
      refine goes_ Tryz.func70 (by kernel_rfl) rfl #[.int .i64 b, .int .i64 0, .int .i64 (wrap64 ((S.length : Int) - 1))] (by rfl) rfl rfl (by (try simp only [List.map_toArray, List.map_cons, List.map_nil]); first | done | rfl) ?_
      refine (impl_within.calls _ _ _ _ _ T2.out).mono ?_
      clear hHeld
      rintro e W_ ⟨rfl, nd_, rfl⟩
      refine ⟨_, rfl, ?_⟩
      replace HS := HS.drewN nd_
      generalize World.drewN _ nd_ = W_ at HS ⊢
      obtain ⟨z30, z31, z32, f30, f31, f32⟩ := box3 (HS.blk 0)
      obtain ⟨z00, z01, z02, z03, z04, f00, f01, f02, f03, f04⟩ := box5 (HS.blk 3)
      obtain ⟨hcgs, hfgs⟩ := HS.fr1.hole j0 j1
      refine hK.out _ _ ⟨z30, z31, z32, z00, z01, z02, z03, z04, hcgs⟩ (fun hHeld => ?_)
      clear hK K z30 z31 z32 f30 f31 f32 z00 z01 z02 z03 z04 f00 f01 f02 f03 f04 hcgs hfgs
      refine norm_ (a' := ?_) ?_ ?_
      rotate_left
      ·show Act.put _ (some 53) _ = _
       simp only [Act.put, List.setIfInBounds_toArray, List.set_cons_zero, List.set_cons_succ, i64_w, i32_w]
       rfl
      refine pureA 15 (some 54) 17 65535 HT_ ?_
      refine pureA 16 (some 38) 17 131071 HT_ ?_
      refine done_ (done_of HT_.out (by kernel_rfl)) ?_
      clear HT_ HW_ hHeld
      obtain ⟨z30, z31, z32, f30, f31, f32⟩ := box3 (HS.blk 0)
      obtain ⟨z00, z01, z02, z03, z04, f00, f01, f02, f03, f04⟩ := box5 (HS.blk 3)
      obtain ⟨gS, qS', e⟩ := HS.addrR 2 (hx := by omega)
      obtain rfl : AS = some ⟨gS, 0, none⟩ := by injection e
      clear e
      go_upto_region 9 with fail
      have pb0 : (0 ≤ b) = True := eq_true b0_
      have pb1 : (b < (S.length : Int)) = True := eq_true b1_
      go_upto_region 9 with fail
      clear z30 z31 z32 f30 f31 f32 z00 z01 z02 z03 z04 f00 f01 f02 f03 f04
      obtain ⟨z30, z31, z32, f30, f31, f32⟩ := box3 (HS.blk 0)
      obtain ⟨z00, z01, z02, z03, z04, f00, f01, f02, f03, f04⟩ := box5 (HS.blk 3)
      obtain ⟨hcgs, hfgs⟩ := HS.fr1.hole j0 j1
      have hxS := HS.cellS 2 (n := S.length) b b0_ b1_
      rw [hs_] at hxS
      refine start_ (n := 12) (S := fun w' => w'.cell? ⟨b3, 0, none⟩ = some (.int .i64 3) ∧ w'.cell? ⟨b3, 1, none⟩ = some (.int .i64 b) ∧ w'.cell? ⟨b3, 2, none⟩ = some (.string (⟨#[]⟩ : ByteArray)) ∧ w'.cell? ⟨b0, 0, none⟩ = some (.slice A0 ks.length c0) ∧ w'.cell? ⟨b0, 1, none⟩ = some (.slice A1 ps.length c1) ∧ w'.cell? ⟨b0, 2, none⟩ = some (.slice (some ⟨g2, 0, none⟩) ss.length c2) ∧ w'.cell? ⟨b0, 3, none⟩ = some (.slice A3 ib.length c3) ∧ w'.cell? ⟨b0, 4, none⟩ = some (.int .i64 sd) ∧ w'.cell? ⟨g2, 0, none⟩ = some (.slice (some ⟨gS, 0, none⟩) S.length qS) ∧ w'.cell? ⟨gS, b.toNat, none⟩ = some (.string s)) (ds := [11]) (bl 12 0) (by kernel_rfl) rfl rfl ⟨z30, z31, z32, z00, z01, z02, z03, z04, hcgs, hxS⟩ (fun hHeld => ?_); refine with_tabW impl_Net_step.tab9 impl_Net_step.bits9 (fun HT_ HW_ => ?_)
      clear z30 z31 z32 f30 f31 f32 z00 z01 z02 z03 z04 f00 f01 f02 f03 f04 hcgs hfgs hxS
      replace HS := HS.drew
      generalize World.drew _ = W9_ at HS hHeld ⊢
      refine pureA 0 (some 55) 12 1 HT_ ?_
      refine pureA 1 (some 56) 12 3 HT_ ?_
      refine pureA 2 (some 57) 12 7 HT_ ?_
      refine pureA 3 (some 58) 12 15 HT_ ?_
      refine takeA 4 (some 59) 12 31 HT_ HW_ hHeld ?_ (hy := by rintro w' ⟨s0, s1, s2, s3, s4, s5, s6, s7, s8, s9⟩; go_simp; with_reducible rfl)
      refine pureA 5 (some 60) 12 63 HT_ ?_
      refine takeA 6 (some 61) 12 127 HT_ HW_ hHeld ?_ (hy := by rintro w' ⟨s0, s1, s2, s3, s4, s5, s6, s7, s8, s9⟩; go_simp; with_reducible rfl)
      refine pureA 7 (some 62) 12 255 HT_ ?_
      refine takeA 8 (some 63) 12 511 HT_ HW_ hHeld ?_ (hy := by rintro w' ⟨s0, s1, s2, s3, s4, s5, s6, s7, s8, s9⟩; go_simp; with_reducible rfl)
      refine pureA 9 (some 64) 12 1023 HT_ ?_
      refine takeA 10 (some 65) 12 2047 HT_ HW_ hHeld ?_ (hy := by rintro w' ⟨s0, s1, s2, s3, s4, s5, s6, s7, s8, s9⟩; go_simp; with_reducible rfl)
      replace HS := HS.fr2.fr2.back0 GS
      refine last_ (i := 11) (N := (some 66)) (bl 12 4095) rfl rfl (one_of HT_.out (by kernel_rfl)) (by decide) (fun K hK => ?_)
      clear hHeld
      refine goes_ Tryz.func98 (by kernel_rfl) rfl #[.pointer (some ⟨b0, 0, none⟩), .int .i64 0, .string s] (by rfl) rfl rfl (by (try simp only [List.map_toArray, List.map_cons, List.map_nil]); first | done | rfl) ?_
      have HC_ := impl_Net_come.calls (n := ⟨ks, ps, ss, ib, sd⟩) (HS.fr5.fr1.fr5.fr5.fr5) T1.out
      refine HC_.mono ?_
      clear HC_
      rintro e W_ ⟨rfl, HS'_⟩
      refine ⟨_, rfl, ?_⟩
      clear HS
      have HS := HS'_
      clear HS'_
      dsimp only [netA, List.cons_append, List.nil_append] at HS
      refine hK.out _ _ ?_
      clear hK K
      refine norm_ (a' := ?_) ?_ ?_
      rotate_left
      ·show Act.put _ (some 66) _ = _
       simp only [Act.put, List.setIfInBounds_toArray, List.set_cons_zero, List.set_cons_succ, i64_w, i32_w]
       rfl
      refine done_ (done_of HT_.out (by kernel_rfl)) ?_
      clear HT_ HW_
      go_wp2
      go_ret
      replace HS := HS.fr5.tail
      exact ⟨er, HS⟩
    ·rw [if_neg a3] at h
     have ha3 : (a == 3) = false := beq_eq_false_iff_ne.2 a3
     clear a1 a2 a3
     obtain ⟨rfl, rfl⟩ := (Prod.mk.injEq _ _ _ _).mp (Option.some.inj h)
     clear h
     go_enter Tryz.func62, Tryz.ntmps62
     go_upto_region 5 with (first | ((with_reducible refine gate_dst (N := 3) rfl ?_); refine boxev 3 #[.int .i64 a, .int .i64 b, .string (⟨#[]⟩ : ByteArray)] 53 ?_; intro b3 hg_ W_ ho_ hb_; replace HS := HS.box hg_ ho_ hb_; clear hg_ ho_ hb_; obtain ⟨z30, z31, z32, f30, f31, f32⟩ := box3 (HS.blk 0); clear z30 z31 z32 f30 f31 f32; obtain ⟨z30, z31, z32, f30, f31, f32⟩ := box3 (HS.blk 0); obtain ⟨z00, z01, z02, z03, z04, f00, f01, f02, f03, f04⟩ := box5 (HS.blk 1)))
     go_upto_region 5 with fail
     clear z30 z31 z32 f30 f31 f32 z00 z01 z02 z03 z04 f00 f01 f02 f03 f04
     obtain ⟨z30, z31, z32, f30, f31, f32⟩ := box3 (HS.blk 0)
     obtain ⟨z00, z01, z02, z03, z04, f00, f01, f02, f03, f04⟩ := box5 (HS.blk 1)
     refine start_ (n := 15) (S := fun w' => w'.cell? ⟨b3, 0, none⟩ = some (.int .i64 a) ∧ w'.cell? ⟨b3, 1, none⟩ = some (.int .i64 b) ∧ w'.cell? ⟨b3, 2, none⟩ = some (.string (⟨#[]⟩ : ByteArray)) ∧ w'.cell? ⟨b0, 0, none⟩ = some (.slice A0 ks.length c0) ∧ w'.cell? ⟨b0, 1, none⟩ = some (.slice A1 ps.length c1) ∧ w'.cell? ⟨b0, 2, none⟩ = some (.slice A2 ss.length c2) ∧ w'.cell? ⟨b0, 3, none⟩ = some (.slice A3 ib.length c3) ∧ w'.cell? ⟨b0, 4, none⟩ = some (.int .i64 sd)) (ds := []) (bl 15 0) (by kernel_rfl) rfl rfl ⟨z30, z31, z32, z00, z01, z02, z03, z04⟩ (fun hHeld => ?_); refine with_tabW impl_Net_step.tab5 impl_Net_step.bits5 (fun HT_ HW_ => ?_)
     clear z30 z31 z32 f30 f31 f32 z00 z01 z02 z03 z04 f00 f01 f02 f03 f04
     replace HS := HS.drew
     generalize World.drew _ = W9_ at HS hHeld ⊢
     refine pureA 0 (some 20) 15 1 HT_ ?_
     refine takeA 1 (some 21) 15 3 HT_ HW_ hHeld ?_ (hy := by rintro w' ⟨s0, s1, s2, s3, s4, s5, s6, s7⟩; go_simp; with_reducible rfl)
     refine pureA 2 (some 22) 15 7 HT_ ?_
     refine pureA 3 (some 23) 15 15 HT_ ?_
     try simp only [ha2]
     refine pureB 4 (some 24) 15 31 HT_ ?_
     refine pureB 5 (some 25) 15 63 HT_ ?_
     refine pureB 6 (some 26) 15 127 HT_ ?_
     refine pureB 7 (some 27) 15 255 HT_ ?_
     refine pureB 8 (some 28) 15 511 HT_ ?_
     refine pureB 9 (some 29) 15 1023 HT_ ?_
     refine pureB 10 (some 30) 15 2047 HT_ ?_
     refine pureB 11 (some 31) 15 4095 HT_ ?_
     refine pureB 12 (some 32) 15 8191 HT_ ?_
     refine pureA 13 (some 33) 15 16383 HT_ ?_
     refine pureA 14 (some 19) 15 32767 HT_ ?_
     refine done_ (done_of HT_.out (by kernel_rfl)) ?_
     clear HT_ HW_ hHeld
     obtain ⟨z30, z31, z32, f30, f31, f32⟩ := box3 (HS.blk 0)
     obtain ⟨z00, z01, z02, z03, z04, f00, f01, f02, f03, f04⟩ := box5 (HS.blk 1)
     go_upto_region 8 with fail
     go_upto_region 8 with fail
     clear z30 z31 z32 f30 f31 f32 z00 z01 z02 z03 z04 f00 f01 f02 f03 f04
     obtain ⟨z30, z31, z32, f30, f31, f32⟩ := box3 (HS.blk 0)
     obtain ⟨z00, z01, z02, z03, z04, f00, f01, f02, f03, f04⟩ := box5 (HS.blk 1)
     refine start_ (n := 17) (S := fun w' => w'.cell? ⟨b3, 0, none⟩ = some (.int .i64 a) ∧ w'.cell? ⟨b3, 1, none⟩ = some (.int .i64 b) ∧ w'.cell? ⟨b3, 2, none⟩ = some (.string (⟨#[]⟩ : ByteArray)) ∧ w'.cell? ⟨b0, 0, none⟩ = some (.slice A0 ks.length c0) ∧ w'.cell? ⟨b0, 1, none⟩ = some (.slice A1 ps.length c1) ∧ w'.cell? ⟨b0, 2, none⟩ = some (.slice A2 ss.length c2) ∧ w'.cell? ⟨b0, 3, none⟩ = some (.slice A3 ib.length c3) ∧ w'.cell? ⟨b0, 4, none⟩ = some (.int .i64 sd)) (ds := []) (bl 17 0) (by kernel_rfl) rfl rfl ⟨z30, z31, z32, z00, z01, z02, z03, z04⟩ (fun hHeld => ?_); refine with_tabW impl_Net_step.tab8 impl_Net_step.bits8 (fun HT_ HW_ => ?_)
     clear z30 z31 z32 f30 f31 f32 z00 z01 z02 z03 z04 f00 f01 f02 f03 f04
     replace HS := HS.drew
     generalize World.drew _ = W9_ at HS hHeld ⊢
     refine pureA 0 (some 39) 17 1 HT_ ?_
     refine takeA 1 (some 40) 17 3 HT_ HW_ hHeld ?_ (hy := by rintro w' ⟨s0, s1, s2, s3, s4, s5, s6, s7⟩; go_simp; with_reducible rfl)
     refine pureA 2 (some 41) 17 7 HT_ ?_
     refine pureA 3 (some 42) 17 15 HT_ ?_
     try simp only [ha3]
     refine pureB 4 (some 43) 17 31 HT_ ?_
     refine pureB 5 (some 44) 17 63 HT_ ?_
     refine pureB 6 (some 45) 17 127 HT_ ?_
     refine pureB 7 (some 46) 17 255 HT_ ?_
     refine pureB 8 (some 47) 17 511 HT_ ?_
     refine pureB 9 (some 48) 17 1023 HT_ ?_
     refine pureB 10 (some 49) 17 2047 HT_ ?_
     refine pureB 11 (some 50) 17 4095 HT_ ?_
     refine pureB 12 (some 51) 17 8191 HT_ ?_
     refine pureB 13 (some 52) 17 16383 HT_ ?_
     refine pureB 14 (some 53) 17 32767 HT_ ?_
     refine pureA 15 (some 54) 17 65535 HT_ ?_
     refine pureA 16 (some 38) 17 131071 HT_ ?_
     refine done_ (done_of HT_.out (by kernel_rfl)) ?_
     clear HT_ HW_ hHeld
     obtain ⟨z30, z31, z32, f30, f31, f32⟩ := box3 (HS.blk 0)
     obtain ⟨z00, z01, z02, z03, z04, f00, f01, f02, f03, f04⟩ := box5 (HS.blk 1)
     go_wp2
     go_ret
     replace HS := HS.tail
     exact ⟨er, HS⟩
  ·rw [if_neg hx] at h
   have hxe := nw_nonempty hx
   clear hx a1
   obtain ⟨rfl, rfl⟩ := (Prod.mk.injEq _ _ _ _).mp (Option.some.inj h)
   clear h
   go_enter Tryz.func62, Tryz.ntmps62
   go_wp2_with (first | ((with_reducible refine gate_dst (N := 3) rfl ?_); refine boxev 3 #[.int .i64 a, .int .i64 b, .string x] 53 ?_; intro b3 hg_ W_ ho_ hb_; replace HS := HS.box hg_ ho_ hb_; clear hg_ ho_ hb_; obtain ⟨z30, z31, z32, f30, f31, f32⟩ := box3 (HS.blk 0); clear z30 z31 z32 f30 f31 f32; obtain ⟨z30, z31, z32, f30, f31, f32⟩ := box3 (HS.blk 0); obtain ⟨z00, z01, z02, z03, z04, f00, f01, f02, f03, f04⟩ := box5 (HS.blk 1)))
   go_ret
   replace HS := HS.tail
   exact ⟨er, HS⟩

theorem impl_GoodNet.net {k : Nat} {v0 v1 v2 v3 : Value} {n : Nt} {r : Bool} {w : World} (hn : NC w v0 v1 v2 v3 n) (h : impl_GoodNet.f k n.ks n.ps n.ss n.ib n.sd = some r) :
    Calls Tryz.prog 35 #[.agg #[v0, v1, v2, v3, .int .i64 n.sd]] w fun e w' => e = .returned (.bool r) ∧ Below w.heap.size w w' := by
  obtain ⟨A0, c0, A1, c1, A2, c2, A3, c3, ⟨rfl, rfl, rfl, rfl⟩, ⟨x0, y0⟩, ⟨x1, y1⟩, ⟨x2, y2⟩, ⟨x3, y3⟩⟩ := hn
  exact impl_GoodNet.calls k A0 c0 n.ks A1 c1 n.ps A2 c2 n.ss A3 c3 n.ib n.sd r w x0 y0 x1 y1 x2 y2 x3 y3 h
/-! ### impl_StepNet: function 30 -/
def impl_StepNet.f (k : Nat) (n : Nt) (a b : Int) (x : ByteArray) : Option (Nt × Bool) := (impl_GoodNet.f k n.ks n.ps n.ss n.ib n.sd).bind fun g => if g = false then some (⟨[], [], [], [], 0⟩, false) else (impl_Net_own.f k n).bind fun n1 => (impl_Net_step.f k n1 a b x).bind fun (n2, r) => if r = false then some (⟨[], [], [], [], 0⟩, false) else some (n2, true)
set_option maxHeartbeats 16000000 in
set_option maxRecDepth 100000 in
theorem impl_StepNet.calls {k : Nat} {v0 v1 v2 v3 : Value} {n m : Nt} {a b : Int} {x : ByteArray} {r : Bool} {w : World} (hn : NC w v0 v1 v2 v3 n) (h : impl_StepNet.f k n a b x = some (m, r)) :
    Calls Tryz.prog 30 #[.agg #[v0, v1, v2, v3, .int .i64 n.sd], .agg #[.int .i64 a, .int .i64 b, .string x]] w (MadeNet w m r) := by
 have hu27 := Tryz.underlying27
 have hu53 := Tryz.underlying53
 unfold impl_StepNet.f at h
 obtain ⟨A0, c0, A1, c1, A2, c2, A3, c3, e_, x_⟩ := hn
 have HN := ak (show NC w v0 v1 v2 v3 n from ⟨A0, c0, A1, c1, A2, c2, A3, c3, e_, x_⟩)
 obtain ⟨rfl, rfl, rfl, rfl⟩ := e_
 clear x_
 obtain ⟨ks, ps, ss, ib, sd⟩ := n
 dsimp only at HN h ⊢
 have HS := Sep.nil w
 replace h := bS h; obtain ⟨g, T0, h⟩ := h
 cases g with
 | false =>
  rw [if_pos rfl] at h
  obtain ⟨rfl, rfl⟩ := (Prod.mk.injEq _ _ _ _).mp (Option.some.inj h)
  clear h
  go_enter Tryz.func30, Tryz.ntmps30
  go_wp2_with (first | ((with_reducible refine gate_dst (N := 2) rfl ?_); refine boxev 2 #[.slice A0 ks.length c0, .slice A1 ps.length c1, .slice A2 ss.length c2, .slice A3 ib.length c3, .int .i64 sd] 27 ?_; intro b2 hg_ W_ ho_ hb_; replace HS := HS.box hg_ ho_ hb_; clear hg_ ho_ hb_; obtain ⟨z20, z21, z22, z23, z24, f20, f21, f22, f23, f24⟩ := box5 (HS.blk 0)) | ((with_reducible refine gate_dst (N := 3) rfl ?_); refine boxev 3 #[.int .i64 a, .int .i64 b, .string x] 53 ?_; intro b3 hg_ W_ ho_ hb_; replace HS := HS.box hg_ ho_ hb_; clear hg_ ho_ hb_; clear z20 z21 z22 z23 z24 f20 f21 f22 f23 f24; obtain ⟨z30, z31, z32, f30, f31, f32⟩ := box3 (HS.blk 0)) | ((with_reducible refine gate_dst (N := 4) rfl ?_); refine boxev 4 #[.slice none 0 0, .slice none 0 0, .slice none 0 0, .slice none 0 0, .int .i64 0] 27 ?_; intro b4 hg_ W_ ho_ hb_; replace HS := HS.box hg_ ho_ hb_; clear hg_ ho_ hb_; clear z30 z31 z32 f30 f31 f32; obtain ⟨z40, z41, z42, z43, z44, f40, f41, f42, f43, f44⟩ := box5 (HS.blk 0); clear z40 z41 z42 z43 z44 f40 f41 f42 f43 f44; obtain ⟨z40, z41, z42, z43, z44, f40, f41, f42, f43, f44⟩ := box5 (HS.blk 0); obtain ⟨z30, z31, z32, f30, f31, f32⟩ := box3 (HS.blk 1); obtain ⟨z20, z21, z22, z23, z24, f20, f21, f22, f23, f24⟩ := box5 (HS.blk 2)) | (go_at_call 35; have HC_ := impl_GoodNet.net (n := ⟨ks, ps, ss, ib, sd⟩) (HN.out.below HS.base) T0.out; refine HC_.mono ?_; clear HC_; rintro e W_ ⟨rfl, hb_⟩; replace HS := HS.below hb_; clear hb_; clear z40 z41 z42 z43 z44 f40 f41 f42 f43 f44 z30 z31 z32 f30 f31 f32 z20 z21 z22 z23 z24 f20 f21 f22 f23 f24; obtain ⟨z40, z41, z42, z43, z44, f40, f41, f42, f43, f44⟩ := box5 (HS.blk 0); obtain ⟨z30, z31, z32, f30, f31, f32⟩ := box3 (HS.blk 1); obtain ⟨z20, z21, z22, z23, z24, f20, f21, f22, f23, f24⟩ := box5 (HS.blk 2)))
  have HF := HS.put5I 0 (.slice none 0 0) (.slice none 0 0) (.slice none 0 0) (.slice none 0 0) (.int .i64 0)
  refine bodyPost_ret (results_ct rfl _ _ b4 27 #[.slice none 0 0, .slice none 0 0, .slice none 0 0, .slice none 0 0, .int .i64 0] (0, 0) _ rfl (by exact (HF.blk 0).out) Tryz.underlying27 rfl (by kernel_rfl)) rfl ?_
  exact ⟨_, _, _, _, rfl, nw_none HF, HF.base⟩
 | true =>
  rw [if_neg (by decide)] at h
  replace h := bS h; obtain ⟨n1, T1, h⟩ := h
  replace h := bS h; obtain ⟨⟨n2, q⟩, T2, h⟩ := h
  dsimp only at h
  go_enter Tryz.func30, Tryz.ntmps30
  go_upto_region 4 with (first | ((with_reducible refine gate_dst (N := 2) rfl ?_); refine boxev 2 #[.slice A0 ks.length c0, .slice A1 ps.length c1, .slice A2 ss.length c2, .slice A3 ib.length c3, .int .i64 sd] 27 ?_; intro b2 hg_ W_ ho_ hb_; replace HS := HS.box hg_ ho_ hb_; clear hg_ ho_ hb_; obtain ⟨z20, z21, z22, z23, z24, f20, f21, f22, f23, f24⟩ := box5 (HS.blk 0)) | ((with_reducible refine gate_dst (N := 3) rfl ?_); refine boxev 3 #[.int .i64 a, .int .i64 b, .string x] 53 ?_; intro b3 hg_ W_ ho_ hb_; replace HS := HS.box hg_ ho_ hb_; clear hg_ ho_ hb_; clear z20 z21 z22 z23 z24 f20 f21 f22 f23 f24; obtain ⟨z30, z31, z32, f30, f31, f32⟩ := box3 (HS.blk 0)) | ((with_reducible refine gate_dst (N := 4) rfl ?_); refine boxev 4 #[.slice none 0 0, .slice none 0 0, .slice none 0 0, .slice none 0 0, .int .i64 0] 27 ?_; intro b4 hg_ W_ ho_ hb_; replace HS := HS.box hg_ ho_ hb_; clear hg_ ho_ hb_; clear z30 z31 z32 f30 f31 f32; obtain ⟨z40, z41, z42, z43, z44, f40, f41, f42, f43, f44⟩ := box5 (HS.blk 0); clear z40 z41 z42 z43 z44 f40 f41 f42 f43 f44; obtain ⟨z40, z41, z42, z43, z44, f40, f41, f42, f43, f44⟩ := box5 (HS.blk 0); obtain ⟨z30, z31, z32, f30, f31, f32⟩ := box3 (HS.blk 1); obtain ⟨z20, z21, z22, z23, z24, f20, f21, f22, f23, f24⟩ := box5 (HS.blk 2)) | (go_at_call 35; have HC_ := impl_GoodNet.net (n := ⟨ks, ps, ss, ib, sd⟩) (HN.out.below HS.base) T0.out; refine HC_.mono ?_; clear HC_; rintro e W_ ⟨rfl, hb_⟩; replace HS := HS.below hb_; clear hb_; clear z40 z41 z42 z43 z44 f40 f41 f42 f43 f44 z30 z31 z32 f30 f31 f32 z20 z21 z22 z23 z24 f20 f21 f22 f23 f24; obtain ⟨z40, z41, z42, z43, z44, f40, f41, f42, f43, f44⟩ := box5 (HS.blk 0); obtain ⟨z30, z31, z32, f30, f31, f32⟩ := box3 (HS.blk 1); obtain ⟨z20, z21, z22, z23, z24, f20, f21, f22, f23, f24⟩ := box5 (HS.blk 2)) | (go_at_call 55; have HC_ := impl_Net_own.calls (n := ⟨ks, ps, ss, ib, sd⟩) (HN.out.below HS.base) T1.out; refine HC_.mono ?_; clear HC_; rintro e W_ ⟨u0, u1, u2, u3, rfl, hc_, hb_⟩; replace HS := HS.news hb_ hc_; clear hc_ hb_; dsimp only [netA, List.cons_append, List.nil_append] at HS; obtain ⟨B0, d0, rfl⟩ := HS.slR 0; obtain ⟨B1, d1, rfl⟩ := HS.slS 1; obtain ⟨B2, d2, rfl⟩ := HS.slS 2; obtain ⟨B3, d3, rfl⟩ := HS.slS 3; clear z40 z41 z42 z43 z44 f40 f41 f42 f43 f44 z30 z31 z32 f30 f31 f32 z20 z21 z22 z23 z24 f20 f21 f22 f23 f24; obtain ⟨z40, z41, z42, z43, z44, f40, f41, f42, f43, f44⟩ := box5 (HS.blk 4); obtain ⟨z30, z31, z32, f30, f31, f32⟩ := box3 (HS.blk 5); obtain ⟨z20, z21, z22, z23, z24, f20, f21, f22, f23, f24⟩ := box5 (HS.blk 6)) | ((with_reducible refine gate_dst (N := 6) rfl ?_); refine boxev 6 #[.slice none 0 0, .slice none 0 0, .slice none 0 0, .slice none 0 0, .int .i64 0] 27 ?_; intro b6 hg_ W_ ho_ hb_; replace HS := HS.box hg_ ho_ hb_; clear hg_ ho_ hb_; clear z40 z41 z42 z43 z44 f40 f41 f42 f43 f44 z30 z31 z32 f30 f31 f32 z20 z21 z22 z23 z24 f20 f21 f22 f23 f24; obtain ⟨z60, z61, z62, z63, z64, f60, f61, f62, f63, f64⟩ := box5 (HS.blk 0); clear z60 z61 z62 z63 z64 f60 f61 f62 f63 f64; obtain ⟨z60, z61, z62, z63, z64, f60, f61, f62, f63, f64⟩ := box5 (HS.blk 0)))
  clear z60 z61 z62 z63 z64 f60 f61 f62 f63 f64
  obtain ⟨W5_, e5_, H5_⟩ := (((((HS.putI 0 0 (.slice B0 n1.ks.length d0) #[.slice B0 n1.ks.length d0, .slice none 0 0, .slice none 0 0, .slice none 0 0, .int .i64 0]).putI 0 1 (.slice B1 n1.ps.length d1) #[.slice B0 n1.ks.length d0, .slice B1 n1.ps.length d1, .slice none 0 0, .slice none 0 0, .int .i64 0]).putI 0 2 (.slice B2 n1.ss.length d2) #[.slice B0 n1.ks.length d0, .slice B1 n1.ps.length d1, .slice B2 n1.ss.length d2, .slice none 0 0, .int .i64 0]).putI 0 3 (.slice B3 n1.ib.length d3) #[.slice B0 n1.ks.length d0, .slice B1 n1.ps.length d1, .slice B2 n1.ss.length d2, .slice B3 n1.ib.length d3, .int .i64 0]).putI 0 4 (.int .i64 n1.sd) #[.slice B0 n1.ks.length d0, .slice B1 n1.ps.length d1, .slice B2 n1.ss.length d2, .slice B3 n1.ib.length d3, .int .i64 n1.sd]).gen
  rw [e5_]
  clear HS e5_
  have HS := H5_
  clear H5_
  obtain ⟨z60, z61, z62, z63, z64, f60, f61, f62, f63, f64⟩ := box5 (HS.blk 0)
  obtain ⟨z40, z41, z42, z43, z44, f40, f41, f42, f43, f44⟩ := box5 (HS.blk 5)
  obtain ⟨z30, z31, z32, f30, f31, f32⟩ := box3 (HS.blk 6)
  cases q with
  | false =>
   rw [if_pos rfl] at h
   obtain ⟨rfl, rfl⟩ := (Prod.mk.injEq _ _ _ _).mp (Option.some.inj h)
   clear h
   go_wp2_with (first | (go_at_call 62; have HC_ := impl_Net_step.calls (n := n1) (HS) T2.out; refine HC_.mono ?_; clear HC_; rintro e W_ ⟨rfl, HS'_⟩; clear HS; have HS := HS'_; clear HS'_; dsimp only [netA, List.cons_append, List.nil_append] at HS; clear z60 z61 z62 z63 z64 f60 f61 f62 f63 f64 z40 z41 z42 z43 z44 f40 f41 f42 f43 f44 z30 z31 z32 f30 f31 f32; obtain ⟨z60, z61, z62, z63, z64, f60, f61, f62, f63, f64⟩ := box5 (HS.blk 0); obtain ⟨z40, z41, z42, z43, z44, f40, f41, f42, f43, f44⟩ := box5 (HS.blk 5)))
   have HF := HS.put5I 5 (.slice none 0 0) (.slice none 0 0) (.slice none 0 0) (.slice none 0 0) (.int .i64 0)
   refine bodyPost_ret (results_ct rfl _ _ b4 27 #[.slice none 0 0, .slice none 0 0, .slice none 0 0, .slice none 0 0, .int .i64 0] (0, 0) _ rfl (by exact (HF.blk 5).out) Tryz.underlying27 rfl (by kernel_rfl)) rfl ?_
   exact ⟨_, _, _, _, rfl, nw_none HF, HF.base⟩
  | true =>
   rw [if_neg (by decide)] at h
   obtain ⟨rfl, rfl⟩ := (Prod.mk.injEq _ _ _ _).mp (Option.some.inj h)
   clear h
   go_wp2_with (first | (go_at_call 62; have HC_ := impl_Net_step.calls (n := n1) (HS) T2.out; refine HC_.mono ?_; clear HC_; rintro e W_ ⟨rfl, HS'_⟩; clear HS; have HS := HS'_; clear HS'_; dsimp only [netA, List.cons_append, List.nil_append] at HS; clear z60 z61 z62 z63 z64 f60 f61 f62 f63 f64 z40 z41 z42 z43 z44 f40 f41 f42 f43 f44 z30 z31 z32 f30 f31 f32; obtain ⟨z60, z61, z62, z63, z64, f60, f61, f62, f63, f64⟩ := box5 (HS.blk 0); obtain ⟨z40, z41, z42, z43, z44, f40, f41, f42, f43, f44⟩ := box5 (HS.blk 5)))
   have HF := HS.put5I 5 (.slice B0 n1.ks.length d0) (.slice B1 n1.ps.length d1) (.slice B2 n1.ss.length d2) (.slice B3 n1.ib.length d3) (.int .i64 n2.sd)
   refine bodyPost_ret (results_ct rfl _ _ b4 27 #[.slice B0 n1.ks.length d0, .slice B1 n1.ps.length d1, .slice B2 n1.ss.length d2, .slice B3 n1.ib.length d3, .int .i64 n2.sd] (0, 0) _ rfl (by exact (HF.blk 5).out) Tryz.underlying27 rfl (by kernel_rfl)) rfl ?_
   replace HS := HF
   have HF := HS.fr4.fr4.fr4.fr4
   exact ⟨_, _, _, _, rfl, nw_apart HF, HF.base⟩

end Go.Proofs.YtihekdlcfohkkaaGreatDoor.QFnExactStepNet
