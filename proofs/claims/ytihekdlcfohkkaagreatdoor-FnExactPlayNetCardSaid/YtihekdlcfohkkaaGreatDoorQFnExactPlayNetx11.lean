-- printed by this session's own program (wip/tools/pp.py: the kit's print.py with changes); Lean checks it
import Derived.Test.YtihekdlcfohkkaaGreatDoorQFnExactPlayNetx0
import Derived.Test.YtihekdlcfohkkaaGreatDoorQFnExactPlayNetx4
import Derived.Test.YtihekdlcfohkkaaGreatDoorQFnExactPlayNetx7
import Derived.Test.YtihekdlcfohkkaaGreatDoorQFnExactPlayNetx8
import Derived.Test.YtihekdlcfohkkaaGreatDoorQFnExactPlayNetx9
import Derived.Test.YtihekdlcfohkkaaGreatDoorQFnExactPlayNetx10
namespace Go.Proofs.YtihekdlcfohkkaaGreatDoor.QFnExactPlayNet
open Go.RowKit Go.Proofs.YtihekdlcfohkkaaGreatDoorW.PrintWords Go.Proofs.YtihekdlcfohkkaaGreatDoorW.PrintLast Go.Proofs.YtihekdlcfohkkaaGreatDoorW.PrintMore
attribute [local go_sem] max2_int min2_int max_two min_two max_three min_three max_four min_four strLss strGtr strLeq strGeq   -- for this text's walks alone
set_option linter.unusedVariables false
set_option linter.unusedSimpArgs false

/-! ### impl_Net_step: function 62 -/
def impl_Net_step.T5 : Bool × List (List Nat × List Nat) := (true, [([], []), ([0], [0]), ([1], [1]), ([2], [2]), ([3], [3]), ([4, 3], [3, 4]), ([3], [3]), ([6, 3], [3, 6]), ([7, 3], [3, 7]), ([8, 3], [3, 8]), ([9, 3], [3, 9]), ([10, 3], [3, 10]), ([5, 11, 3, 3], [3, 5, 11]), ([3, 12], [3, 12]), ([13, 12], [13])])
def impl_Net_step.B5 : List Nat := [0, 1, 3, 7, 15, 31, 15, 79, 207, 463, 975, 1999, 4095, 8191, 16383]
theorem impl_Net_step.tab5 : rtab .any (opsOf Tryz.f62 5) = impl_Net_step.T5 := by kernel_rfl
theorem impl_Net_step.bits5 : waitsOk impl_Net_step.T5.2 impl_Net_step.B5 = true := by kernel_rfl
def impl_Net_step.T8 : Bool × List (List Nat × List Nat) := (true, [([], []), ([0], [0]), ([1], [1]), ([2], [2]), ([3], [3]), ([4, 3], [3, 4]), ([3], [3]), ([6, 3], [3, 6]), ([7, 3], [3, 7]), ([8, 3], [3, 8]), ([9, 3], [3, 9]), ([10, 3], [3, 10]), ([11, 3], [3, 11]), ([12, 3], [3, 12]), ([5, 13, 3, 3], [3, 5, 13]), ([3, 14], [3, 14]), ([15, 14], [15])])
def impl_Net_step.B8 : List Nat := [0, 1, 3, 7, 15, 31, 15, 79, 207, 463, 975, 1999, 4047, 8143, 16383, 32767, 65535]
theorem impl_Net_step.tab8 : rtab .any (opsOf Tryz.f62 8) = impl_Net_step.T8 := by kernel_rfl
theorem impl_Net_step.bits8 : waitsOk impl_Net_step.T8.2 impl_Net_step.B8 = true := by kernel_rfl
def impl_Net_step.T9 : Bool × List (List Nat × List Nat) := (true, [([], []), ([], []), ([1], [1]), ([2], [2]), ([3], [3]), ([4], [4]), ([5], [5]), ([], []), ([7], [7]), ([6, 8], [6, 8]), ([9], [9]), ([0, 10], [0, 10])])
def impl_Net_step.B9 : List Nat := [0, 0, 2, 6, 14, 30, 62, 0, 128, 510, 1022, 2047]
theorem impl_Net_step.tab9 : rtab .any (opsOf Tryz.f62 9) = impl_Net_step.T9 := by kernel_rfl
theorem impl_Net_step.bits9 : waitsOk impl_Net_step.T9.2 impl_Net_step.B9 = true := by kernel_rfl
def impl_Net_step.f (k : Nat) (n : Nt) (a b : Int) (x : ByteArray) : Option (Nt × Bool) := if a = 1 then impl_Net_say.f k n b x else if x = (⟨#[]⟩ : ByteArray) then (if a = 2 then (impl_within.f b 0 (wrap64 ((n.ks.length : Int) - 1))).bind fun c => if c = true then (impl_Net_goOn.f k n b).bind fun m => some (m, true) else some (n, false) else if a = 3 then (if 0 < n.ss.length then (impl_within.f b 0 (wrap64 (((n.ss.getD 0 []).length : Int) - 1))).bind fun c => if c = true then (if 0 ≤ b ∧ b < ((n.ss.getD 0 []).length : Int) then (impl_Net_come.f k n 0 (rdOf ByteArray.empty (n.ss.getD 0 []) b)).bind fun m => some (m, true) else none) else some (n, false) else none) else some (n, false)) else some (n, false)
set_option maxHeartbeats 16000000 in
set_option maxRecDepth 100000 in
theorem impl_Net_step.calls {k : Nat} {v0 v1 v2 v3 : Value} {n m : Nt} {a b : Int} {x : ByteArray} {r : Bool} {L : List SA} {w0 w : World} {b0 : Nat} (hs : Sep w0 w (bA b0 #[v0, v1, v2, v3, .int .i64 n.sd] 27 :: netA v0 v1 v2 v3 n ++ L)) (h : impl_Net_step.f k n a b x = some (m, r)) :
    Calls Tryz.prog 62 #[.pointer (some ⟨b0, 0, none⟩), .agg #[.int .i64 a, .int .i64 b, .string x]] w fun e w' => e = .returned (.bool r) ∧ Sep w0 w' (bA b0 #[v0, v1, v2, v3, .int .i64 m.sd] 27 :: netA v0 v1 v2 v3 m ++ L) := by
 have hu27 := Tryz.underlying27
 have hu53 := Tryz.underlying53
 obtain ⟨ks, ps, ss, ib, sd⟩ := n
 have HS : Sep w0 w (bA b0 #[v0, v1, v2, v3, .int .i64 sd] 27 :: rA KI 3 v0 ks :: sA KT 62 v1 ps :: sA KT 62 v2 ss :: sA KT 62 v3 ib :: L) := hs
 clear hs
 unfold impl_Net_step.f at h
 dsimp only at h ⊢
 obtain ⟨A0, c0, rfl⟩ := HS.slR 1
 obtain ⟨A1, c1, rfl⟩ := HS.slS 2
 obtain ⟨A2, c2, rfl⟩ := HS.slS 3
 obtain ⟨A3, c3, rfl⟩ := HS.slS 4
 by_cases a1 : a = 1
 ·rw [if_pos a1] at h
  subst a1
  obtain ⟨ks1, ps1, ss1, ib1, sd1⟩ := m
  have T1 := ak h; clear h
  go_enter Tryz.func62, Tryz.ntmps62
  go_wp2_with (first | ((with_reducible refine gate_dst (N := 3) rfl ?_); refine boxev 3 #[.int .i64 1, .int .i64 b, .string x] 53 ?_; intro b3 hg_ W_ ho_ hb_; replace HS := HS.box hg_ ho_ hb_; clear hg_ ho_ hb_; obtain ⟨z30, z31, z32, f30, f31, f32⟩ := box3 (HS.blk 0); clear z30 z31 z32 f30 f31 f32; obtain ⟨z30, z31, z32, f30, f31, f32⟩ := box3 (HS.blk 0); obtain ⟨z00, z01, z02, z03, z04, f00, f01, f02, f03, f04⟩ := box5 (HS.blk 1)) | (go_at_call 97; have HC_ := impl_Net_say.calls (n := ⟨ks, ps, ss, ib, sd⟩) (HS.fr5.fr5.fr5.fr5.fr5) T1.out; refine HC_.mono ?_; clear HC_; rintro e W_ ⟨rfl, HS'_⟩; clear HS; have HS := HS'_; clear HS'_; dsimp only [netA, List.cons_append, List.nil_append] at HS; clear z30 z31 z32 f30 f31 f32 z00 z01 z02 z03 z04 f00 f01 f02 f03 f04; obtain ⟨z30, z31, z32, f30, f31, f32⟩ := box3 (HS.blk 5); obtain ⟨z00, z01, z02, z03, z04, f00, f01, f02, f03, f04⟩ := box5 (HS.blk 0)))
  go_ret
  replace HS := HS.fr5.tail
  exact ⟨er, HS⟩
 ·rw [if_neg a1] at h
  have ha1 : (a == 1) = false := beq_eq_false_iff_ne.2 a1
  by_cases hx : x = (⟨#[]⟩ : ByteArray)
  ·rw [if_pos hx] at h
   subst hx
   by_cases a2 : a = 2
   ·rw [if_pos a2] at h
    subst a2
    clear a1 ha1
    replace h := bS h; obtain ⟨c, T2, h⟩ := h
    cases c with
    | false =>
     rw [if_neg (by decide)] at h
     obtain ⟨rfl, rfl⟩ := (Prod.mk.injEq _ _ _ _).mp (Option.some.inj h)
     clear h
     go_enter Tryz.func62, Tryz.ntmps62
     go_upto_region 5 with (first | ((with_reducible refine gate_dst (N := 3) rfl ?_); refine boxev 3 #[.int .i64 2, .int .i64 b, .string (⟨#[]⟩ : ByteArray)] 53 ?_; intro b3 hg_ W_ ho_ hb_; replace HS := HS.box hg_ ho_ hb_; clear hg_ ho_ hb_; obtain ⟨z30, z31, z32, f30, f31, f32⟩ := box3 (HS.blk 0); clear z30 z31 z32 f30 f31 f32; obtain ⟨z30, z31, z32, f30, f31, f32⟩ := box3 (HS.blk 0); obtain ⟨z00, z01, z02, z03, z04, f00, f01, f02, f03, f04⟩ := box5 (HS.blk 1)))
     go_upto_region 5 with fail
     clear z30 z31 z32 f30 f31 f32 z00 z01 z02 z03 z04 f00 f01 f02 f03 f04
     obtain ⟨z30, z31, z32, f30, f31, f32⟩ := box3 (HS.blk 0)
     obtain ⟨z00, z01, z02, z03, z04, f00, f01, f02, f03, f04⟩ := box5 (HS.blk 1)
     refine start_ (n := 15) (S := fun w' => w'.cell? ⟨b3, 0, none⟩ = some (.int .i64 2) ∧ w'.cell? ⟨b3, 1, none⟩ = some (.int .i64 b) ∧ w'.cell? ⟨b3, 2, none⟩ = some (.string (⟨#[]⟩ : ByteArray)) ∧ w'.cell? ⟨b0, 0, none⟩ = some (.slice A0 ks.length c0) ∧ w'.cell? ⟨b0, 1, none⟩ = some (.slice A1 ps.length c1) ∧ w'.cell? ⟨b0, 2, none⟩ = some (.slice A2 ss.length c2) ∧ w'.cell? ⟨b0, 3, none⟩ = some (.slice A3 ib.length c3) ∧ w'.cell? ⟨b0, 4, none⟩ = some (.int .i64 sd)) (ds := []) (bl 15 0) (by kernel_rfl) rfl rfl ⟨z30, z31, z32, z00, z01, z02, z03, z04⟩ (fun hHeld => ?_); refine with_tabW impl_Net_step.tab5 impl_Net_step.bits5 (fun HT_ HW_ => ?_)
     clear z30 z31 z32 f30 f31 f32 z00 z01 z02 z03 z04 f00 f01 f02 f03 f04
     replace HS := HS.drew
     generalize World.drew _ = W9_ at HS hHeld ⊢
     refine pureA 0 (some 20) 15 1 HT_ ?_
     refine takeA 1 (some 21) 15 3 HT_ HW_ hHeld ?_ (hy := by rintro w' ⟨s0, s1, s2, s3, s4, s5, s6, s7⟩; go_simp; with_reducible rfl)
     refine pureA 2 (some 22) 15 7 HT_ ?_
     refine pureA 3 (some 23) 15 15 HT_ ?_
     try simp only [show ((2 : Int) == 2) = true from rfl]
     refine pureA 4 (some 24) 15 31 HT_ ?_
     refine takeA 5 (some 25) 15 63 HT_ HW_ hHeld ?_ (hy := by rintro w' ⟨s0, s1, s2, s3, s4, s5, s6, s7⟩; go_simp; with_reducible rfl)
     refine pureA 6 (some 26) 15 127 HT_ ?_
     refine pureA 7 (some 27) 15 255 HT_ ?_
     refine pureA 8 (some 28) 15 511 HT_ ?_
     refine takeA 9 (some 29) 15 1023 HT_ HW_ hHeld ?_ (hy := by rintro w' ⟨s0, s1, s2, s3, s4, s5, s6, s7⟩; go_simp; with_reducible rfl)
     refine pureA 10 (some 30) 15 2047 HT_ ?_
     refine pureA 11 (some 31) 15 4095 HT_ ?_
     refine oneA 12 (some 32) 15 8191 HT_ (fun K hK => ?_)
     refine goes_ Tryz.func70 (by kernel_rfl) rfl #[.int .i64 b, .int .i64 0, .int .i64 (wrap64 ((ks.length : Int) - 1))] (by rfl) rfl rfl (by (try simp only [List.map_toArray, List.map_cons, List.map_nil]); first | done | rfl) ?_
     refine (impl_within.calls _ _ _ _ _ T2.out).mono ?_
     clear hHeld
     rintro e W_ ⟨rfl, nd_, rfl⟩
     refine ⟨_, rfl, ?_⟩
     replace HS := HS.drewN nd_
     generalize World.drewN _ nd_ = W_ at HS ⊢
     obtain ⟨z30, z31, z32, f30, f31, f32⟩ := box3 (HS.blk 0)
     obtain ⟨z00, z01, z02, z03, z04, f00, f01, f02, f03, f04⟩ := box5 (HS.blk 1)
     refine hK.out _ _ ⟨z30, z31, z32, z00, z01, z02, z03, z04⟩ (fun hHeld => ?_)
     clear hK K z30 z31 z32 f30 f31 f32 z00 z01 z02 z03 z04 f00 f01 f02 f03 f04
     refine norm_ (a' := ?_) ?_ ?_
     rotate_left
     ·show Act.put _ (some 32) _ = _
      simp only [Act.put, List.setIfInBounds_toArray, List.set_cons_zero, List.set_cons_succ, i64_w, i32_w]
      rfl
     refine pureA 13 (some 33) 15 16383 HT_ ?_
     refine pureA 14 (some 19) 15 32767 HT_ ?_
     refine done_ (done_of HT_.out (by kernel_rfl)) ?_
     clear HT_ HW_ hHeld
     obtain ⟨z30, z31, z32, f30, f31, f32⟩ := box3 (HS.blk 0)
     obtain ⟨z00, z01, z02, z03, z04, f00, f01, f02, f03, f04⟩ := box5 (HS.blk 1)
     go_upto_region 8 with fail
     go_upto_region 8 with fail
     clear z30 z31 z32 f30 f31 f32 z00 z01 z02 z03 z04 f00 f01 f02 f03 f04
     obtain ⟨z30, z31, z32, f30, f31, f32⟩ := box3 (HS.blk 0)
     obtain ⟨z00, z01, z02, z03, z04, f00, f01, f02, f03, f04⟩ := box5 (HS.blk 1)
     refine start_ (n := 17) (S := fun w' => w'.cell? ⟨b3, 0, none⟩ = some (.int .i64 2) ∧ w'.cell? ⟨b3, 1, none⟩ = some (.int .i64 b) ∧ w'.cell? ⟨b3, 2, none⟩ = some (.string (⟨#[]⟩ : ByteArray)) ∧ w'.cell? ⟨b0, 0, none⟩ = some (.slice A0 ks.length c0) ∧ w'.cell? ⟨b0, 1, none⟩ = some (.slice A1 ps.length c1) ∧ w'.cell? ⟨b0, 2, none⟩ = some (.slice A2 ss.length c2) ∧ w'.cell? ⟨b0, 3, none⟩ = some (.slice A3 ib.length c3) ∧ w'.cell? ⟨b0, 4, none⟩ = some (.int .i64 sd)) (ds := []) (bl 17 0) (by kernel_rfl) rfl rfl ⟨z30, z31, z32, z00, z01, z02, z03, z04⟩ (fun hHeld => ?_); refine with_tabW impl_Net_step.tab8 impl_Net_step.bits8 (fun HT_ HW_ => ?_)
     clear z30 z31 z32 f30 f31 f32 z00 z01 z02 z03 z04 f00 f01 f02 f03 f04
     replace HS := HS.drew
     generalize World.drew _ = W9_ at HS hHeld ⊢
     refine pureA 0 (some 39) 17 1 HT_ ?_
     refine takeA 1 (some 40) 17 3 HT_ HW_ hHeld ?_ (hy := by rintro w' ⟨s0, s1, s2, s3, s4, s5, s6, s7⟩; go_simp; with_reducible rfl)
     refine pureA 2 (some 41) 17 7 HT_ ?_
     refine pureA 3 (some 42) 17 15 HT_ ?_
     try simp only [show ((2 : Int) == 3) = false from rfl]
     refine pureB 4 (some 43) 17 31 HT_ ?_
     refine pureB 5 (some 44) 17 63 HT_ ?_
     refine pureB 6 (some 45) 17 127 HT_ ?_
     refine pureB 7 (some 46) 17 255 HT_ ?_
     refine pureB 8 (some 47) 17 511 HT_ ?_
     refine pureB 9 (some 48) 17 1023 HT_ ?_
     refine pureB 10 (some 49) 17 2047 HT_ ?_
     refine pureB 11 (some 50) 17 4095 HT_ ?_
     refine pureB 12 (some 51) 17 8191 HT_ ?_
     refine pureB 13 (some 52) 17 16383 HT_ ?_
     refine pureB 14 (some 53) 17 32767 HT_ ?_
     refine pureA 15 (some 54) 17 65535 HT_ ?_
     refine pureA 16 (some 38) 17 131071 HT_ ?_
     refine done_ (done_of HT_.out (by kernel_rfl)) ?_
     clear HT_ HW_ hHeld
     obtain ⟨z30, z31, z32, f30, f31, f32⟩ := box3 (HS.blk 0)
     obtain ⟨z00, z01, z02, z03, z04, f00, f01, f02, f03, f04⟩ := box5 (HS.blk 1)
     go_wp2
     go_ret
     replace HS := HS.tail
     exact ⟨er, HS⟩
    | true =>
     rw [if_pos rfl] at h
     replace h := bS h; obtain ⟨⟨ks1, ps1, ss1, ib1, sd1⟩, T1, h⟩ := h
     obtain ⟨e1, e3⟩ := impl_Net_goOn.keeps T1.out
     dsimp only at e1 e3
     replace e1 := e1.symm; replace e3 := e3.symm
     subst e1 e3
     obtain ⟨rfl, rfl⟩ := (Prod.mk.injEq _ _ _ _).mp (Option.some.inj h)
     clear h
     go_enter Tryz.func62, Tryz.ntmps62
     go_upto_region 5 with (first | ((with_reducible refine gate_dst (N := 3) rfl ?_); refine boxev 3 #[.int .i64 2, .int .i64 b, .string (⟨#[]⟩ : ByteArray)] 53 ?_; intro b3 hg_ W_ ho_ hb_; replace HS := HS.box hg_ ho_ hb_; clear hg_ ho_ hb_; obtain ⟨z30, z31, z32, f30, f31, f32⟩ := box3 (HS.blk 0); clear z30 z31 z32 f30 f31 f32; obtain ⟨z30, z31, z32, f30, f31, f32⟩ := box3 (HS.blk 0); obtain ⟨z00, z01, z02, z03, z04, f00, f01, f02, f03, f04⟩ := box5 (HS.blk 1)))
     go_upto_region 5 with fail
     clear z30 z31 z32 f30 f31 f32 z00 z01 z02 z03 z04 f00 f01 f02 f03 f04
     obtain ⟨z30, z31, z32, f30, f31, f32⟩ := box3 (HS.blk 0)
     obtain ⟨z00, z01, z02, z03, z04, f00, f01, f02, f03, f04⟩ := box5 (HS.blk 1)
     refine start_ (n := 15) (S := fun w' => w'.cell? ⟨b3, 0, none⟩ = some (.int .i64 2) ∧ w'.cell? ⟨b3, 1, none⟩ = some (.int .i64 b) ∧ w'.cell? ⟨b3, 2, none⟩ = some (.string (⟨#[]⟩ : ByteArray)) ∧ w'.cell? ⟨b0, 0, none⟩ = some (.slice A0 ks.length c0) ∧ w'.cell? ⟨b0, 1, none⟩ = some (.slice A1 ps.length c1) ∧ w'.cell? ⟨b0, 2, none⟩ = some (.slice A2 ss.length c2) ∧ w'.cell? ⟨b0, 3, none⟩ = some (.slice A3 ib.length c3) ∧ w'.cell? ⟨b0, 4, none⟩ = some (.int .i64 sd)) (ds := []) (bl 15 0) (by kernel_rfl) rfl rfl ⟨z30, z31, z32, z00, z01, z02, z03, z04⟩ (fun hHeld => ?_); refine with_tabW impl_Net_step.tab5 impl_Net_step.bits5 (fun HT_ HW_ => ?_)
     clear z30 z31 z32 f30 f31 f32 z00 z01 z02 z03 z04 f00 f01 f02 f03 f04
     replace HS := HS.drew
     generalize World.drew _ = W9_ at HS hHeld ⊢
     refine pureA 0 (some 20) 15 1 HT_ ?_
     refine takeA 1 (some 21) 15 3 HT_ HW_ hHeld ?_ (hy := by rintro w' ⟨s0, s1, s2, s3, s4, s5, s6, s7⟩; go_simp; with_reducible rfl)
     refine pureA 2 (some 22) 15 7 HT_ ?_
     refine pureA 3 (some 23) 15 15 HT_ ?_
     try simp only [show ((2 : Int) == 2) = true from rfl]
     refine pureA 4 (some 24) 15 31 HT_ ?_
     refine takeA 5 (some 25) 15 63 HT_ HW_ hHeld ?_ (hy := by rintro w' ⟨s0, s1, s2, s3, s4, s5, s6, s7⟩; go_simp; with_reducible rfl)
     refine pureA 6 (some 26) 15 127 HT_ ?_
     refine pureA 7 (some 27) 15 255 HT_ ?_
     refine pureA 8 (some 28) 15 511 HT_ ?_
     refine takeA 9 (some 29) 15 1023 HT_ HW_ hHeld ?_ (hy := by rintro w' ⟨s0, s1, s2, s3, s4, s5, s6, s7⟩; go_simp; with_reducible rfl)
     refine pureA 10 (some 30) 15 2047 HT_ ?_
     refine pureA 11 (some 31) 15 4095 HT_ ?_
     refine oneA 12 (some 32) 15 8191 HT_ (fun K hK => ?_)
     refine goes_ Tryz.func70 (by kernel_rfl) rfl #[.int .i64 b, .int .i64 0, .int .i64 (wrap64 ((ks.length : Int) - 1))] (by rfl) rfl rfl (by (try simp only [List.map_toArray, List.map_cons, List.map_nil]); first | done | rfl) ?_
     refine (impl_within.calls _ _ _ _ _ T2.out).mono ?_
     clear hHeld
     rintro e W_ ⟨rfl, nd_, rfl⟩
     refine ⟨_, rfl, ?_⟩
     replace HS := HS.drewN nd_
     generalize World.drewN _ nd_ = W_ at HS ⊢
     obtain ⟨z30, z31, z32, f30, f31, f32⟩ := box3 (HS.blk 0)
     obtain ⟨z00, z01, z02, z03, z04, f00, f01, f02, f03, f04⟩ := box5 (HS.blk 1)
     refine hK.out _ _ ⟨z30, z31, z32, z00, z01, z02, z03, z04⟩ (fun hHeld => ?_)
     clear hK K z30 z31 z32 f30 f31 f32 z00 z01 z02 z03 z04 f00 f01 f02 f03 f04
     refine norm_ (a' := ?_) ?_ ?_
     rotate_left
     ·show Act.put _ (some 32) _ = _
      simp only [Act.put, List.setIfInBounds_toArray, List.set_cons_zero, List.set_cons_succ, i64_w, i32_w]
      rfl
     refine pureA 13 (some 33) 15 16383 HT_ ?_
     refine pureA 14 (some 19) 15 32767 HT_ ?_
     refine done_ (done_of HT_.out (by kernel_rfl)) ?_
     clear HT_ HW_ hHeld
     obtain ⟨z30, z31, z32, f30, f31, f32⟩ := box3 (HS.blk 0)
     obtain ⟨z00, z01, z02, z03, z04, f00, f01, f02, f03, f04⟩ := box5 (HS.blk 1)
     go_wp2_with (first | (go_at_call 92; have HC_ := impl_Net_goOn.calls (n := ⟨ks, ps, ss, ib, sd⟩) (HS.fr5.fr5.fr5.fr5.fr5) T1.out; refine HC_.mono ?_; clear HC_; rintro e W_ ⟨rfl, HS'_⟩; clear HS; have HS := HS'_; clear HS'_; dsimp only [netA, List.cons_append, List.nil_append] at HS; clear z30 z31 z32 f30 f31 f32 z00 z01 z02 z03 z04 f00 f01 f02 f03 f04; obtain ⟨z30, z31, z32, f30, f31, f32⟩ := box3 (HS.blk 5); obtain ⟨z00, z01, z02, z03, z04, f00, f01, f02, f03, f04⟩ := box5 (HS.blk 0)))
     go_ret
     replace HS := HS.fr5.tail
     exact ⟨er, HS⟩
   ·rw [if_neg a2] at h
    have ha2 : (a == 2) = false := beq_eq_false_iff_ne.2 a2
    by_cases a3 : a = 3
    ·rw [if_pos a3] at h
     subst a3
     clear a1 ha1 a2 ha2
     replace h := ifS h; obtain ⟨hs0, h⟩ := h
     obtain ⟨g2, q2, e⟩ := HS.addr 3 (hx := hs0)
     obtain rfl : A2 = some ⟨g2, 0, none⟩ := by injection e
     clear e
     have j0 : (0 : Int) ≤ 0 := Int.le_refl 0
     have j1 : (0 : Int) < (ss.length : Int) := by omega
     have pj1 : (0 < (ss.length : Int)) = True := eq_true j1
     have pj2 : (0 < ss.length) = True := eq_true hs0
     obtain ⟨AS, qS, HS, -, -⟩ := HS.fr3.lend 0 j0 j1
     have GS0 : ss.getD (0 : Int).toNat [] = ss.getD 0 [] := rfl
     rw [GS0] at HS
     generalize hS : ss.getD 0 [] = S at HS h GS0
     have GS := ak GS0; clear GS0 hS
     replace h := bS h; obtain ⟨c, T2, h⟩ := h
     cases c with
     | false =>
      rw [if_neg (by decide)] at h
      obtain ⟨rfl, rfl⟩ := (Prod.mk.injEq _ _ _ _).mp (Option.some.inj h)
      clear h
      go_enter Tryz.func62, Tryz.ntmps62
      go_upto_region 5 with (first | ((with_reducible refine gate_dst (N := 3) rfl ?_); refine boxev 3 #[.int .i64 3, .int .i64 b, .string (⟨#[]⟩ : ByteArray)] 53 ?_; intro b3 hg_ W_ ho_ hb_; replace HS := HS.box hg_ ho_ hb_; clear hg_ ho_ hb_; obtain ⟨z30, z31, z32, f30, f31, f32⟩ := box3 (HS.blk 0); clear z30 z31 z32 f30 f31 f32; obtain ⟨z30, z31, z32, f30, f31, f32⟩ := box3 (HS.blk 0); obtain ⟨z00, z01, z02, z03, z04, f00, f01, f02, f03, f04⟩ := box5 (HS.blk 3)))
      go_upto_region 5 with fail
      clear z30 z31 z32 f30 f31 f32 z00 z01 z02 z03 z04 f00 f01 f02 f03 f04
      obtain ⟨z30, z31, z32, f30, f31, f32⟩ := box3 (HS.blk 0)
      obtain ⟨z00, z01, z02, z03, z04, f00, f01, f02, f03, f04⟩ := box5 (HS.blk 3)
      refine start_ (n := 15) (S := fun w' => w'.cell? ⟨b3, 0, none⟩ = some (.int .i64 3) ∧ w'.cell? ⟨b3, 1, none⟩ = some (.int .i64 b) ∧ w'.cell? ⟨b3, 2, none⟩ = some (.string (⟨#[]⟩ : ByteArray)) ∧ w'.cell? ⟨b0, 0, none⟩ = some (.slice A0 ks.length c0) ∧ w'.cell? ⟨b0, 1, none⟩ = some (.slice A1 ps.length c1) ∧ w'.cell? ⟨b0, 2, none⟩ = some (.slice (some ⟨g2, 0, none⟩) ss.length c2) ∧ w'.cell? ⟨b0, 3, none⟩ = some (.slice A3 ib.length c3) ∧ w'.cell? ⟨b0, 4, none⟩ = some (.int .i64 sd)) (ds := []) (bl 15 0) (by kernel_rfl) rfl rfl ⟨z30, z31, z32, z00, z01, z02, z03, z04⟩ (fun hHeld => ?_); refine with_tabW impl_Net_step.tab5 impl_Net_step.bits5 (fun HT_ HW_ => ?_)
      clear z30 z31 z32 f30 f31 f32 z00 z01 z02 z03 z04 f00 f01 f02 f03 f04
      replace HS := HS.drew
      generalize World.drew _ = W9_ at HS hHeld ⊢
      refine pureA 0 (some 20) 15 1 HT_ ?_
      refine takeA 1 (some 21) 15 3 HT_ HW_ hHeld ?_ (hy := by rintro w' ⟨s0, s1, s2, s3, s4, s5, s6, s7⟩; go_simp; with_reducible rfl)
      refine pureA 2 (some 22) 15 7 HT_ ?_
      refine pureA 3 (some 23) 15 15 HT_ ?_
      try simp only [show ((3 : Int) == 2) = false from rfl]
      refine pureB 4 (some 24) 15 31 HT_ ?_
      refine pureB 5 (some 25) 15 63 HT_ ?_
      refine pureB 6 (some 26) 15 127 HT_ ?_
      refine pureB 7 (some 27) 15 255 HT_ ?_
      refine pureB 8 (some 28) 15 511 HT_ ?_
      refine pureB 9 (some 29) 15 1023 HT_ ?_
      refine pureB 10 (some 30) 15 2047 HT_ ?_
      refine pureB 11 (some 31) 15 4095 HT_ ?_
      refine pureB 12 (some 32) 15 8191 HT_ ?_
      refine pureA 13 (some 33) 15 16383 HT_ ?_
      refine pureA 14 (some 19) 15 32767 HT_ ?_
      refine done_ (done_of HT_.out (by kernel_rfl)) ?_
      clear HT_ HW_ hHeld
      obtain ⟨z30, z31, z32, f30, f31, f32⟩ := box3 (HS.blk 0)
      obtain ⟨z00, z01, z02, z03, z04, f00, f01, f02, f03, f04⟩ := box5 (HS.blk 3)
      go_upto_region 8 with fail
      go_upto_region 8 with fail
      clear z30 z31 z32 f30 f31 f32 z00 z01 z02 z03 z04 f00 f01 f02 f03 f04
      obtain ⟨z30, z31, z32, f30, f31, f32⟩ := box3 (HS.blk 0)
      obtain ⟨z00, z01, z02, z03, z04, f00, f01, f02, f03, f04⟩ := box5 (HS.blk 3)
      obtain ⟨hcgs, hfgs⟩ := HS.fr1.hole j0 j1
      refine start_ (n := 17) (S := fun w' => w'.cell? ⟨b3, 0, none⟩ = some (.int .i64 3) ∧ w'.cell? ⟨b3, 1, none⟩ = some (.int .i64 b) ∧ w'.cell? ⟨b3, 2, none⟩ = some (.string (⟨#[]⟩ : ByteArray)) ∧ w'.cell? ⟨b0, 0, none⟩ = some (.slice A0 ks.length c0) ∧ w'.cell? ⟨b0, 1, none⟩ = some (.slice A1 ps.length c1) ∧ w'.cell? ⟨b0, 2, none⟩ = some (.slice (some ⟨g2, 0, none⟩) ss.length c2) ∧ w'.cell? ⟨b0, 3, none⟩ = some (.slice A3 ib.length c3) ∧ w'.cell? ⟨b0, 4, none⟩ = some (.int .i64 sd) ∧ w'.cell? ⟨g2, 0, none⟩ = some (.slice AS S.length qS)) (ds := []) (bl 17 0) (by kernel_rfl) rfl rfl ⟨z30, z31, z32, z00, z01, z02, z03, z04, hcgs⟩ (fun hHeld => ?_); refine with_tabW impl_Net_step.tab8 impl_Net_step.bits8 (fun HT_ HW_ => ?_)
      clear z30 z31 z32 f30 f31 f32 z00 z01 z02 z03 z04 f00 f01 f02 f03 f04 hcgs hfgs
      replace HS := HS.drew
      generalize World.drew _ = W9_ at HS hHeld ⊢
      refine pureA 0 (some 39) 17 1 HT_ ?_
      refine takeA 1 (some 40) 17 3 HT_ HW_ hHeld ?_ (hy := by rintro w' ⟨s0, s1, s2, s3, s4, s5, s6, s7, s8⟩; go_simp; with_reducible rfl)
      refine pureA 2 (some 41) 17 7 HT_ ?_
      refine pureA 3 (some 42) 17 15 HT_ ?_
      try simp only [show ((3 : Int) == 3) = true from rfl]
      refine pureA 4 (some 43) 17 31 HT_ ?_
      refine takeA 5 (some 44) 17 63 HT_ HW_ hHeld ?_ (hy := by rintro w' ⟨s0, s1, s2, s3, s4, s5, s6, s7, s8⟩; go_simp; with_reducible rfl)
      refine pureA 6 (some 45) 17 127 HT_ ?_
      refine pureA 7 (some 46) 17 255 HT_ ?_
      refine pureA 8 (some 47) 17 511 HT_ ?_
      refine takeA 9 (some 48) 17 1023 HT_ HW_ hHeld ?_ (hy := by rintro w' ⟨s0, s1, s2, s3, s4, s5, s6, s7, s8⟩; go_simp; with_reducible rfl)
      refine pureA 10 (some 49) 17 2047 HT_ ?_
      refine takeA 11 (some 50) 17 4095 HT_ HW_ hHeld ?_ (hy := by rintro w' ⟨s0, s1, s2, s3, s4, s5, s6, s7, s8⟩; go_simp; with_reducible rfl)
      refine pureA 12 (some 51) 17 8191 HT_ ?_
      refine pureA 13 (some 52) 17 16383 HT_ ?_
      refine oneA 14 (some 53) 17 32767 HT_ (fun K hK => ?_)
      refine goes_ Tryz.func70 (by kernel_rfl) rfl #[.int .i64 b, .int .i64 0, .int .i64 (wrap64 ((S.length : Int) - 1))] (by rfl) rfl rfl (by (try simp only [List.map_toArray, List.map_cons, List.map_nil]); first | done | rfl) ?_
      refine (impl_within.calls _ _ _ _ _ T2.out).mono ?_
      clear hHeld
      rintro e W_ ⟨rfl, nd_, rfl⟩
      refine ⟨_, rfl, ?_⟩
      replace HS := HS.drewN nd_
      generalize World.drewN _ nd_ = W_ at HS ⊢
      obtain ⟨z30, z31, z32, f30, f31, f32⟩ := box3 (HS.blk 0)
      obtain ⟨z00, z01, z02, z03, z04, f00, f01, f02, f03, f04⟩ := box5 (HS.blk 3)
      obtain ⟨hcgs, hfgs⟩ := HS.fr1.hole j0 j1
      refine hK.out _ _ ⟨z30, z31, z32, z00, z01, z02, z03, z04, hcgs⟩ (fun hHeld => ?_)
      clear hK K z30 z31 z32 f30 f31 f32 z00 z01 z02 z03 z04 f00 f01 f02 f03 f04 hcgs hfgs
      refine norm_ (a' := ?_) ?_ ?_
      rotate_left
      ·show Act.put _ (some 53) _ = _
       simp only [Act.put, List.setIfInBounds_toArray, List.set_cons_zero, List.set_cons_succ, i64_w, i32_w]
       rfl
      refine pureA 15 (some 54) 17 65535 HT_ ?_
      refine pureA 16 (some 38) 17 131071 HT_ ?_
      refine done_ (done_of HT_.out (by kernel_rfl)) ?_
      clear HT_ HW_ hHeld
      obtain ⟨z30, z31, z32, f30, f31, f32⟩ := box3 (HS.blk 0)
      obtain ⟨z00, z01, z02, z03, z04, f00, f01, f02, f03, f04⟩ := box5 (HS.blk 3)
      go_wp2
      replace HS := HS.fr2.fr2.back0 GS
      go_ret
      replace HS := HS.fr1.tail
      exact ⟨er, HS.fr4.fr1.fr4.fr4.fr4⟩
     | true =>
      rw [if_pos rfl] at h
      replace h := ifS h; obtain ⟨⟨b0_, b1_⟩, h⟩ := h
      replace h := bS h; obtain ⟨⟨ks1, ps1, ss1, ib1, sd1⟩, T1, h⟩ := h
      obtain ⟨e1, e2, e3⟩ := impl_Net_come.keeps T1.out
      dsimp only at e1 e2 e3
      replace e1 := e1.symm; replace e2 := e2.symm; replace e3 := e3.symm
      subst e1 e2 e3
      obtain ⟨rfl, rfl⟩ := (Prod.mk.injEq _ _ _ _).mp (Option.some.inj h)
      clear h
      generalize hs_ : rdOf ByteArray.empty S b = s at T1
      go_enter Tryz.func62, Tryz.ntmps62
      go_upto_region 5 with (first | ((with_reducible refine gate_dst (N := 3) rfl ?_); refine boxev 3 #[.int .i64 3, .int .i64 b, .string (⟨#[]⟩ : ByteArray)] 53 ?_; intro b3 hg_ W_ ho_ hb_; replace HS := HS.box hg_ ho_ hb_; clear hg_ ho_ hb_; obtain ⟨z30, z31, z32, f30, f31, f32⟩ := box3 (HS.blk 0); clear z30 z31 z32 f30 f31 f32; obtain ⟨z30, z31, z32, f30, f31, f32⟩ := box3 (HS.blk 0); obtain ⟨z00, z01, z02, z03, z04, f00, f01, f02, f03, f04⟩ := box5 (HS.blk 3)))
      go_upto_region 5 with fail
      clear z30 z31 z32 f30 f31 f32 z00 z01 z02 z03 z04 f00 f01 f02 f03 f04
      obtain ⟨z30, z31, z32, f30, f31, f32⟩ := box3 (HS.blk 0)
      obtain ⟨z00, z01, z02, z03, z04, f00, f01, f02, f03, f04⟩ := box5 (HS.blk 3)
      refine start_ (n := 15) (S := fun w' => w'.cell? ⟨b3, 0, none⟩ = some (.int .i64 3) ∧ w'.cell? ⟨b3, 1, none⟩ = some (.int .i64 b) ∧ w'.cell? ⟨b3, 2, none⟩ = some (.string (⟨#[]⟩ : ByteArray)) ∧ w'.cell? ⟨b0, 0, none⟩ = some (.slice A0 ks.length c0) ∧ w'.cell? ⟨b0, 1, none⟩ = some (.slice A1 ps.length c1) ∧ w'.cell? ⟨b0, 2, none⟩ = some (.slice (some ⟨g2, 0, none⟩) ss.length c2) ∧ w'.cell? ⟨b0, 3, none⟩ = some (.slice A3 ib.length c3) ∧ w'.cell? ⟨b0, 4, none⟩ = some (.int .i64 sd)) (ds := []) (bl 15 0) (by kernel_rfl) rfl rfl ⟨z30, z31, z32, z00, z01, z02, z03, z04⟩ (fun hHeld => ?_); refine with_tabW impl_Net_step.tab5 impl_Net_step.bits5 (fun HT_ HW_ => ?_)
      clear z30 z31 z32 f30 f31 f32 z00 z01 z02 z03 z04 f00 f01 f02 f03 f04
      replace HS := HS.drew
      generalize World.drew _ = W9_ at HS hHeld ⊢
      refine pureA 0 (some 20) 15 1 HT_ ?_
      refine takeA 1 (some 21) 15 3 HT_ HW_ hHeld ?_ (hy := by rintro w' ⟨s0, s1, s2, s3, s4, s5, s6, s7⟩; go_simp; with_reducible rfl)
      refine pureA 2 (some 22) 15 7 HT_ ?_
      refine pureA 3 (some 23) 15 15 HT_ ?_
      try simp only [show ((3 : Int) == 2) = false from rfl]
      refine pureB 4 (some 24) 15 31 HT_ ?_
      refine pureB 5 (some 25) 15 63 HT_ ?_
      refine pureB 6 (some 26) 15 127 HT_ ?_
      refine pureB 7 (some 27) 15 255 HT_ ?_
      refine pureB 8 (some 28) 15 511 HT_ ?_
      refine pureB 9 (some 29) 15 1023 HT_ ?_
      refine pureB 10 (some 30) 15 2047 HT_ ?_
      refine pureB 11 (some 31) 15 4095 HT_ ?_
      refine pureB 12 (some 32) 15 8191 HT_ ?_
      refine pureA 13 (some 33) 15 16383 HT_ ?_
      refine pureA 14 (some 19) 15 32767 HT_ ?_
      refine done_ (done_of HT_.out (by kernel_rfl)) ?_
      clear HT_ HW_ hHeld
      obtain ⟨z30, z31, z32, f30, f31, f32⟩ := box3 (HS.blk 0)
      obtain ⟨z00, z01, z02, z03, z04, f00, f01, f02, f03, f04⟩ := box5 (HS.blk 3)
      go_upto_region 8 with fail
      go_upto_region 8 with fail
      clear z30 z31 z32 f30 f31 f32 z00 z01 z02 z03 z04 f00 f01 f02 f03 f04
      obtain ⟨z30, z31, z32, f30, f31, f32⟩ := box3 (HS.blk 0)
      obtain ⟨z00, z01, z02, z03, z04, f00, f01, f02, f03, f04⟩ := box5 (HS.blk 3)
      obtain ⟨hcgs, hfgs⟩ := HS.fr1.hole j0 j1
      refine start_ (n := 17) (S := fun w' => w'.cell? ⟨b3, 0, none⟩ = some (.int .i64 3) ∧ w'.cell? ⟨b3, 1, none⟩ = some (.int .i64 b) ∧ w'.cell? ⟨b3, 2, none⟩ = some (.string (⟨#[]⟩ : ByteArray)) ∧ w'.cell? ⟨b0, 0, none⟩ = some (.slice A0 ks.length c0) ∧ w'.cell? ⟨b0, 1, none⟩ = some (.slice A1 ps.length c1) ∧ w'.cell? ⟨b0, 2, none⟩ = some (.slice (some ⟨g2, 0, none⟩) ss.length c2) ∧ w'.cell? ⟨b0, 3, none⟩ = some (.slice A3 ib.length c3) ∧ w'.cell? ⟨b0, 4, none⟩ = some (.int .i64 sd) ∧ w'.cell? ⟨g2, 0, none⟩ = some (.slice AS S.length qS)) (ds := []) (bl 17 0) (by kernel_rfl) rfl rfl ⟨z30, z31, z32, z00, z01, z02, z03, z04, hcgs⟩ (fun hHeld => ?_); refine with_tabW impl_Net_step.tab8 impl_Net_step.bits8 (fun HT_ HW_ => ?_)
      clear z30 z31 z32 f30 f31 f32 z00 z01 z02 z03 z04 f00 f01 f02 f03 f04 hcgs hfgs
      replace HS := HS.drew
      generalize World.drew _ = W9_ at HS hHeld ⊢
      refine pureA 0 (some 39) 17 1 HT_ ?_
      refine takeA 1 (some 40) 17 3 HT_ HW_ hHeld ?_ (hy := by rintro w' ⟨s0, s1, s2, s3, s4, s5, s6, s7, s8⟩; go_simp; with_reducible rfl)
      refine pureA 2 (some 41) 17 7 HT_ ?_
      refine pureA 3 (some 42) 17 15 HT_ ?_
      try simp only [show ((3 : Int) == 3) = true from rfl]
      refine pureA 4 (some 43) 17 31 HT_ ?_
      refine takeA 5 (some 44) 17 63 HT_ HW_ hHeld ?_ (hy := by rintro w' ⟨s0, s1, s2, s3, s4, s5, s6, s7, s8⟩; go_simp; with_reducible rfl)
      refine pureA 6 (some 45) 17 127 HT_ ?_
      refine pureA 7 (some 46) 17 255 HT_ ?_
      refine pureA 8 (some 47) 17 511 HT_ ?_
      refine takeA 9 (some 48) 17 1023 HT_ HW_ hHeld ?_ (hy := by rintro w' ⟨s0, s1, s2, s3, s4, s5, s6, s7, s8⟩; go_simp; with_reducible rfl)
      refine pureA 10 (some 49) 17 2047 HT_ ?_
      refine takeA 11 (some 50) 17 4095 HT_ HW_ hHeld ?_ (hy := by rintro w' ⟨s0, s1, s2, s3, s4, s5, s6, s7, s8⟩; go_simp; with_reducible rfl)
      refine pureA 12 (some 51) 17 8191 HT_ ?_
      refine pureA 13 (some 52) 17 16383 HT_ ?_
      refine oneA 14 (some 53) 17 32767 HT_ (fun K hK => ?_)
      refine goes_ Tryz.func70 (by kernel_rfl) rfl #[.int .i64 b, .int .i64 0, .int .i64 (wrap64 ((S.length : Int) - 1))] (by rfl) rfl rfl (by (try simp only [List.map_toArray, List.map_cons, List.map_nil]); first | done | rfl) ?_
      refine (impl_within.calls _ _ _ _ _ T2.out).mono ?_
      clear hHeld
      rintro e W_ ⟨rfl, nd_, rfl⟩
      refine ⟨_, rfl, ?_⟩
      replace HS := HS.drewN nd_
      generalize World.drewN _ nd_ = W_ at HS ⊢
      obtain ⟨z30, z31, z32, f30, f31, f32⟩ := box3 (HS.blk 0)
      obtain ⟨z00, z01, z02, z03, z04, f00, f01, f02, f03, f04⟩ := box5 (HS.blk 3)
      obtain ⟨hcgs, hfgs⟩ := HS.fr1.hole j0 j1
      refine hK.out _ _ ⟨z30, z31, z32, z00, z01, z02, z03, z04, hcgs⟩ (fun hHeld => ?_)
      clear hK K z30 z31 z32 f30 f31 f32 z00 z01 z02 z03 z04 f00 f01 f02 f03 f04 hcgs hfgs
      refine norm_ (a' := ?_) ?_ ?_
      rotate_left
      ·show Act.put _ (some 53) _ = _
       simp only [Act.put, List.setIfInBounds_toArray, List.set_cons_zero, List.set_cons_succ, i64_w, i32_w]
       rfl
      refine pureA 15 (some 54) 17 65535 HT_ ?_
      refine pureA 16 (some 38) 17 131071 HT_ ?_
      refine done_ (done_of HT_.out (by kernel_rfl)) ?_
      clear HT_ HW_ hHeld
      obtain ⟨z30, z31, z32, f30, f31, f32⟩ := box3 (HS.blk 0)
      obtain ⟨z00, z01, z02, z03, z04, f00, f01, f02, f03, f04⟩ := box5 (HS.blk 3)
      obtain ⟨gS, qS', e⟩ := HS.addrR 2 (hx := by omega)
      obtain rfl : AS = some ⟨gS, 0, none⟩ := by injection e
      clear e
      go_upto_region 9 with fail
      have pb0 : (0 ≤ b) = True := eq_true b0_
      have pb1 : (b < (S.length : Int)) = True := eq_true b1_
      go_upto_region 9 with fail
      clear z30 z31 z32 f30 f31 f32 z00 z01 z02 z03 z04 f00 f01 f02 f03 f04
      obtain ⟨z30, z31, z32, f30, f31, f32⟩ := box3 (HS.blk 0)
      obtain ⟨z00, z01, z02, z03, z04, f00, f01, f02, f03, f04⟩ := box5 (HS.blk 3)
      obtain ⟨hcgs, hfgs⟩ := HS.fr1.hole j0 j1
      have hxS := HS.cellS 2 (n := S.length) b b0_ b1_
      rw [hs_] at hxS
      refine start_ (n := 12) (S := fun w' => w'.cell? ⟨b3, 0, none⟩ = some (.int .i64 3) ∧ w'.cell? ⟨b3, 1, none⟩ = some (.int .i64 b) ∧ w'.cell? ⟨b3, 2, none⟩ = some (.string (⟨#[]⟩ : ByteArray)) ∧ w'.cell? ⟨b0, 0, none⟩ = some (.slice A0 ks.length c0) ∧ w'.cell? ⟨b0, 1, none⟩ = some (.slice A1 ps.length c1) ∧ w'.cell? ⟨b0, 2, none⟩ = some (.slice (some ⟨g2, 0, none⟩) ss.length c2) ∧ w'.cell? ⟨b0, 3, none⟩ = some (.slice A3 ib.length c3) ∧ w'.cell? ⟨b0, 4, none⟩ = some (.int .i64 sd) ∧ w'.cell? ⟨g2, 0, none⟩ = some (.slice (some ⟨gS, 0, none⟩) S.length qS) ∧ w'.cell? ⟨gS, b.toNat, none⟩ = some (.string s)) (ds := [11]) (bl 12 0) (by kernel_rfl) rfl rfl ⟨z30, z31, z32, z00, z01, z02, z03, z04, hcgs, hxS⟩ (fun hHeld => ?_); refine with_tabW impl_Net_step.tab9 impl_Net_step.bits9 (fun HT_ HW_ => ?_)
      clear z30 z31 z32 f30 f31 f32 z00 z01 z02 z03 z04 f00 f01 f02 f03 f04 hcgs hfgs hxS
      replace HS := HS.drew
      generalize World.drew _ = W9_ at HS hHeld ⊢
      refine pureA 0 (some 55) 12 1 HT_ ?_
      refine pureA 1 (some 56) 12 3 HT_ ?_
      refine pureA 2 (some 57) 12 7 HT_ ?_
      refine pureA 3 (some 58) 12 15 HT_ ?_
      refine takeA 4 (some 59) 12 31 HT_ HW_ hHeld ?_ (hy := by rintro w' ⟨s0, s1, s2, s3, s4, s5, s6, s7, s8, s9⟩; go_simp; with_reducible rfl)
      refine pureA 5 (some 60) 12 63 HT_ ?_
      refine takeA 6 (some 61) 12 127 HT_ HW_ hHeld ?_ (hy := by rintro w' ⟨s0, s1, s2, s3, s4, s5, s6, s7, s8, s9⟩; go_simp; with_reducible rfl)
      refine pureA 7 (some 62) 12 255 HT_ ?_
      refine takeA 8 (some 63) 12 511 HT_ HW_ hHeld ?_ (hy := by rintro w' ⟨s0, s1, s2, s3, s4, s5, s6, s7, s8, s9⟩; go_simp; with_reducible rfl)
      refine pureA 9 (some 64) 12 1023 HT_ ?_
      refine takeA 10 (some 65) 12 2047 HT_ HW_ hHeld ?_ (hy := by rintro w' ⟨s0, s1, s2, s3, s4, s5, s6, s7, s8, s9⟩; go_simp; with_reducible rfl)
      replace HS := HS.fr2.fr2.back0 GS
      refine last_ (i := 11) (N := (some 66)) (bl 12 4095) rfl rfl (one_of HT_.out (by kernel_rfl)) (by decide) (fun K hK => ?_)
      clear hHeld
      refine goes_ Tryz.func98 (by kernel_rfl) rfl #[.pointer (some ⟨b0, 0, none⟩), .int .i64 0, .string s] (by rfl) rfl rfl (by (try simp only [List.map_toArray, List.map_cons, List.map_nil]); first | done | rfl) ?_
      have HC_ := impl_Net_come.calls (n := ⟨ks, ps, ss, ib, sd⟩) (HS.fr5.fr1.fr5.fr5.fr5) T1.out
      refine HC_.mono ?_
      clear HC_
      rintro e W_ ⟨rfl, HS'_⟩
      refine ⟨_, rfl, ?_⟩
      clear HS
      have HS := HS'_
      clear HS'_
      dsimp only [netA, List.cons_append, List.nil_append] at HS
      refine hK.out _ _ ?_
      clear hK K
      refine norm_ (a' := ?_) ?_ ?_
      rotate_left
      ·show Act.put _ (some 66) _ = _
       simp only [Act.put, List.setIfInBounds_toArray, List.set_cons_zero, List.set_cons_succ, i64_w, i32_w]
       rfl
      refine done_ (done_of HT_.out (by kernel_rfl)) ?_
      clear HT_ HW_
      go_wp2
      go_ret
      replace HS := HS.fr5.tail
      exact ⟨er, HS⟩
    ·rw [if_neg a3] at h
     have ha3 : (a == 3) = false := beq_eq_false_iff_ne.2 a3
     clear a1 a2 a3
     obtain ⟨rfl, rfl⟩ := (Prod.mk.injEq _ _ _ _).mp (Option.some.inj h)
     clear h
     go_enter Tryz.func62, Tryz.ntmps62
     go_upto_region 5 with (first | ((with_reducible refine gate_dst (N := 3) rfl ?_); refine boxev 3 #[.int .i64 a, .int .i64 b, .string (⟨#[]⟩ : ByteArray)] 53 ?_; intro b3 hg_ W_ ho_ hb_; replace HS := HS.box hg_ ho_ hb_; clear hg_ ho_ hb_; obtain ⟨z30, z31, z32, f30, f31, f32⟩ := box3 (HS.blk 0); clear z30 z31 z32 f30 f31 f32; obtain ⟨z30, z31, z32, f30, f31, f32⟩ := box3 (HS.blk 0); obtain ⟨z00, z01, z02, z03, z04, f00, f01, f02, f03, f04⟩ := box5 (HS.blk 1)))
     go_upto_region 5 with fail
     clear z30 z31 z32 f30 f31 f32 z00 z01 z02 z03 z04 f00 f01 f02 f03 f04
     obtain ⟨z30, z31, z32, f30, f31, f32⟩ := box3 (HS.blk 0)
     obtain ⟨z00, z01, z02, z03, z04, f00, f01, f02, f03, f04⟩ := box5 (HS.blk 1)
     refine start_ (n := 15) (S := fun w' => w'.cell? ⟨b3, 0, none⟩ = some (.int .i64 a) ∧ w'.cell? ⟨b3, 1, none⟩ = some (.int .i64 b) ∧ w'.cell? ⟨b3, 2, none⟩ = some (.string (⟨#[]⟩ : ByteArray)) ∧ w'.cell? ⟨b0, 0, none⟩ = some (.slice A0 ks.length c0) ∧ w'.cell? ⟨b0, 1, none⟩ = some (.slice A1 ps.length c1) ∧ w'.cell? ⟨b0, 2, none⟩ = some (.slice A2 ss.length c2) ∧ w'.cell? ⟨b0, 3, none⟩ = some (.slice A3 ib.length c3) ∧ w'.cell? ⟨b0, 4, none⟩ = some (.int .i64 sd)) (ds := []) (bl 15 0) (by kernel_rfl) rfl rfl ⟨z30, z31, z32, z00, z01, z02, z03, z04⟩ (fun hHeld => ?_); refine with_tabW impl_Net_step.tab5 impl_Net_step.bits5 (fun HT_ HW_ => ?_)
     clear z30 z31 z32 f30 f31 f32 z00 z01 z02 z03 z04 f00 f01 f02 f03 f04
     replace HS := HS.drew
     generalize World.drew _ = W9_ at HS hHeld ⊢
     refine pureA 0 (some 20) 15 1 HT_ ?_
     refine takeA 1 (some 21) 15 3 HT_ HW_ hHeld ?_ (hy := by rintro w' ⟨s0, s1, s2, s3, s4, s5, s6, s7⟩; go_simp; with_reducible rfl)
     refine pureA 2 (some 22) 15 7 HT_ ?_
     refine pureA 3 (some 23) 15 15 HT_ ?_
     try simp only [ha2]
     refine pureB 4 (some 24) 15 31 HT_ ?_
     refine pureB 5 (some 25) 15 63 HT_ ?_
     refine pureB 6 (some 26) 15 127 HT_ ?_
     refine pureB 7 (some 27) 15 255 HT_ ?_
     refine pureB 8 (some 28) 15 511 HT_ ?_
     refine pureB 9 (some 29) 15 1023 HT_ ?_
     refine pureB 10 (some 30) 15 2047 HT_ ?_
     refine pureB 11 (some 31) 15 4095 HT_ ?_
     refine pureB 12 (some 32) 15 8191 HT_ ?_
     refine pureA 13 (some 33) 15 16383 HT_ ?_
     refine pureA 14 (some 19) 15 32767 HT_ ?_
     refine done_ (done_of HT_.out (by kernel_rfl)) ?_
     clear HT_ HW_ hHeld
     obtain ⟨z30, z31, z32, f30, f31, f32⟩ := box3 (HS.blk 0)
     obtain ⟨z00, z01, z02, z03, z04, f00, f01, f02, f03, f04⟩ := box5 (HS.blk 1)
     go_upto_region 8 with fail
     go_upto_region 8 with fail
     clear z30 z31 z32 f30 f31 f32 z00 z01 z02 z03 z04 f00 f01 f02 f03 f04
     obtain ⟨z30, z31, z32, f30, f31, f32⟩ := box3 (HS.blk 0)
     obtain ⟨z00, z01, z02, z03, z04, f00, f01, f02, f03, f04⟩ := box5 (HS.blk 1)
     refine start_ (n := 17) (S := fun w' => w'.cell? ⟨b3, 0, none⟩ = some (.int .i64 a) ∧ w'.cell? ⟨b3, 1, none⟩ = some (.int .i64 b) ∧ w'.cell? ⟨b3, 2, none⟩ = some (.string (⟨#[]⟩ : ByteArray)) ∧ w'.cell? ⟨b0, 0, none⟩ = some (.slice A0 ks.length c0) ∧ w'.cell? ⟨b0, 1, none⟩ = some (.slice A1 ps.length c1) ∧ w'.cell? ⟨b0, 2, none⟩ = some (.slice A2 ss.length c2) ∧ w'.cell? ⟨b0, 3, none⟩ = some (.slice A3 ib.length c3) ∧ w'.cell? ⟨b0, 4, none⟩ = some (.int .i64 sd)) (ds := []) (bl 17 0) (by kernel_rfl) rfl rfl ⟨z30, z31, z32, z00, z01, z02, z03, z04⟩ (fun hHeld => ?_); refine with_tabW impl_Net_step.tab8 impl_Net_step.bits8 (fun HT_ HW_ => ?_)
     clear z30 z31 z32 f30 f31 f32 z00 z01 z02 z03 z04 f00 f01 f02 f03 f04
     replace HS := HS.drew
     generalize World.drew _ = W9_ at HS hHeld ⊢
     refine pureA 0 (some 39) 17 1 HT_ ?_
     refine takeA 1 (some 40) 17 3 HT_ HW_ hHeld ?_ (hy := by rintro w' ⟨s0, s1, s2, s3, s4, s5, s6, s7⟩; go_simp; with_reducible rfl)
     refine pureA 2 (some 41) 17 7 HT_ ?_
     refine pureA 3 (some 42) 17 15 HT_ ?_
     try simp only [ha3]
     refine pureB 4 (some 43) 17 31 HT_ ?_
     refine pureB 5 (some 44) 17 63 HT_ ?_
     refine pureB 6 (some 45) 17 127 HT_ ?_
     refine pureB 7 (some 46) 17 255 HT_ ?_
     refine pureB 8 (some 47) 17 511 HT_ ?_
     refine pureB 9 (some 48) 17 1023 HT_ ?_
     refine pureB 10 (some 49) 17 2047 HT_ ?_
     refine pureB 11 (some 50) 17 4095 HT_ ?_
     refine pureB 12 (some 51) 17 8191 HT_ ?_
     refine pureB 13 (some 52) 17 16383 HT_ ?_
     refine pureB 14 (some 53) 17 32767 HT_ ?_
     refine pureA 15 (some 54) 17 65535 HT_ ?_
     refine pureA 16 (some 38) 17 131071 HT_ ?_
     refine done_ (done_of HT_.out (by kernel_rfl)) ?_
     clear HT_ HW_ hHeld
     obtain ⟨z30, z31, z32, f30, f31, f32⟩ := box3 (HS.blk 0)
     obtain ⟨z00, z01, z02, z03, z04, f00, f01, f02, f03, f04⟩ := box5 (HS.blk 1)
     go_wp2
     go_ret
     replace HS := HS.tail
     exact ⟨er, HS⟩
  ·rw [if_neg hx] at h
   have hxe := nw_nonempty hx
   clear hx a1
   obtain ⟨rfl, rfl⟩ := (Prod.mk.injEq _ _ _ _).mp (Option.some.inj h)
   clear h
   go_enter Tryz.func62, Tryz.ntmps62
   go_wp2_with (first | ((with_reducible refine gate_dst (N := 3) rfl ?_); refine boxev 3 #[.int .i64 a, .int .i64 b, .string x] 53 ?_; intro b3 hg_ W_ ho_ hb_; replace HS := HS.box hg_ ho_ hb_; clear hg_ ho_ hb_; obtain ⟨z30, z31, z32, f30, f31, f32⟩ := box3 (HS.blk 0); clear z30 z31 z32 f30 f31 f32; obtain ⟨z30, z31, z32, f30, f31, f32⟩ := box3 (HS.blk 0); obtain ⟨z00, z01, z02, z03, z04, f00, f01, f02, f03, f04⟩ := box5 (HS.blk 1)))
   go_ret
   replace HS := HS.tail
   exact ⟨er, HS⟩

theorem nw_impl {k : Nat} {A0 : Option Addr} {c0 : Nat} {l0 : List Int} {r1 : List Int} {r2 r3 r4 : List (List ByteArray)} {r5 : Int} {r6 : Bool} {w : World} (hr0 : KI.C w A0 l0.length l0) (hc0 : l0.length ≤ c0) (h : impl_NewNet.f k l0 = some (r1, r2, r3, r4, r5, r6)) :
    Calls Tryz.prog 48 #[.slice A0 l0.length c0] w (MadeNet w ⟨r1, r2, r3, r4, r5⟩ r6) := by
  obtain ⟨h1, rfl⟩ := impl_NewNet.calls0 k A0 c0 l0 r1 r2 r3 r4 r5 r6 w hr0 hc0 h
  exact h1.mono fun e w' he => nw_made he
/-! ### impl_PlayNet: function 19 -/
def impl_PlayNet.l0 (k : Nat) : List S53 → Nt → List Bool → Option (Nt × List Bool)
 | [], n, d => some (n, d)
 | s :: r, n, d => (impl_Net_step.f k n s.f0 s.f1 s.f2).bind fun (n2, q) => impl_PlayNet.l0 k r n2 (d ++ [q])
def impl_PlayNet.f (k : Nat) (ks : List Int) (l : List S53) : Option (Nt × List Bool × Bool) := (impl_NewNet.f k ks).bind fun (r1, r2, r3, r4, r5, r6) => if r6 = false then some (⟨[], [], [], [], 0⟩, [], false) else if 60 < (l.length : Int) then some (⟨[], [], [], [], 0⟩, [], false) else (impl_PlayNet.l0 k l ⟨r1, r2, r3, r4, r5⟩ []).bind fun (n, d) => some (n, d, true)
set_option maxHeartbeats 16000000 in
set_option maxRecDepth 100000 in
theorem impl_PlayNet.calls {k : Nat} {A0 A1 : Option Addr} {c0 c1 : Nat} {ks : List Int} {l : List S53} {m : Nt} {md : List Bool} {r : Bool} {w : World} (hr0 : KI.C w A0 ks.length ks) (hc0 : ks.length ≤ c0) (hr1 : Kd.C k53 w A1 l.length l) (hc1 : l.length ≤ c1) (h : impl_PlayNet.f k ks l = some (m, md, r)) :
    Calls Tryz.prog 19 #[.slice A0 ks.length c0, .slice A1 l.length c1] w (MadePlay w m md r) := by
 have hu27 := Tryz.underlying27
 have hu53 := Tryz.underlying53
 have HR0 := ak hr0; have HC0 := ak hc0; have HR1 := ak hr1; have HC1 := ak hc1
 clear hr0 hc0 hr1 hc1
 unfold impl_PlayNet.f at h
 have HS := Sep.nil w
 replace h := bS h; obtain ⟨⟨r1, r2, r3, r4, r5, r6⟩, T0, h⟩ := h
 dsimp only at h
 cases r6 with
 | false =>
  rw [if_pos rfl] at h
  obtain ⟨h1, h2⟩ := (Prod.mk.injEq _ _ _ _).mp (Option.some.inj h)
  obtain ⟨h2, h3⟩ := (Prod.mk.injEq _ _ _ _).mp h2
  clear h
  subst h1 h2 h3
  go_enter Tryz.func19, Tryz.ntmps19
  go_upto_region 2 with (first | ((with_reducible refine gate_dst (N := 4) rfl ?_); refine boxev 4 #[.slice none 0 0, .slice none 0 0, .slice none 0 0, .slice none 0 0, .int .i64 0] 27 ?_; intro b4 hg_ W_ ho_ hb_; replace HS := HS.box hg_ ho_ hb_; clear hg_ ho_ hb_; obtain ⟨z40, z41, z42, z43, z44, f40, f41, f42, f43, f44⟩ := box5 (HS.blk 0)) | (go_at_call 48; have HC_ := nw_impl (Kd.C_below HR0.out HS.base) HC0.out T0.out; refine HC_.mono ?_; clear HC_; rintro e W_ ⟨e0, e1, e2, e3, rfl, hc_, hb_⟩; replace HS := HS.news hb_ hc_; clear hc_ hb_; dsimp only [netA, List.cons_append, List.nil_append] at HS; obtain ⟨B0, d0, rfl⟩ := HS.slR 0; obtain ⟨B1, d1, rfl⟩ := HS.slS 1; obtain ⟨B2, d2, rfl⟩ := HS.slS 2; obtain ⟨B3, d3, rfl⟩ := HS.slS 3; clear z40 z41 z42 z43 z44 f40 f41 f42 f43 f44; obtain ⟨z40, z41, z42, z43, z44, f40, f41, f42, f43, f44⟩ := box5 (HS.blk 4)) | ((with_reducible refine gate_dst (N := 7) rfl ?_); refine boxev 7 #[.slice none 0 0, .slice none 0 0, .slice none 0 0, .slice none 0 0, .int .i64 0] 27 ?_; intro b7 hg_ W_ ho_ hb_; replace HS := HS.box hg_ ho_ hb_; clear hg_ ho_ hb_; clear z40 z41 z42 z43 z44 f40 f41 f42 f43 f44; obtain ⟨z70, z71, z72, z73, z74, f70, f71, f72, f73, f74⟩ := box5 (HS.blk 0); clear z70 z71 z72 z73 z74 f70 f71 f72 f73 f74; obtain ⟨z70, z71, z72, z73, z74, f70, f71, f72, f73, f74⟩ := box5 (HS.blk 0)))
  clear z70 z71 z72 z73 z74 f70 f71 f72 f73 f74
  obtain ⟨W5_, e5_, H5_⟩ := (((((HS.putI 0 0 (.slice B0 r1.length d0) #[.slice B0 r1.length d0, .slice none 0 0, .slice none 0 0, .slice none 0 0, .int .i64 0]).putI 0 1 (.slice B1 r2.length d1) #[.slice B0 r1.length d0, .slice B1 r2.length d1, .slice none 0 0, .slice none 0 0, .int .i64 0]).putI 0 2 (.slice B2 r3.length d2) #[.slice B0 r1.length d0, .slice B1 r2.length d1, .slice B2 r3.length d2, .slice none 0 0, .int .i64 0]).putI 0 3 (.slice B3 r4.length d3) #[.slice B0 r1.length d0, .slice B1 r2.length d1, .slice B2 r3.length d2, .slice B3 r4.length d3, .int .i64 0]).putI 0 4 (.int .i64 r5) #[.slice B0 r1.length d0, .slice B1 r2.length d1, .slice B2 r3.length d2, .slice B3 r4.length d3, .int .i64 r5]).gen
  rw [e5_]
  clear HS e5_
  have HS := H5_
  clear H5_
  obtain ⟨z70, z71, z72, z73, z74, f70, f71, f72, f73, f74⟩ := box5 (HS.blk 0)
  obtain ⟨z40, z41, z42, z43, z44, f40, f41, f42, f43, f44⟩ := box5 (HS.blk 5)
  go_wp2
  have HF := HS.put5I 5 (.slice none 0 0) (.slice none 0 0) (.slice none 0 0) (.slice none 0 0) (.int .i64 0)
  refine bodyPost_ret (results_ctt rfl _ _ b4 27 #[.slice none 0 0, .slice none 0 0, .slice none 0 0, .slice none 0 0, .int .i64 0] (0, 0) _ rfl (by exact (HF.blk 5).out) Tryz.underlying27 rfl (by kernel_rfl)) rfl ?_
  exact ⟨_, _, _, _, _, rfl, nw_unplayed HF, HF.base⟩
 | true =>
  rw [if_neg (by decide)] at h
  by_cases c1_ : 60 < (l.length : Int)
  ·rw [if_pos c1_] at h
   have cb1 : decide (60 < (l.length : Int)) = true := decide_eq_true c1_
   clear c1_
   obtain ⟨h1, h2⟩ := (Prod.mk.injEq _ _ _ _).mp (Option.some.inj h)
   obtain ⟨h2, h3⟩ := (Prod.mk.injEq _ _ _ _).mp h2
   clear h
   subst h1 h2 h3
   go_enter Tryz.func19, Tryz.ntmps19
   go_upto_region 2 with (first | ((with_reducible refine gate_dst (N := 4) rfl ?_); refine boxev 4 #[.slice none 0 0, .slice none 0 0, .slice none 0 0, .slice none 0 0, .int .i64 0] 27 ?_; intro b4 hg_ W_ ho_ hb_; replace HS := HS.box hg_ ho_ hb_; clear hg_ ho_ hb_; obtain ⟨z40, z41, z42, z43, z44, f40, f41, f42, f43, f44⟩ := box5 (HS.blk 0)) | (go_at_call 48; have HC_ := nw_impl (Kd.C_below HR0.out HS.base) HC0.out T0.out; refine HC_.mono ?_; clear HC_; rintro e W_ ⟨e0, e1, e2, e3, rfl, hc_, hb_⟩; replace HS := HS.news hb_ hc_; clear hc_ hb_; dsimp only [netA, List.cons_append, List.nil_append] at HS; obtain ⟨B0, d0, rfl⟩ := HS.slR 0; obtain ⟨B1, d1, rfl⟩ := HS.slS 1; obtain ⟨B2, d2, rfl⟩ := HS.slS 2; obtain ⟨B3, d3, rfl⟩ := HS.slS 3; clear z40 z41 z42 z43 z44 f40 f41 f42 f43 f44; obtain ⟨z40, z41, z42, z43, z44, f40, f41, f42, f43, f44⟩ := box5 (HS.blk 4)) | ((with_reducible refine gate_dst (N := 7) rfl ?_); refine boxev 7 #[.slice none 0 0, .slice none 0 0, .slice none 0 0, .slice none 0 0, .int .i64 0] 27 ?_; intro b7 hg_ W_ ho_ hb_; replace HS := HS.box hg_ ho_ hb_; clear hg_ ho_ hb_; clear z40 z41 z42 z43 z44 f40 f41 f42 f43 f44; obtain ⟨z70, z71, z72, z73, z74, f70, f71, f72, f73, f74⟩ := box5 (HS.blk 0); clear z70 z71 z72 z73 z74 f70 f71 f72 f73 f74; obtain ⟨z70, z71, z72, z73, z74, f70, f71, f72, f73, f74⟩ := box5 (HS.blk 0)))
   clear z70 z71 z72 z73 z74 f70 f71 f72 f73 f74
   obtain ⟨W5_, e5_, H5_⟩ := (((((HS.putI 0 0 (.slice B0 r1.length d0) #[.slice B0 r1.length d0, .slice none 0 0, .slice none 0 0, .slice none 0 0, .int .i64 0]).putI 0 1 (.slice B1 r2.length d1) #[.slice B0 r1.length d0, .slice B1 r2.length d1, .slice none 0 0, .slice none 0 0, .int .i64 0]).putI 0 2 (.slice B2 r3.length d2) #[.slice B0 r1.length d0, .slice B1 r2.length d1, .slice B2 r3.length d2, .slice none 0 0, .int .i64 0]).putI 0 3 (.slice B3 r4.length d3) #[.slice B0 r1.length d0, .slice B1 r2.length d1, .slice B2 r3.length d2, .slice B3 r4.length d3, .int .i64 0]).putI 0 4 (.int .i64 r5) #[.slice B0 r1.length d0, .slice B1 r2.length d1, .slice B2 r3.length d2, .slice B3 r4.length d3, .int .i64 r5]).gen
   rw [e5_]
   clear HS e5_
   have HS := H5_
   clear H5_
   obtain ⟨z70, z71, z72, z73, z74, f70, f71, f72, f73, f74⟩ := box5 (HS.blk 0)
   obtain ⟨z40, z41, z42, z43, z44, f40, f41, f42, f43, f44⟩ := box5 (HS.blk 5)
   go_wp2
   have HF := HS.put5I 5 (.slice none 0 0) (.slice none 0 0) (.slice none 0 0) (.slice none 0 0) (.int .i64 0)
   refine bodyPost_ret (results_ctt rfl _ _ b4 27 #[.slice none 0 0, .slice none 0 0, .slice none 0 0, .slice none 0 0, .int .i64 0] (0, 0) _ rfl (by exact (HF.blk 5).out) Tryz.underlying27 rfl (by kernel_rfl)) rfl ?_
   exact ⟨_, _, _, _, _, rfl, nw_unplayed HF, HF.base⟩
  ·rw [if_neg c1_] at h
   have cb1 : decide (60 < (l.length : Int)) = false := decide_eq_false c1_
   have LL := ak (show l.length ≤ 60 by omega)
   clear c1_
   replace h := bS h; obtain ⟨⟨n2, dd⟩, T1, h⟩ := h
   dsimp only at h
   obtain ⟨h1, h2⟩ := (Prod.mk.injEq _ _ _ _).mp (Option.some.inj h)
   obtain ⟨h2, h3⟩ := (Prod.mk.injEq _ _ _ _).mp h2
   clear h
   subst h1 h2 h3
   have H' := T1; clear T1
   go_enter Tryz.func19, Tryz.ntmps19
   go_upto_region 2 with (first | ((with_reducible refine gate_dst (N := 4) rfl ?_); refine boxev 4 #[.slice none 0 0, .slice none 0 0, .slice none 0 0, .slice none 0 0, .int .i64 0] 27 ?_; intro b4 hg_ W_ ho_ hb_; replace HS := HS.box hg_ ho_ hb_; clear hg_ ho_ hb_; obtain ⟨z40, z41, z42, z43, z44, f40, f41, f42, f43, f44⟩ := box5 (HS.blk 0)) | (go_at_call 48; have HC_ := nw_impl (Kd.C_below HR0.out HS.base) HC0.out T0.out; refine HC_.mono ?_; clear HC_; rintro e W_ ⟨e0, e1, e2, e3, rfl, hc_, hb_⟩; replace HS := HS.news hb_ hc_; clear hc_ hb_; dsimp only [netA, List.cons_append, List.nil_append] at HS; obtain ⟨B0, d0, rfl⟩ := HS.slR 0; obtain ⟨B1, d1, rfl⟩ := HS.slS 1; obtain ⟨B2, d2, rfl⟩ := HS.slS 2; obtain ⟨B3, d3, rfl⟩ := HS.slS 3; clear z40 z41 z42 z43 z44 f40 f41 f42 f43 f44; obtain ⟨z40, z41, z42, z43, z44, f40, f41, f42, f43, f44⟩ := box5 (HS.blk 4)) | ((with_reducible refine gate_dst (N := 7) rfl ?_); refine boxev 7 #[.slice none 0 0, .slice none 0 0, .slice none 0 0, .slice none 0 0, .int .i64 0] 27 ?_; intro b7 hg_ W_ ho_ hb_; replace HS := HS.box hg_ ho_ hb_; clear hg_ ho_ hb_; clear z40 z41 z42 z43 z44 f40 f41 f42 f43 f44; obtain ⟨z70, z71, z72, z73, z74, f70, f71, f72, f73, f74⟩ := box5 (HS.blk 0); clear z70 z71 z72 z73 z74 f70 f71 f72 f73 f74; obtain ⟨z70, z71, z72, z73, z74, f70, f71, f72, f73, f74⟩ := box5 (HS.blk 0)))
   clear z70 z71 z72 z73 z74 f70 f71 f72 f73 f74
   obtain ⟨W5_, e5_, H5_⟩ := (((((HS.putI 0 0 (.slice B0 r1.length d0) #[.slice B0 r1.length d0, .slice none 0 0, .slice none 0 0, .slice none 0 0, .int .i64 0]).putI 0 1 (.slice B1 r2.length d1) #[.slice B0 r1.length d0, .slice B1 r2.length d1, .slice none 0 0, .slice none 0 0, .int .i64 0]).putI 0 2 (.slice B2 r3.length d2) #[.slice B0 r1.length d0, .slice B1 r2.length d1, .slice B2 r3.length d2, .slice none 0 0, .int .i64 0]).putI 0 3 (.slice B3 r4.length d3) #[.slice B0 r1.length d0, .slice B1 r2.length d1, .slice B2 r3.length d2, .slice B3 r4.length d3, .int .i64 0]).putI 0 4 (.int .i64 r5) #[.slice B0 r1.length d0, .slice B1 r2.length d1, .slice B2 r3.length d2, .slice B3 r4.length d3, .int .i64 r5]).gen
   rw [e5_]
   clear HS e5_
   have HS := H5_
   clear H5_
   obtain ⟨z70, z71, z72, z73, z74, f70, f71, f72, f73, f74⟩ := box5 (HS.blk 0)
   obtain ⟨z40, z41, z42, z43, z44, f40, f41, f42, f43, f44⟩ := box5 (HS.blk 5)
   go_wp2_with (first | ((with_reducible refine gate_dst (N := 25) rfl ?_); refine Kd.R_lit Kd.bool _ 4 ?hg (N := 25) ?hd (xs := ([] : List Bool)) (inner := []) (ok := fun _ => True) (okp := fun _ => True) ?hr ?hp (fun _ hk => hk) trivial (Below.refl _ _) (Nat.le_refl _) (by simp) ?_; (case hd => rfl); (case hg => rfl); (case hr => first | (go_simp; done) | (go_simp; rfl)); (case hp => exact (Reps.none _ _)); intro vdid W_ ho_ hb_ _ _; replace HS := HS.new (A := rA Kd.bool 4 vdid ([])) hb_ ho_; clear ho_ hb_; clear z70 z71 z72 z73 z74 f70 f71 f72 f73 f74 z40 z41 z42 z43 z44 f40 f41 f42 f43 f44; obtain ⟨z70, z71, z72, z73, z74, f70, f71, f72, f73, f74⟩ := box5 (HS.blk 1); obtain ⟨z40, z41, z42, z43, z44, f40, f41, f42, f43, f44⟩ := box5 (HS.blk 6)))
   clear z70 z71 z72 z73 z74 f70 f71 f72 f73 f74 z40 z41 z42 z43 z44 f40 f41 f42 f43 f44
   go_loopg [9, 28] l.length (fun kq v9 v28 w' => ∃ (j : Nat) (n : Nt) (d : List Bool) (e0 e1 e2 e3 : Value), v28 = .int .i64 (j : Int) ∧ Aside0 (impl_PlayNet.l0 k (l.drop j) n d = some (n2, dd)) ∧ j ≤ l.length ∧ l.length - j ≤ kq ∧ d.length = j ∧ Sep w w' (rA Kd.bool 4 v9 d :: bA b7 #[e0, e1, e2, e3, .int .i64 n.sd] 27 :: bA b4 #[.slice none 0 0, .slice none 0 0, .slice none 0 0, .slice none 0 0, .int .i64 0] 27 :: rA KI 3 e0 n.ks :: sA KT 62 e1 n.ps :: sA KT 62 e2 n.ss :: sA KT 62 e3 n.ib :: []))
   case atStart => exact ⟨0, ⟨r1, r2, r3, r4, r5⟩, [], _, _, _, _, rfl, H', Nat.zero_le _, Nat.le_refl _, rfl, HS.fr5.fr5.fr5.fr5.fr6.fr6.fr6⟩
   case round =>
    clear HS H'
    obtain ⟨j, n, d, e0, e1, e2, e3, rfl, HA, j1, j2, hdl, HS⟩ := hrel
    have h := HA.out; clear HA
    have HD := ak hdl; clear hdl
    obtain ⟨E0, f0, rfl⟩ := HS.slR 3
    obtain ⟨E1, f1, rfl⟩ := HS.slS 4
    obtain ⟨E2, f2, rfl⟩ := HS.slS 5
    obtain ⟨E3, f3, rfl⟩ := HS.slS 6
    obtain ⟨A9, c9, rfl⟩ := HS.slR 0
    by_cases hj : j < l.length
    ·have hjb : decide ((j : Int) < (l.length : Int)) = true := decide_eq_true (by omega)
     rw [nw_drop hj] at h
     obtain ⟨ad, e, hx0, hx1, hx2⟩ := at_T53 (Kd.C_below HR1.out HS.base) (j : Int) (by omega) (by omega)
     cases e
     rw [Int.toNat_natCast] at hx0 hx1 hx2
     generalize rd_T53 l (j : Int) = s at h hx0 hx1 hx2
     obtain ⟨sa, sb, sx⟩ := s
     dsimp only at hx0 hx1 hx2
     have pj0 : (0 ≤ (j : Int)) = True := eq_true (by omega)
     have pj1 : ((j : Int) < (l.length : Int)) = True := eq_true (by omega)
     simp only [impl_PlayNet.l0] at h
     go_upto_region 8 with (first | ((with_reducible refine gate_dst (N := 11) rfl ?_); refine boxev 11 #[.int .i64 0, .int .i64 0, .string (⟨#[]⟩ : ByteArray)] 53 ?_; intro b11 hg_ W_ ho_ hb_; replace HS := HS.box hg_ ho_ hb_; replace hx0 := nw_keepc hb_ hx0; replace hx1 := nw_keepc hb_ hx1; replace hx2 := nw_keepc hb_ hx2; clear hg_ ho_ hb_; obtain ⟨z110, z111, z112, f110, f111, f112⟩ := box3 (HS.blk 0)))
     clear z110 z111 z112 f110 f111 f112
     obtain ⟨W5_, e5_, H5_⟩ := (((HS.putI 0 0 (.int .i64 sa) #[.int .i64 sa, .int .i64 0, .string (⟨#[]⟩ : ByteArray)]).putI 0 1 (.int .i64 sb) #[.int .i64 sa, .int .i64 sb, .string (⟨#[]⟩ : ByteArray)]).putI 0 2 (.string sx) #[.int .i64 sa, .int .i64 sb, .string sx]).gen
     rw [e5_]
     clear HS e5_
     have HS := H5_
     clear H5_
     clear hx0 hx1 hx2
     replace h := bS h; obtain ⟨⟨n4, q⟩, T2, h⟩ := h
     dsimp only at h T2
     obtain ⟨z70, z71, z72, z73, z74, f70, f71, f72, f73, f74⟩ := box5 (HS.blk 2)
     obtain ⟨z110, z111, z112, f110, f111, f112⟩ := box3 (HS.blk 0)
     go_wp2_with (first | (go_at_call 62; have HC_ := impl_Net_step.calls (n := n) (HS.fr7.fr7.fr7.fr7.fr6) T2.out; refine HC_.mono ?_; clear HC_; rintro e W_ ⟨rfl, HS'_⟩; clear HS; have HS := HS'_; clear HS'_; dsimp only [netA, List.cons_append, List.nil_append] at HS; clear z70 z71 z72 z73 z74 f70 f71 f72 f73 f74 z110 z111 z112 f110 f111 f112; obtain ⟨z70, z71, z72, z73, z74, f70, f71, f72, f73, f74⟩ := box5 (HS.blk 0)) | ((with_reducible refine gate_dst (N := 35) rfl ?_); refine Kd.R_lit Kd.bool _ 4 ?hg (N := 35) ?hd (xs := ([q] : List Bool)) (inner := [.bool q]) (ok := fun _ => True) (okp := fun _ => True) ?hr ?hp (fun _ hk => hk) trivial (Below.refl _ _) (Nat.le_refl _) (by simp) ?_; (case hd => rfl); (case hg => rfl); (case hr => first | (go_simp; done) | (go_simp; rfl)); (case hp => exact (Reps.one (show Kd.M Kd.bool _ _ _ q [.bool q] from rfl) (Reps.none _ _))); intro vone W_ ho_ hb_ _ _; replace HS := HS.new (A := rA Kd.bool 4 vone ([q])) hb_ ho_; clear ho_ hb_; obtain ⟨A8, c8, rfl⟩ := HS.slR 0; clear z70 z71 z72 z73 z74 f70 f71 f72 f73 f74; obtain ⟨z70, z71, z72, z73, z74, f70, f71, f72, f73, f74⟩ := box5 (HS.blk 1)) | ((with_reducible refine gate_builtin (b := .append) (xs := #[.tmp 32, .tmp 35]) rfl ?_); at_builtin; have HU := (HS.rdR 0).2.2; replace HS := HS.fr7; refine Sep.appendW Kd.bool rfl (.tmp 32) (.tmp 35) 36 4 (.bool false) 1 rfl Tryz.underlying36 nw_infoB rfl (by decide) (by omega) (.slice A9 d.length c9) d [q] A8 1 c8 rfl rfl HS HU (fun _ _ _ _ h => h) (by have := LL.out; have := HD.out; omega) ?_; clear HS HU; intro v9' W_ HS; clear z70 z71 z72 z73 z74 f70 f71 f72 f73 f74; obtain ⟨z70, z71, z72, z73, z74, f70, f71, f72, f73, f74⟩ := box5 (HS.blk 2)))
     replace HS := HS.fr1.tail
     replace HS := HS.fr6.tail
     go_roundg (l.length - (j + 1))
     case measure => omega
     case rel => exact ⟨j + 1, _, _, _, _, _, _, nw_next hj (Nat.le_trans LL.out (by decide)), ⟨h⟩, hj, Nat.le_refl _, by rw [List.length_append, HD.out]; rfl, HS.fr5.fr5.fr5.fr5.fr6.fr6.fr6⟩
    ·rw [List.drop_eq_nil_of_le (by omega)] at h
     simp only [impl_PlayNet.l0] at h
     obtain ⟨rfl, rfl⟩ := (Prod.mk.injEq _ _ _ _).mp (Option.some.inj h)
     clear h
     have hjb : decide ((j : Int) < (l.length : Int)) = false := decide_eq_false (by omega)
     obtain ⟨z70, z71, z72, z73, z74, f70, f71, f72, f73, f74⟩ := box5 (HS.blk 1)
     obtain ⟨z40, z41, z42, z43, z44, f40, f41, f42, f43, f44⟩ := box5 (HS.blk 2)
     go_wp2
     have HF := HS.put5I 2 (.slice E0 n.ks.length f0) (.slice E1 n.ps.length f1) (.slice E2 n.ss.length f2) (.slice E3 n.ib.length f3) (.int .i64 n.sd)
     refine bodyPost_ret (results_ctt rfl _ _ b4 27 #[.slice E0 n.ks.length f0, .slice E1 n.ps.length f1, .slice E2 n.ss.length f2, .slice E3 n.ib.length f3, .int .i64 n.sd] (0, 0) _ rfl (by exact (HF.blk 2).out) Tryz.underlying27 rfl (by kernel_rfl)) rfl ?_
     replace HS := HF
     have HF := HS.fr6.fr6.fr6.fr6
     exact ⟨_, _, _, _, _, rfl, nw_played HF, HF.base⟩

/-! ### laws_eqBoolS: function 20 -/
def laws_eqBoolS.l0 : Nat → List Bool → List Bool → Int → Option (Bool)
  | 0, _, _, _ => none
  | k + 1, x0, x1, x5 => if x5 < (x0.length : Int) then (if 0 ≤ x5 then (if x5 < (x1.length : Int) then (if ((rdOf false x0 x5) != (rdOf false x1 x5)) = true then (some false) else (laws_eqBoolS.l0 k x0 x1 (wrap64 (x5 + 1)))) else (none)) else (none)) else (some true)
def laws_eqBoolS.f (k : Nat) (l0 : List Bool) (l1 : List Bool) : Option (Bool) := if (l0.length : Int) = (l1.length : Int) then (laws_eqBoolS.l0 k l0 l1 0) else (some false)
theorem laws_eqBoolS.mono_l : ∀ k, (∀ y0 y1 y2, LeO (laws_eqBoolS.l0 k y0 y1 y2) (laws_eqBoolS.l0 (k + 1) y0 y1 y2))
 | 0 => fun _ _ _ r h => by simp [laws_eqBoolS.l0] at h
 | k + 1 => by
  have ih0 := laws_eqBoolS.mono_l k
  ·intro y0 y1 y2
   unfold laws_eqBoolS.l0
   repeat' (first | (with_reducible first | exact ih0 _ _ _ | exact LeO.refl _ | exact LeO.none _ | refine LeO.ite ?_ ?_ | refine LeO.bind ?_ (fun _ => ?_)) | exact ih0 _ _ _ | exact LeO.none _ | refine LeO.ite ?_ ?_ | refine LeO.bind ?_ (fun _ => ?_))
theorem laws_eqBoolS.mono : ∀ a0 a1 k, LeO (laws_eqBoolS.f k a0 a1) (laws_eqBoolS.f (k + 1) a0 a1) := by
 intro a0 a1 k
 have ih0 := laws_eqBoolS.mono_l k
 unfold laws_eqBoolS.f
 repeat' (first | (with_reducible first | exact ih0 _ _ _ | exact LeO.refl _ | exact LeO.none _ | refine LeO.ite ?_ ?_ | refine LeO.bind ?_ (fun _ => ?_)) | exact ih0 _ _ _ | exact LeO.none _ | refine LeO.ite ?_ ?_ | refine LeO.bind ?_ (fun _ => ?_))
set_option maxHeartbeats 8000000 in
set_option maxRecDepth 100000 in
theorem laws_eqBoolS.calls (k : Nat) (A0 : Option Addr) (c0 : Nat) (l0 : List Bool) (A1 : Option Addr) (c1 : Nat) (l1 : List Bool) (r : Bool) (w : World) (hr0 : Kd.C Kd.bool w A0 l0.length l0) (hc0 : l0.length ≤ c0) (hr1 : Kd.C Kd.bool w A1 l1.length l1) (hc1 : l1.length ≤ c1) (h : laws_eqBoolS.f k l0 l1 = some r) :
  Calls Tryz.prog 20 #[.slice A0 l0.length c0, .slice A1 l1.length c1] w fun e w' => e = .returned (.bool r) ∧ Drawn0 w w' := by
 have HR0 := Aside0.mk hr0; have HC0 := Aside0.mk hc0; clear hr0 hc0; have HR1 := Aside0.mk hr1; have HC1 := Aside0.mk hc1; clear hr1 hc1
 have H : (if (l0.length : Int) = (l1.length : Int) then (laws_eqBoolS.l0 k l0 l1 0) else (some false)) = some r := h
 clear h
 by_cases c3 : (l0.length : Int) = (l1.length : Int)
 ·rw [if_pos c3] at H
  have c3b0 : ((l0.length : Int) == (l1.length : Int)) = true := beq_iff_eq.mpr c3
  have c3b1 : ((l0.length : Int) != (l1.length : Int)) = false := bne_eq_false_iff_eq.mpr c3
  have c3b2 : (l0.length == l1.length) = true := by first | simpa using c3 | (simp at c3 ⊢; omega)
  clear c3
  have H' := Aside0.mk H
  clear H
  go_enter Tryz.func20, Tryz.ntmps20
  go_wp2
  repeat (go_quiet (fail); try go_wp2)
  go_loopg [5] k (fun kq v5 w' => ∃ (x5_1 : Int), v5 = .int .i64 x5_1 ∧ Aside0 (laws_eqBoolS.l0 kq l0 l1 x5_1 = some r) ∧ Aside0 (kq ≤ k) ∧ Drawn0 w w')
  case atStart => exact ⟨(0), er, H', ⟨Nat.le_refl _⟩, drw⟩
  case round =>
   clear H'
   (try clear c1); (try clear c3b0); (try clear c3b1); (try clear c3b2)
   obtain ⟨x5_1, rfl, HA, HK1, ⟨m1, rfl⟩⟩ := hrel
   cases gk with
   | zero => exact absurd HA.out (by simp [laws_eqBoolS.l0])
   | succ k1 =>
    have H := HA.out; clear HA
    simp only [laws_eqBoolS.l0] at H
    by_cases c4 : x5_1 < (l0.length : Int)
    ·rw [if_pos c4] at H
     have c4b0 : decide (x5_1 < (l0.length : Int)) = true := decide_eq_true c4
     clear c4; replace H := ifS H; obtain ⟨c5, H⟩ := H; have c5b0 := decide_eq_true c5; clear c5; replace H := ifS H; obtain ⟨c6, H⟩ := H; have c6b0 := decide_eq_true c6; clear c6
     by_cases c7 : ((rdOf false l0 x5_1) != (rdOf false l1 x5_1)) = true
     ·rw [if_pos c7] at H
      have c7b0 : ((rdOf false l0 x5_1) != (rdOf false l1 x5_1)) = true := c7
      (try (have c7b1 : decide ((rdOf false l0 x5_1) = (rdOf false l1 x5_1)) = false := by simpa using c7))
      (try (have c7b2 : ((rdOf false l0 x5_1) == (rdOf false l1 x5_1)) = false := by simpa using c7))
      (try (have c7b3 : ¬ ((rdOf false l0 x5_1) = (rdOf false l1 x5_1)) := by simpa using c7))
      clear c7
      obtain rfl := Option.some.inj H
      have p314 : 0 ≤ (x5_1 : Int) := da
      have q314 : x5_1 < (l0.length : Int) := da
      obtain ⟨ad314, e314, hx314_0⟩ := Kd.at_bool HR0.out x5_1 p314 q314
      cases e314
      replace p314 := eq_true p314; replace q314 := eq_true q314
      have p315 : 0 ≤ (x5_1 : Int) := da
      have q315 : x5_1 < (l1.length : Int) := da
      obtain ⟨ad315, e315, hx315_0⟩ := Kd.at_bool HR1.out x5_1 p315 q315
      cases e315
      replace p315 := eq_true p315; replace q315 := eq_true q315; go_wp2
      repeat (go_quiet (fail); try go_wp2)
      go_ret
      exact ⟨er, drw⟩
     ·rw [if_neg c7] at H
      have c7b0 : ((rdOf false l0 x5_1) != (rdOf false l1 x5_1)) = false := by simpa using c7
      (try (have c7b1 : decide ((rdOf false l0 x5_1) = (rdOf false l1 x5_1)) = true := by simpa using c7))
      (try (have c7b2 : ((rdOf false l0 x5_1) == (rdOf false l1 x5_1)) = true := by simpa using c7))
      clear c7
      have H' := Aside0.mk H
      clear H
      have p314 : 0 ≤ (x5_1 : Int) := da
      have q314 : x5_1 < (l0.length : Int) := da
      obtain ⟨ad314, e314, hx314_0⟩ := Kd.at_bool HR0.out x5_1 p314 q314
      cases e314
      replace p314 := eq_true p314; replace q314 := eq_true q314
      have p315 : 0 ≤ (x5_1 : Int) := da
      have q315 : x5_1 < (l1.length : Int) := da
      obtain ⟨ad315, e315, hx315_0⟩ := Kd.at_bool HR1.out x5_1 p315 q315
      cases e315
      replace p315 := eq_true p315; replace q315 := eq_true q315; go_wp2
      repeat (go_quiet (fail); try go_wp2)
      go_roundg k1
      case measure => have := HK1.out; omega
      case rel => exact ⟨(wrap64 (x5_1 + 1)), er, H', ⟨by have := HK1.out; omega⟩, drw⟩
    ·rw [if_neg c4] at H
     have c4b0 : decide (x5_1 < (l0.length : Int)) = false := decide_eq_false c4
     clear c4
     obtain rfl := Option.some.inj H
     go_wp2
     repeat (go_quiet (fail); try go_wp2)
     go_ret
     exact ⟨er, drw⟩
 ·rw [if_neg c3] at H
  have c3b0 : ((l0.length : Int) == (l1.length : Int)) = false := beq_eq_false_iff_ne.mpr c3
  have c3b1 : ((l0.length : Int) != (l1.length : Int)) = true := bne_iff_ne.mpr c3
  have c3b2 : (l0.length == l1.length) = false := by first | simpa using c3 | (simp at c3 ⊢; omega)
  obtain rfl := Option.some.inj H
  go_enter Tryz.func20, Tryz.ntmps20
  go_wp2
  repeat (go_quiet (fail); try go_wp2)
  go_ret
  exact ⟨er, drw⟩

/-! ### laws_eqNetStep: function 63 -/
def laws_eqNetStep.f (a0_0 : Int) (a0_1 : Int) (a0_2 : ByteArray) (a1_0 : Int) (a1_1 : Int) (a1_2 : ByteArray) : Option (Bool) := if a0_0 = a1_0 then (if a0_1 = a1_1 then (if a0_2.toList = a1_2.toList then (some true) else (some false)) else (some false)) else (some false)
set_option maxHeartbeats 8000000 in
set_option maxRecDepth 100000 in
theorem laws_eqNetStep.calls (a0_0 : Int) (a0_1 : Int) (a0_2 : ByteArray) (a1_0 : Int) (a1_1 : Int) (a1_2 : ByteArray) (r : Bool) (w : World) (h : laws_eqNetStep.f a0_0 a0_1 a0_2 a1_0 a1_1 a1_2 = some r) :
  Calls Tryz.prog 63 #[.agg #[.int .i64 a0_0, .int .i64 a0_1, .string a0_2], .agg #[.int .i64 a1_0, .int .i64 a1_1, .string a1_2]] w fun e w' => e = .returned (.bool r) ∧ Below w.heap.size w w' := by
 have hu53 := Tryz.underlying53
 have HB := Aside0.mk (Below.refl w.heap.size w)
 have H : (if a0_0 = a1_0 then (if a0_1 = a1_1 then (if a0_2.toList = a1_2.toList then (some true) else (some false)) else (some false)) else (some false)) = some r := h
 clear h
 by_cases c3 : a0_0 = a1_0
 ·rw [if_pos c3] at H
  have c3b0 : (a0_0 == a1_0) = true := beq_iff_eq.mpr c3
  have c3b1 : (a0_0 != a1_0) = false := bne_eq_false_iff_eq.mpr c3
  clear c3
  by_cases c4 : a0_1 = a1_1
  ·rw [if_pos c4] at H
   have c4b0 : (a0_1 == a1_1) = true := beq_iff_eq.mpr c4
   have c4b1 : (a0_1 != a1_1) = false := bne_eq_false_iff_eq.mpr c4
   clear c4
   by_cases c5 : a0_2.toList = a1_2.toList
   ·rw [if_pos c5] at H
    have c5b0 : (a0_2.toList == a1_2.toList) = true := beq_iff_eq.mpr c5
    have c5b1 : (a0_2.toList != a1_2.toList) = false := bne_eq_false_iff_eq.mpr c5
    clear c5
    obtain rfl := Option.some.inj H
    go_enter Tryz.func63, Tryz.ntmps63
    go_wp2_with (first | ((with_reducible refine gate_dst (N := 2) rfl ?_); refine boxev 2 #[.int .i64 a0_0, .int .i64 a0_1, .string a0_2] 53 ?_; intro gb316 hg w6 hbox hb; have BK316 := ak (hbox); have GW316 := ak (hgl hg (belowd HB)); have GE316 := ak (hgl hg (belowd HB)); replace HB := ak (below_step (belowd HB) hb); clear hb hbox hg) | ((with_reducible refine gate_dst (N := 3) rfl ?_); refine boxev 3 #[.int .i64 a1_0, .int .i64 a1_1, .string a1_2] 53 ?_; intro gb317 hg w7 hbox hb; have BK317 := ak (hbox); have GW317 := ak (hgl hg (belowg1 HB GE316)); have GE317 := ak (hgl hg (belowg1 HB GE316)); replace HB := ak (below_step (belowg1 HB GE316) hb); have NB316_317 := ak ((by rw [hg]; exact Nat.ne_of_lt (blk_lt (blkd BK316)) : gb316 ≠ gb317)); have NB317_316 := ak ((by rw [hg]; exact Nat.ne_of_gt (blk_lt (blkd BK316)) : gb317 ≠ gb316)); replace BK316 := ak (blk_below (blkd BK316) hb); clear hb hbox hg; have hnb8 := NB316_317.out; have hnc8 := NB317_316.out; obtain ⟨hcz9_0, hcz9_1, hcz9_2, hfz9_0, hfz9_1, hfz9_2⟩ := box3 BK316; obtain ⟨hcz10_0, hcz10_1, hcz10_2, hfz10_0, hfz10_1, hfz10_2⟩ := box3 BK317))
    go_ret
    exact ⟨er2, belowg2 HB GE316 GE317⟩
   ·rw [if_neg c5] at H
    have c5b0 : (a0_2.toList == a1_2.toList) = false := beq_eq_false_iff_ne.mpr c5
    have c5b1 : (a0_2.toList != a1_2.toList) = true := bne_iff_ne.mpr c5
    obtain rfl := Option.some.inj H
    go_enter Tryz.func63, Tryz.ntmps63
    go_wp2_with (first | ((with_reducible refine gate_dst (N := 2) rfl ?_); refine boxev 2 #[.int .i64 a0_0, .int .i64 a0_1, .string a0_2] 53 ?_; intro gb316 hg w11 hbox hb; have BK316 := ak (hbox); have GW316 := ak (hgl hg (belowd HB)); have GE316 := ak (hgl hg (belowd HB)); replace HB := ak (below_step (belowd HB) hb); clear hb hbox hg) | ((with_reducible refine gate_dst (N := 3) rfl ?_); refine boxev 3 #[.int .i64 a1_0, .int .i64 a1_1, .string a1_2] 53 ?_; intro gb317 hg w12 hbox hb; have BK317 := ak (hbox); have GW317 := ak (hgl hg (belowg1 HB GE316)); have GE317 := ak (hgl hg (belowg1 HB GE316)); replace HB := ak (below_step (belowg1 HB GE316) hb); have NB316_317 := ak ((by rw [hg]; exact Nat.ne_of_lt (blk_lt (blkd BK316)) : gb316 ≠ gb317)); have NB317_316 := ak ((by rw [hg]; exact Nat.ne_of_gt (blk_lt (blkd BK316)) : gb317 ≠ gb316)); replace BK316 := ak (blk_below (blkd BK316) hb); clear hb hbox hg; have hnb13 := NB316_317.out; have hnc13 := NB317_316.out; obtain ⟨hcz14_0, hcz14_1, hcz14_2, hfz14_0, hfz14_1, hfz14_2⟩ := box3 BK316; obtain ⟨hcz15_0, hcz15_1, hcz15_2, hfz15_0, hfz15_1, hfz15_2⟩ := box3 BK317))
    go_ret
    exact ⟨er2, belowg2 HB GE316 GE317⟩
  ·rw [if_neg c4] at H
   have c4b0 : (a0_1 == a1_1) = false := beq_eq_false_iff_ne.mpr c4
   have c4b1 : (a0_1 != a1_1) = true := bne_iff_ne.mpr c4
   obtain rfl := Option.some.inj H
   go_enter Tryz.func63, Tryz.ntmps63
   go_wp2_with (first | ((with_reducible refine gate_dst (N := 2) rfl ?_); refine boxev 2 #[.int .i64 a0_0, .int .i64 a0_1, .string a0_2] 53 ?_; intro gb316 hg w16 hbox hb; have BK316 := ak (hbox); have GW316 := ak (hgl hg (belowd HB)); have GE316 := ak (hgl hg (belowd HB)); replace HB := ak (below_step (belowd HB) hb); clear hb hbox hg) | ((with_reducible refine gate_dst (N := 3) rfl ?_); refine boxev 3 #[.int .i64 a1_0, .int .i64 a1_1, .string a1_2] 53 ?_; intro gb317 hg w17 hbox hb; have BK317 := ak (hbox); have GW317 := ak (hgl hg (belowg1 HB GE316)); have GE317 := ak (hgl hg (belowg1 HB GE316)); replace HB := ak (below_step (belowg1 HB GE316) hb); have NB316_317 := ak ((by rw [hg]; exact Nat.ne_of_lt (blk_lt (blkd BK316)) : gb316 ≠ gb317)); have NB317_316 := ak ((by rw [hg]; exact Nat.ne_of_gt (blk_lt (blkd BK316)) : gb317 ≠ gb316)); replace BK316 := ak (blk_below (blkd BK316) hb); clear hb hbox hg; have hnb18 := NB316_317.out; have hnc18 := NB317_316.out; obtain ⟨hcz19_0, hcz19_1, hcz19_2, hfz19_0, hfz19_1, hfz19_2⟩ := box3 BK316; obtain ⟨hcz20_0, hcz20_1, hcz20_2, hfz20_0, hfz20_1, hfz20_2⟩ := box3 BK317))
   go_ret
   exact ⟨er2, belowg2 HB GE316 GE317⟩
 ·rw [if_neg c3] at H
  have c3b0 : (a0_0 == a1_0) = false := beq_eq_false_iff_ne.mpr c3
  have c3b1 : (a0_0 != a1_0) = true := bne_iff_ne.mpr c3
  obtain rfl := Option.some.inj H
  go_enter Tryz.func63, Tryz.ntmps63
  go_wp2_with (first | ((with_reducible refine gate_dst (N := 2) rfl ?_); refine boxev 2 #[.int .i64 a0_0, .int .i64 a0_1, .string a0_2] 53 ?_; intro gb316 hg w21 hbox hb; have BK316 := ak (hbox); have GW316 := ak (hgl hg (belowd HB)); have GE316 := ak (hgl hg (belowd HB)); replace HB := ak (below_step (belowd HB) hb); clear hb hbox hg) | ((with_reducible refine gate_dst (N := 3) rfl ?_); refine boxev 3 #[.int .i64 a1_0, .int .i64 a1_1, .string a1_2] 53 ?_; intro gb317 hg w22 hbox hb; have BK317 := ak (hbox); have GW317 := ak (hgl hg (belowg1 HB GE316)); have GE317 := ak (hgl hg (belowg1 HB GE316)); replace HB := ak (below_step (belowg1 HB GE316) hb); have NB316_317 := ak ((by rw [hg]; exact Nat.ne_of_lt (blk_lt (blkd BK316)) : gb316 ≠ gb317)); have NB317_316 := ak ((by rw [hg]; exact Nat.ne_of_gt (blk_lt (blkd BK316)) : gb317 ≠ gb316)); replace BK316 := ak (blk_below (blkd BK316) hb); clear hb hbox hg; have hnb23 := NB316_317.out; have hnc23 := NB317_316.out; obtain ⟨hcz24_0, hcz24_1, hcz24_2, hfz24_0, hfz24_1, hfz24_2⟩ := box3 BK316; obtain ⟨hcz25_0, hcz25_1, hcz25_2, hfz25_0, hfz25_1, hfz25_2⟩ := box3 BK317))
  go_ret
  exact ⟨er2, belowg2 HB GE316 GE317⟩

end Go.Proofs.YtihekdlcfohkkaaGreatDoor.QFnExactPlayNet
