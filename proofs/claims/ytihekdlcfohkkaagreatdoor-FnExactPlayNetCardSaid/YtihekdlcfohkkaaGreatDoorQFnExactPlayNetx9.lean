-- printed by this session's own program (wip/tools/pp.py: the kit's print.py with changes); Lean checks it
import Derived.Test.YtihekdlcfohkkaaGreatDoorQFnExactPlayNetx0
import Derived.Test.YtihekdlcfohkkaaGreatDoorQFnExactPlayNetx4
import Derived.Test.YtihekdlcfohkkaaGreatDoorQFnExactPlayNetx8
namespace Go.Proofs.YtihekdlcfohkkaaGreatDoor.QFnExactPlayNet
open Go.RowKit Go.Proofs.YtihekdlcfohkkaaGreatDoorW.PrintWords Go.Proofs.YtihekdlcfohkkaaGreatDoorW.PrintLast Go.Proofs.YtihekdlcfohkkaaGreatDoorW.PrintMore
attribute [local go_sem] max2_int min2_int max_two min_two max_three min_three max_four min_four strLss strGtr strLeq strGeq   -- for this text's walks alone
set_option linter.unusedVariables false
set_option linter.unusedSimpArgs false

/-! ### impl_Net_come: function 98 -/
def impl_Net_come.T1 : Bool × List (List Nat × List Nat) := (true, [([], []), ([0], [0]), ([1], [1]), ([2], [2]), ([], []), ([], []), ([5], [5]), ([6], [6]), ([7], [7]), ([], []), ([], []), ([10], [10]), ([11], [11]), ([12], [12]), ([], []), ([13, 14], [13, 14]), ([15], [15]), ([], []), ([16, 17], [16, 17]), ([], []), ([19], [19]), ([20], [20]), ([21], [21]), ([], []), ([22, 23], [22, 23]), ([24], [24]), ([], []), ([25, 26, 18], [25, 26]), ([3, 4, 0, 1, 2, 3, 4, 8, 10, 11, 12, 13, 14, 15, 16, 17, 18, 22, 25, 27], [3, 4]), ([28, 18, 27, 0, 1, 2, 3, 4, 8, 10, 11, 12, 13, 14, 15, 16, 17, 18, 22, 25, 27], [18, 28]), ([8, 9, 0, 1, 2, 3, 4, 5, 6, 7, 8, 9, 10, 11, 12, 13, 14, 15, 16, 17, 18, 19, 20, 21, 22, 23, 24, 25, 26, 27, 28, 29], [8, 9]), ([30, 27, 29, 0, 1, 2, 3, 4, 5, 6, 7, 8, 9, 10, 11, 12, 13, 14, 15, 16, 17, 18, 19, 20, 21, 22, 23, 24, 25, 26, 27, 28, 29], [27, 30])])
def impl_Net_come.B1 : List Nat := [0, 1, 3, 7, 0, 0, 32, 96, 224, 0, 0, 1024, 3072, 7168, 0, 31744, 64512, 0, 261120, 0, 524288, 1572864, 3670016, 0, 16252928, 33030144, 0, 134216704, 268434943, 536870399, 1073741823, 2147483647]
theorem impl_Net_come.tab1 : rtab .any (opsOf Tryz.f98 1) = impl_Net_come.T1 := by kernel_rfl
theorem impl_Net_come.bits1 : waitsOk impl_Net_come.T1.2 impl_Net_come.B1 = true := by kernel_rfl
def impl_Net_come.f (k : Nat) (n : Nt) (i : Int) (s : ByteArray) : Option Nt := if 0 ≤ i ∧ i < (n.ps.length : Int) ∧ i < (n.ss.length : Int) then (slices_Contains_string_string.f k (n.ss.getD i.toNat []) s).bind fun b => if b = true ∨ (n.ss.getD i.toNat []).length = 100 then some n else (impl_placed_string.f k (n.ss.getD i.toNat []) s).bind fun S => (impl_placed_string.f k (n.ps.getD i.toNat []) s).bind fun P => some ⟨n.ks, n.ps.set i.toNat P, n.ss.set i.toNat S, n.ib, n.sd⟩ else none
theorem impl_Net_come.keeps {k : Nat} {n m : Nt} {i : Int} {s : ByteArray} (h : impl_Net_come.f k n i s = some m) : m.ks = n.ks ∧ m.ib = n.ib ∧ m.sd = n.sd := by
 unfold impl_Net_come.f at h
 replace h := ifS h; obtain ⟨-, h⟩ := h
 replace h := bS h; obtain ⟨b, -, h⟩ := h
 split at h
 ·obtain rfl := Option.some.inj h; exact ⟨rfl, rfl, rfl⟩
 ·replace h := bS h; obtain ⟨_, -, h⟩ := h; replace h := bS h; obtain ⟨_, -, h⟩ := h; obtain rfl := Option.some.inj h; exact ⟨rfl, rfl, rfl⟩
set_option maxHeartbeats 16000000 in
set_option maxRecDepth 100000 in
theorem impl_Net_come.calls {k : Nat} {v0 v1 v2 v3 : Value} {n m : Nt} {i : Int} {s : ByteArray} {L : List SA} {w0 w : World} {b0 : Nat} (hs : Sep w0 w (bA b0 #[v0, v1, v2, v3, .int .i64 n.sd] 27 :: netA v0 v1 v2 v3 n ++ L)) (h : impl_Net_come.f k n i s = some m) :
    Calls Tryz.prog 98 #[.pointer (some ⟨b0, 0, none⟩), .int .i64 i, .string s] w fun e w' => e = .returned (.tuple #[]) ∧ Sep w0 w' (bA b0 #[v0, v1, v2, v3, .int .i64 n.sd] 27 :: netA v0 v1 v2 v3 m ++ L) := by
 have hu27 := Tryz.underlying27
 obtain ⟨ks, ps, ss, ib, sd⟩ := n
 have HS : Sep w0 w (bA b0 #[v0, v1, v2, v3, .int .i64 sd] 27 :: rA KI 3 v0 ks :: sA KT 62 v1 ps :: sA KT 62 v2 ss :: sA KT 62 v3 ib :: L) := hs
 clear hs
 unfold impl_Net_come.f at h
 dsimp only at h ⊢
 replace h := ifS h; obtain ⟨⟨i0, i1, i2⟩, h⟩ := h
 obtain ⟨A0, c0, rfl⟩ := HS.slR 1
 obtain ⟨A3, c3, rfl⟩ := HS.slS 4
 obtain ⟨g1, q1, rfl⟩ := HS.addr 2 (hx := by omega)
 obtain ⟨g2, q2, rfl⟩ := HS.addr 3 (hx := by omega)
 have p0 : (0 ≤ i) = True := eq_true i0
 have p1 : (i < (ps.length : Int)) = True := eq_true i1
 have p2 : (i < (ss.length : Int)) = True := eq_true i2
 obtain ⟨AP, qP, HS, -, -⟩ := HS.fr2.lend i i0 i1
 obtain ⟨AS, qS, HS, -, -⟩ := HS.fr4.lend i i0 i2
 generalize hS : ss.getD i.toNat [] = S at HS h
 generalize hP : ps.getD i.toNat [] = P at HS h
 have GS := ak hS; have GP := ak hP; clear hS hP
 replace h := bS h; obtain ⟨b, T1, h⟩ := h
 by_cases hb : b = true ∨ S.length = 100
 ·rw [if_pos hb] at h
  obtain rfl := Option.some.inj h
  clear h
  have hl : b = false → ((S.length : Int) == 100) = true := fun e => beq_iff_eq.2 (by rcases hb with h | h; (rw [e] at h; cases h); omega)
  clear hb
  cases b
  all_goals
   first | replace hl := hl rfl | clear hl
   go_enter Tryz.func98, Tryz.ntmps98
   obtain ⟨z00, z01, z02, z03, z04, f00, f01, f02, f03, f04⟩ := box5 (HS.blk 4)
   obtain ⟨hcgs, hfgs⟩ := HS.hole i0 i2
   go_wp2_with (first | (go_at_call 73; have HC_ := slices_Contains_string_string.calls k _ _ S s _ _ (HS.rdR 1).2.2 (HS.rdR 1).2.1 T1.out; refine HC_.mono ?_; clear HC_; rintro e W_ ⟨rfl, nd_, rfl⟩; replace HS := HS.drewN nd_; generalize World.drewN _ nd_ = W_ at HS ⊢; clear z00 z01 z02 z03 z04 f00 f01 f02 f03 f04 hcgs hfgs; obtain ⟨z00, z01, z02, z03, z04, f00, f01, f02, f03, f04⟩ := box5 (HS.blk 4); obtain ⟨hcgs, hfgs⟩ := HS.hole i0 i2))
   refine bodyPost_ret (results_none rfl _ _ _) rfl ?_
   replace HS := HS.back0 GS
   replace HS := HS.fr2.fr2.back0 GP
   exact ⟨rfl, HS.fr4.fr2.fr2.fr4.fr4⟩
 ·rw [if_neg hb] at h
  obtain ⟨hb1, hb2⟩ := not_or.1 hb
  obtain rfl : b = false := by simpa using hb1
  have hl : ((S.length : Int) == 100) = false := beq_eq_false_iff_ne.2 (fun e => hb2 (by omega))
  clear hb hb1 hb2
  replace h := bS h; obtain ⟨S', T2, h⟩ := h
  replace h := bS h; obtain ⟨P', T3, h⟩ := h
  obtain rfl := Option.some.inj h
  clear h
  go_enter Tryz.func98, Tryz.ntmps98
  obtain ⟨z00, z01, z02, z03, z04, f00, f01, f02, f03, f04⟩ := box5 (HS.blk 4)
  obtain ⟨hcgs, hfgs⟩ := HS.hole i0 i2
  go_upto_region 1 with (first | (go_at_call 73; have HC_ := slices_Contains_string_string.calls k _ _ S s _ _ (HS.rdR 1).2.2 (HS.rdR 1).2.1 T1.out; refine HC_.mono ?_; clear HC_; rintro e W_ ⟨rfl, nd_, rfl⟩; replace HS := HS.drewN nd_; generalize World.drewN _ nd_ = W_ at HS ⊢; clear z00 z01 z02 z03 z04 f00 f01 f02 f03 f04 hcgs hfgs; obtain ⟨z00, z01, z02, z03, z04, f00, f01, f02, f03, f04⟩ := box5 (HS.blk 4); obtain ⟨hcgs, hfgs⟩ := HS.hole i0 i2))
  clear z00 z01 z02 z03 z04 f00 f01 f02 f03 f04 hcgs hfgs
  obtain ⟨z00, z01, z02, z03, z04, f00, f01, f02, f03, f04⟩ := box5 (HS.blk 4)
  obtain ⟨hcgs, hfgs⟩ := HS.hole i0 i2
  obtain ⟨hcgp, hfgp⟩ := HS.fr2.hole i0 i1
  refine start_ (n := 32) (S := fun w' => w'.cell? ⟨b0, 0, none⟩ = some (.slice A0 ks.length c0) ∧ w'.cell? ⟨b0, 1, none⟩ = some (.slice (some ⟨g1, 0, none⟩) ps.length q1) ∧ w'.cell? ⟨b0, 2, none⟩ = some (.slice (some ⟨g2, 0, none⟩) ss.length q2) ∧ w'.cell? ⟨b0, 3, none⟩ = some (.slice A3 ib.length c3) ∧ w'.cell? ⟨b0, 4, none⟩ = some (.int .i64 sd) ∧ w'.cell? ⟨g2, i.toNat, none⟩ = some (.slice AS S.length qS) ∧ w'.cell? ⟨g1, i.toNat, none⟩ = some (.slice AP P.length qP)) (ds := [29, 31]) (bl 32 0) (by kernel_rfl) rfl rfl ⟨z00, z01, z02, z03, z04, hcgs, hcgp⟩ (fun hHeld => ?_); refine with_tabW impl_Net_come.tab1 impl_Net_come.bits1 (fun HT_ HW_ => ?_)
  clear z00 z01 z02 z03 z04 f00 f01 f02 f03 f04 hcgs hfgs hcgp hfgp
  replace HS := HS.drew
  generalize World.drew _ = W9_ at HS hHeld ⊢
  refine pureA 0 (some 26) 32 1 HT_ ?_
  refine pureA 1 (some 27) 32 3 HT_ ?_
  refine pureA 2 (some 28) 32 7 HT_ ?_
  refine takeA 3 (some 29) 32 15 HT_ HW_ hHeld ?_ (hy := by rintro w' ⟨s0, s1, s2, s3, s4, s5, s6⟩; go_simp; with_reducible rfl)
  refine pureA 4 (some 30) 32 31 HT_ ?_
  refine pureA 5 (some 31) 32 63 HT_ ?_
  refine pureA 6 (some 32) 32 127 HT_ ?_
  refine pureA 7 (some 33) 32 255 HT_ ?_
  refine takeA 8 (some 34) 32 511 HT_ HW_ hHeld ?_ (hy := by rintro w' ⟨s0, s1, s2, s3, s4, s5, s6⟩; go_simp; with_reducible rfl)
  refine pureA 9 (some 35) 32 1023 HT_ ?_
  refine pureA 10 (some 36) 32 2047 HT_ ?_
  refine pureA 11 (some 37) 32 4095 HT_ ?_
  refine pureA 12 (some 38) 32 8191 HT_ ?_
  refine takeA 13 (some 39) 32 16383 HT_ HW_ hHeld ?_ (hy := by rintro w' ⟨s0, s1, s2, s3, s4, s5, s6⟩; go_simp; with_reducible rfl)
  refine pureA 14 (some 40) 32 32767 HT_ ?_
  refine pureA 15 (some 41) 32 65535 HT_ ?_
  refine takeA 16 (some 42) 32 131071 HT_ HW_ hHeld ?_ (hy := by rintro w' ⟨s0, s1, s2, s3, s4, s5, s6⟩; go_simp; with_reducible rfl)
  refine pureA 17 (some 43) 32 262143 HT_ ?_
  refine pureA 19 (some 45) 32 786431 HT_ ?_
  refine pureA 20 (some 46) 32 1835007 HT_ ?_
  refine pureA 21 (some 47) 32 3932159 HT_ ?_
  refine takeA 22 (some 48) 32 8126463 HT_ HW_ hHeld ?_ (hy := by rintro w' ⟨s0, s1, s2, s3, s4, s5, s6⟩; go_simp; with_reducible rfl)
  refine pureA 23 (some 49) 32 16515071 HT_ ?_
  refine pureA 24 (some 50) 32 33292287 HT_ ?_
  refine takeA 25 (some 51) 32 66846719 HT_ HW_ hHeld ?_ (hy := by rintro w' ⟨s0, s1, s2, s3, s4, s5, s6⟩; go_simp; with_reducible rfl)
  refine pureA 26 (some 52) 32 133955583 HT_ ?_
  refine oneA 18 (some 44) 32 134217727 HT_ (fun K hK => ?_)
  refine goes_ Tryz.func119 (by kernel_rfl) rfl #[.slice AS S.length qS, .string s] (by rfl) rfl rfl (by (try simp only [List.map_toArray, List.map_cons, List.map_nil]); first | done | rfl) ?_
  have HC_ := impl_placed_string.calls k _ _ S s S' _ (HS.rdR 1).2.2 (HS.rdR 1).2.1 T2.out
  refine HC_.mono ?_
  clear HC_ hHeld
  rintro e W_ ⟨u_, rfl, ho_, hb_⟩
  refine ⟨_, rfl, ?_⟩
  replace HS := HS.new (A := rA Kd.string 9 u_ S') hb_ ho_
  obtain ⟨AS1, qS1, rfl⟩ := HS.slR 0
  clear ho_ hb_
  obtain ⟨z00, z01, z02, z03, z04, f00, f01, f02, f03, f04⟩ := box5 (HS.blk 5)
  obtain ⟨hcgs, hfgs⟩ := HS.fr1.hole i0 i2
  obtain ⟨hcgp, hfgp⟩ := HS.fr3.hole i0 i1
  refine hK.out _ _ ⟨z00, z01, z02, z03, z04, hcgs, hcgp⟩ (fun hHeld => ?_)
  clear hK K z00 z01 z02 z03 z04 f00 f01 f02 f03 f04 hcgs hfgs hcgp hfgp
  refine norm_ (a' := ?_) ?_ ?_
  rotate_left
  ·show Act.put _ (some 44) _ = _
   simp only [Act.put, List.setIfInBounds_toArray, List.set_cons_zero, List.set_cons_succ, i64_w, i32_w]
   rfl
  refine oneA 27 (some 53) 32 268435455 HT_ (fun K hK => ?_)
  refine goes_ Tryz.func119 (by kernel_rfl) rfl #[.slice AP P.length qP, .string s] (by rfl) rfl rfl (by (try simp only [List.map_toArray, List.map_cons, List.map_nil]); first | done | rfl) ?_
  have HC_ := impl_placed_string.calls k _ _ P s P' _ (HS.rdR 4).2.2 (HS.rdR 4).2.1 T3.out
  refine HC_.mono ?_
  clear HC_ hHeld
  rintro e W_ ⟨u_, rfl, ho_, hb_⟩
  refine ⟨_, rfl, ?_⟩
  replace HS := HS.new (A := rA Kd.string 9 u_ P') hb_ ho_
  obtain ⟨AP1, qP1, rfl⟩ := HS.slR 0
  clear ho_ hb_
  obtain ⟨z00, z01, z02, z03, z04, f00, f01, f02, f03, f04⟩ := box5 (HS.blk 6)
  obtain ⟨hcgs, hfgs⟩ := HS.fr2.hole i0 i2
  obtain ⟨hcgp, hfgp⟩ := HS.fr4.hole i0 i1
  refine hK.out _ _ ⟨z00, z01, z02, z03, z04, hcgs, hcgp⟩ (fun hHeld => ?_)
  clear hK K z00 z01 z02 z03 z04 f00 f01 f02 f03 f04 hcgs hfgs hcgp hfgp
  refine norm_ (a' := ?_) ?_ ?_
  rotate_left
  ·show Act.put _ (some 53) _ = _
   simp only [Act.put, List.setIfInBounds_toArray, List.set_cons_zero, List.set_cons_succ, i64_w, i32_w]
   rfl
  refine pureA 28 (some 54) 32 536870911 HT_ ?_
  refine last_ (i := 29) (N := none) (bl 32 1073741823) rfl rfl (one_of HT_.out (by kernel_rfl)) (by decide) (fun K hK => ?_)
  clear hHeld
  obtain ⟨hcgs, hfgs⟩ := HS.fr2.hole i0 i2
  refine skip_ (w1 := ?_) (by rfl) rfl ?_ ?_
  rotate_left
  ·go_simp
   rfl
  clear hcgs hfgs
  replace HS := HS.fr2.hput i0 i2 (.slice AS1 S'.length qS1) rfl
  refine hK.out _ _ ?_
  clear hK K
  obtain ⟨W5_, e5_, H5_⟩ := HS.gen
  rw [e5_]
  clear HS e5_
  have HS := H5_
  clear H5_
  refine pureA 30 (some 55) 32 2147483647 HT_ ?_
  refine last_ (i := 31) (N := none) (bl 32 4294967295) rfl rfl (one_of HT_.out (by kernel_rfl)) (by decide) (fun K hK => ?_)
  obtain ⟨hcgp, hfgp⟩ := HS.fr4.hole i0 i1
  refine skip_ (w1 := ?_) (by rfl) rfl ?_ ?_
  rotate_left
  ·go_simp
   rfl
  clear hcgp hfgp
  replace HS := HS.fr4.hput i0 i1 (.slice AP1 P'.length qP1) rfl
  refine hK.out _ _ ?_
  clear hK K
  refine done_ (done_of HT_.out (by kernel_rfl)) ?_
  clear HT_ HW_
  obtain ⟨W5_, e5_, H5_⟩ := HS.gen
  rw [e5_]
  clear HS e5_
  have HS := H5_
  clear H5_
  replace HS := HS.fr2.fr1.back
  replace HS := HS.fr2.fr2.back
  go_wp2
  refine bodyPost_end (results_none rfl _ _ _) rfl ?_
  replace HS := HS.fr2.tail
  replace HS := HS.fr2.tail
  exact ⟨rfl, HS.fr4.fr1.fr2.fr4.fr4⟩

/-! ### impl_isKey: function 122 -/
def impl_isKey.f (a0 : Int) : Option (Bool) := (impl_within.f a0 0 65535).bind fun t280 => (some t280)
set_option maxHeartbeats 8000000 in
set_option maxRecDepth 100000 in
theorem impl_isKey.calls (a0 : Int) (r : Bool) (w : World) (h : impl_isKey.f a0 = some r) :
  Calls Tryz.prog 122 #[.int .i64 a0] w fun e w' => e = .returned (.bool r) ∧ Drawn0 w w' := by
 have H : ((impl_within.f a0 0 65535).bind fun t280 => (some t280)) = some r := h
 clear h; replace H := bS H; obtain ⟨t280, A2, H⟩ := H
 replace H : (some t280) = some r := H
 obtain rfl := Option.some.inj H
 go_enter Tryz.func122, Tryz.ntmps122
 go_wp2_with (first | ((with_reducible refine gate_callee (f := 70) rfl ?_); refine goesLa (some 4) rfl Tryz.func70 #[.int .i64 a0, .int .i64 0, .int .i64 65535] rfl ?_; (with_reducible refine (impl_within.calls a0 0 65535 t280 _ A2.out).mono ?_); rintro e w' ⟨rfl, ⟨nd, rfl⟩⟩; refine ⟨_, rfl, ?_⟩))
 go_ret
 exact ⟨er, drw⟩

/-! ### impl_xor: function 123 -/
def impl_xor.f (k : Nat) (a0 a1 : ByteArray) : Option ByteArray := if a0.size ≤ a1.size then (if a0.size ≤ 1048576 then some (xorT a0 a1) else none) else none
theorem impl_xor.mono : ∀ a0 a1 k, LeO (impl_xor.f k a0 a1) (impl_xor.f (k + 1) a0 a1) := fun _ _ _ => LeO.refl _
set_option maxHeartbeats 8000000 in
set_option maxRecDepth 100000 in
theorem impl_xor.calls (k : Nat) (a0 a1 : ByteArray) (r : ByteArray) (w : World) (h : impl_xor.f k a0 a1 = some r) :
 Calls Tryz.prog 123 #[.string a0, .string a1] w fun e w' => e = .returned (.string r) ∧ Below w.heap.size w w' := by
 unfold impl_xor.f at h
 replace h := ifS h; obtain ⟨hl, h⟩ := h
 replace h := ifS h; obtain ⟨hm, h⟩ := h
 obtain rfl := Option.some.inj h
 clear h
 have HL := ak hl; have HM := ak hm; clear hl hm
 have HCV := ak (fun W => print_bytes (P := Tryz.prog) 9 56 5 Tryz.underlying9 Tryz.underlying56 Tryz.underlying5 a0 W)
 go_enter Tryz.func123, Tryz.ntmps123
 have HX0 := ak (XorAt.start a0 a1 w 5)
 have HB0 := ak (bytes_below (Below.refl w.heap.size w) (Nat.le_refl _) 5 a0)
 have HCW := HCV.out w
 clear HCV
 generalize hg : w.heap.size = g at HX0 HB0 HCW
 generalize hW : Lib.bytesWorld w 5 a0 = W1 at HX0 HB0 HCW
 generalize hcap : grownCap w a0.size 0 5 = cp at HCW
 clear hW hcap
 go_wp2_with (simp only [HCW, Result.andThen])
 clear HCW
 go_loopg [11] a0.size (fun kq v11 w' => ∃ (i : Int), v11 = .int .i64 i ∧ 0 ≤ i ∧ i ≤ a0.size ∧ (a0.size - i.toNat : Nat) ≤ kq ∧ Aside0 (XorAt a0 a1 g i w') ∧ Aside0 (Below g w w'))
 case atStart => exact ⟨0, rfl, Int.le_refl _, by omega, by omega, HX0, HB0⟩
 case round =>
 clear HX0 HB0
 obtain ⟨i, rfl, hi0, hi1, hk, HX, HB⟩ := hrel
 by_cases hlt : i < (a0.size : Int)
 ·have c1 : decide (i < (a0.size : Int)) = true := decide_eq_true hlt
  have p4 : 0 ≤ i := hi0
  have q4 : i < (a1.size : Int) := by have := HL.out; omega
  have hx4 := bt_at a1 i
  obtain ⟨hz, hf⟩ := HX.out.cell hi0 hlt
  have HX2 := ak ((show XorAt a0 a1 g i wr.drew from HX.out).put hi0 hlt HM.out)
  have HB2 := ak (Below.setCell (below_drew HB.out) (show g ≤ (Addr.mk g i.toNat none).block from Nat.le_refl _) (.int .u8 (Go.bits .xor .u8 (bt a0 i) (bt a1 i))))
  replace p4 := eq_true p4; replace q4 := eq_true q4; go_wp2
  go_region
  go_wp2
  go_roundg (a0.size - (i + 1).toNat)
  case measure => have := HM.out; omega
  case rel => exact ⟨wrap64 (i + 1), er, by rw [IntWalk.wrap64_in _ (by have := HM.out; omega)]; omega, by rw [IntWalk.wrap64_in _ (by have := HM.out; omega)]; omega, by rw [IntWalk.wrap64_in _ (by have := HM.out; omega)]; exact Nat.le_refl _, HX2, HB2⟩
 ·have c1 : decide (i < (a0.size : Int)) = false := decide_eq_false hlt
  have hcs := string_of_reads (P := Tryz.prog) (c := cp) Tryz.underlying56 Tryz.underlying5 Tryz.underlying9 (HX.out.done hlt (by have := HM.out; omega))
  go_wp2
  go_ret
  subst hg
  exact ⟨er, HB.out⟩

/-! ### strings_Repeat: function 132 -/
def strings_Repeat.f (k : Nat) (a0 : ByteArray) (a1 : Int) : Option ByteArray := if 0 ≤ a1 then (if a0.size * a1.toNat ≤ 140737488355328 then (if a1 ≤ 9223372036854775807 then some ⟨(Lib.repeatL a0.data.toList a1.toNat).toArray⟩ else none) else none) else none
theorem strings_Repeat.mono : ∀ a0 a1 k, LeO (strings_Repeat.f k a0 a1) (strings_Repeat.f (k + 1) a0 a1) := fun _ _ _ => LeO.refl _
theorem strings_Repeat.calls (k : Nat) (a0 : ByteArray) (a1 : Int) (r : ByteArray) (w : World) (h : strings_Repeat.f k a0 a1 = some r) :
  Calls Tryz.prog 132 #[.string a0, .int .i64 a1] w fun e w' => e = .returned (.string r) ∧ Below w.heap.size w w' := by
 unfold strings_Repeat.f at h
 replace h := ifS h; obtain ⟨h0, h⟩ := h
 replace h := ifS h; obtain ⟨h1, h⟩ := h
 replace h := ifS h; obtain ⟨h2, h⟩ := h
 obtain rfl := Option.some.inj h
 obtain ⟨c, rfl⟩ := Int.eq_ofNat_of_zero_le h0
 exact Any.strings_Repeat strR strRx a0 c w (by omega) (by simpa using h1)

/-! ### impl_round: function 168 -/
def impl_round.f (a0 : Int) (a1 : Int) : Option (Int) := some (Int.tmod (Int.tmod (wrap64 ((wrap64 ((wrap64 ((Int.tmod (wrap64 (a1 + (Int.tmod a0 256))) 256) * (Int.tmod (wrap64 (a1 + (Int.tmod a0 256))) 256))) + (wrap64 ((Int.tmod (wrap64 (a1 + (Int.tmod a0 256))) 256) * (wrap64 (Int.tdiv a0 256)))))) + 29)) 65521) 256)
set_option maxHeartbeats 8000000 in
set_option maxRecDepth 100000 in
theorem impl_round.calls (a0 : Int) (a1 : Int) (r : Int) (w : World) (h : impl_round.f a0 a1 = some r) :
  Calls Tryz.prog 168 #[.int .i64 a0, .int .i64 a1] w fun e w' => e = .returned (.int .i64 r) ∧ Drawn0 w w' := by
 have H : (some (Int.tmod (Int.tmod (wrap64 ((wrap64 ((wrap64 ((Int.tmod (wrap64 (a1 + (Int.tmod a0 256))) 256) * (Int.tmod (wrap64 (a1 + (Int.tmod a0 256))) 256))) + (wrap64 ((Int.tmod (wrap64 (a1 + (Int.tmod a0 256))) 256) * (wrap64 (Int.tdiv a0 256)))))) + 29)) 65521) 256)) = some r := h
 clear h
 obtain rfl := Option.some.inj H
 go_enter Tryz.func168, Tryz.ntmps168
 go_wp2
 go_ret
 exact ⟨er, drw⟩

/-! ### impl_mix: function 156 -/
def impl_mix.l0 : Nat → Int → Int → List Int → Int → Int → Option (Int)
  | 0, _, _, _, _, _ => none
  | k + 1, x5, x6, x13, x14, x15 => if x15 < x14 then (if 0 ≤ x15 then (if x15 < (x13.length : Int) then ((impl_round.f (rd x13 x15) x6).bind fun t282 => (impl_mix.l0 k x6 (Go.bits .xor .i64 x5 t282) x13 x14 (wrap64 (x15 + 1)))) else (none)) else (none)) else (some (wrap64 ((wrap64 (x5 * 256)) + x6)))
def impl_mix.f (k : Nat) (l0 : List Int) (a1 : Int) : Option (Int) := impl_mix.l0 k (wrap64 (Int.tdiv a1 256)) (Int.tmod a1 256) l0 (l0.length : Int) 0
theorem impl_mix.mono_l : ∀ k, (∀ y0 y1 y2 y3 y4, LeO (impl_mix.l0 k y0 y1 y2 y3 y4) (impl_mix.l0 (k + 1) y0 y1 y2 y3 y4))
 | 0 => fun _ _ _ _ _ r h => by simp [impl_mix.l0] at h
 | k + 1 => by
  have ih0 := impl_mix.mono_l k
  ·intro y0 y1 y2 y3 y4
   unfold impl_mix.l0
   repeat' (first | (with_reducible first | exact ih0 _ _ _ _ _ | exact LeO.refl _ | exact LeO.none _ | refine LeO.ite ?_ ?_ | refine LeO.bind ?_ (fun _ => ?_)) | exact ih0 _ _ _ _ _ | exact LeO.none _ | refine LeO.ite ?_ ?_ | refine LeO.bind ?_ (fun _ => ?_))
theorem impl_mix.mono : ∀ a0 a1 k, LeO (impl_mix.f k a0 a1) (impl_mix.f (k + 1) a0 a1) := by
 intro a0 a1 k
 have ih0 := impl_mix.mono_l k
 unfold impl_mix.f
 repeat' (first | (with_reducible first | exact ih0 _ _ _ _ _ | exact LeO.refl _ | exact LeO.none _ | refine LeO.ite ?_ ?_ | refine LeO.bind ?_ (fun _ => ?_)) | exact ih0 _ _ _ _ _ | exact LeO.none _ | refine LeO.ite ?_ ?_ | refine LeO.bind ?_ (fun _ => ?_))
set_option maxHeartbeats 8000000 in
set_option maxRecDepth 100000 in
theorem impl_mix.calls (k : Nat) (A0 : Option Addr) (c0 : Nat) (l0 : List Int) (a1 : Int) (r : Int) (w : World) (hr0 : Kd.C (Kd.int .i64) w A0 l0.length l0) (hc0 : l0.length ≤ c0) (h : impl_mix.f k l0 a1 = some r) :
  Calls Tryz.prog 156 #[.slice A0 l0.length c0, .int .i64 a1] w fun e w' => e = .returned (.int .i64 r) ∧ Drawn0 w w' := by
 have HR0 := Aside0.mk hr0; have HC0 := Aside0.mk hc0; clear hr0 hc0
 have H : (impl_mix.l0 k (wrap64 (Int.tdiv a1 256)) (Int.tmod a1 256) l0 (l0.length : Int) 0) = some r := h
 clear h
 have H' := Aside0.mk H
 clear H
 go_enter Tryz.func156, Tryz.ntmps156
 go_wp2
 go_loopg [5, 6, 15] k (fun kq v5 v6 v15 w' => ∃ (x5_1 : Int) (x6_1 : Int) (x15_1 : Int), v5 = .int .i64 x5_1 ∧ v6 = .int .i64 x6_1 ∧ v15 = .int .i64 x15_1 ∧ Aside0 (impl_mix.l0 kq x5_1 x6_1 l0 (l0.length : Int) x15_1 = some r) ∧ Aside0 (kq ≤ k) ∧ Drawn0 w w')
 case atStart => exact ⟨(wrap64 (Int.tdiv a1 256)), (Int.tmod a1 256), (0), er, er, er, H', ⟨Nat.le_refl _⟩, drw⟩
 case round =>
  clear H'
  obtain ⟨x5_1, x6_1, x15_1, rfl, rfl, rfl, HA, HK1, ⟨m1, rfl⟩⟩ := hrel
  cases gk with
  | zero => exact absurd HA.out (by simp [impl_mix.l0])
  | succ k1 =>
   have H := HA.out; clear HA
   simp only [impl_mix.l0] at H
   by_cases c3 : x15_1 < (l0.length : Int)
   ·rw [if_pos c3] at H
    have c3b0 : decide (x15_1 < (l0.length : Int)) = true := decide_eq_true c3
    clear c3; replace H := ifS H; obtain ⟨c4, H⟩ := H; have c4b0 := decide_eq_true c4; clear c4; replace H := ifS H; obtain ⟨c5, H⟩ := H; have c5b0 := decide_eq_true c5; clear c5; replace H := bS H; obtain ⟨t282, A6, H⟩ := H
    replace H : (impl_mix.l0 k1 x6_1 (Go.bits .xor .i64 x5_1 t282) l0 (l0.length : Int) (wrap64 (x15_1 + 1))) = some r := H
    have H' := Aside0.mk H
    clear H
    have p281 : 0 ≤ (x15_1 : Int) := da
    have q281 : x15_1 < (l0.length : Int) := da
    obtain ⟨ad281, e281, hx281_0⟩ := Kd.at_int HR0.out x15_1 p281 q281
    cases e281
    replace p281 := eq_true p281; replace q281 := eq_true q281
    go_wp2_with (first | ((with_reducible refine gate_callee (f := 168) rfl ?_); refine goesLa (some 23) rfl Tryz.func168 #[.int .i64 (rd l0 x15_1), .int .i64 x6_1] rfl ?_; (with_reducible refine (impl_round.calls (rd l0 x15_1) x6_1 t282 _ A6.out).mono ?_); rintro e w' ⟨rfl, ⟨nd, rfl⟩⟩; refine ⟨_, rfl, ?_⟩))
    go_roundg k1
    case measure => have := HK1.out; omega
    case rel => exact ⟨(x6_1), (Go.bits .xor .i64 x5_1 t282), (wrap64 (x15_1 + 1)), er, er, er, H', ⟨by have := HK1.out; omega⟩, drw⟩
   ·rw [if_neg c3] at H
    have c3b0 : decide (x15_1 < (l0.length : Int)) = false := decide_eq_false c3
    clear c3
    obtain rfl := Option.some.inj H
    go_wp2
    go_ret
    exact ⟨er, drw⟩

/-! ### impl_mixText: function 139 -/
def impl_mixText.l0 : Nat → List Int → Int → ByteArray → List Int → Int → Option (ByteArray)
  | 0, _, _, _, _, _ => none
  | k + 1, x0, x1, x2, x7, x8 => if x8 < (x2.size : Int) then (if 0 ≤ x8 then (if 0 ≤ (wrap64 (x8 + 1)) then (if (wrap64 (x8 + 1)) < (x2.size : Int) then ((impl_mix.f k x0 (Go.bits .xor .i64 (Go.bits .or .i64 (wrap64 ((wrap64 (bt x2 x8)) * 256)) (wrap64 (bt x2 (wrap64 (x8 + 1))))) x1)).bind fun t286 => ((some (([(t286 / 256) % 256, (t286) % 256] : List Int) : List Int)).bind fun y287 => (if x7.length + y287.length < 140737488355328 then (impl_mixText.l0 k x0 t286 x2 (x7 ++ y287) (wrap64 (x8 + 2))) else (none)))) else (none)) else (none)) else (none)) else (some (strOfNums x7))
def impl_mixText.f (k : Nat) (l0 : List Int) (a1 : Int) (a2 : ByteArray) : Option (ByteArray) := impl_mixText.l0 k l0 a1 a2 (([] : List Int)) 0
theorem impl_mixText.mono_l : ∀ k, (∀ y0 y1 y2 y3 y4, LeO (impl_mixText.l0 k y0 y1 y2 y3 y4) (impl_mixText.l0 (k + 1) y0 y1 y2 y3 y4))
 | 0 => fun _ _ _ _ _ r h => by simp [impl_mixText.l0] at h
 | k + 1 => by
  have ih0 := impl_mixText.mono_l k
  ·intro y0 y1 y2 y3 y4
   unfold impl_mixText.l0
   repeat' (first | (with_reducible first | exact ih0 _ _ _ _ _ | exact impl_mix.mono _ _ _ | exact LeO.refl _ | exact LeO.none _ | refine LeO.ite ?_ ?_ | refine LeO.bind ?_ (fun _ => ?_)) | exact ih0 _ _ _ _ _ | exact impl_mix.mono _ _ _ | exact LeO.none _ | refine LeO.ite ?_ ?_ | refine LeO.bind ?_ (fun _ => ?_))
theorem impl_mixText.mono : ∀ a0 a1 a2 k, LeO (impl_mixText.f k a0 a1 a2) (impl_mixText.f (k + 1) a0 a1 a2) := by
 intro a0 a1 a2 k
 have ih0 := impl_mixText.mono_l k
 unfold impl_mixText.f
 repeat' (first | (with_reducible first | exact ih0 _ _ _ _ _ | exact impl_mix.mono _ _ _ | exact LeO.refl _ | exact LeO.none _ | refine LeO.ite ?_ ?_ | refine LeO.bind ?_ (fun _ => ?_)) | exact ih0 _ _ _ _ _ | exact impl_mix.mono _ _ _ | exact LeO.none _ | refine LeO.ite ?_ ?_ | refine LeO.bind ?_ (fun _ => ?_))
set_option maxHeartbeats 8000000 in
set_option maxRecDepth 100000 in
theorem impl_mixText.calls (k : Nat) (A0 : Option Addr) (c0 : Nat) (l0 : List Int) (a1 : Int) (a2 : ByteArray) (r : ByteArray) (w : World) (hr0 : Kd.C (Kd.int .i64) w A0 l0.length l0) (hc0 : l0.length ≤ c0) (h : impl_mixText.f k l0 a1 a2 = some r) :
  Calls Tryz.prog 139 #[.slice A0 l0.length c0, .int .i64 a1, .string a2] w fun e w' => e = .returned (.string r) ∧ Below w.heap.size w w' := by
 have HR0 := Aside0.mk hr0; have HC0 := Aside0.mk hc0; clear hr0 hc0
 have HB := Aside0.mk (Below.refl w.heap.size w)
 have H : (impl_mixText.l0 k l0 a1 a2 (([] : List Int)) 0) = some r := h
 clear h
 obtain ⟨y283, hy_⟩ : ∃ y_ : List Int, y_ = (([] : List Int)) := ⟨_, rfl⟩
 replace H : (impl_mixText.l0 k l0 a1 a2 y283 0) = some r := yH
 have Ny283 := ak hy_; clear hy_
 have H' := Aside0.mk H
 clear H
 go_enter Tryz.func139, Tryz.ntmps139
 go_wp2_with (first | ((with_reducible refine gate_dst (N := 9) rfl ?_); refine Kd.R_lit (Kd.int .u8) _ 5 ?hg (N := 9) ?hd (xs := ([] : List Int)) (inner := []) (ok := fun _ => True) (okp := fun _ => True) ?hr ?hp (fun _ hk => hk) trivial (Below.refl _ _) (Nat.le_refl _) (by simp) ?_; (case hd => rfl); (case hg => rfl); (case hr => first | (go_simp; done) | (go_simp; rfl)); (case hp => exact (Reps.none _ _)); intro v284 w4 ho5 hb hg_ hnew_; clear hg_ hnew_; (first | rw [← Ny283.out] at ho5 | (simp only [Int.reduceToNat] at ho5; rw [← Ny283.out] at ho5)); have HO285 := ak (Kd.R_lower ho5 (below_size (belowd HB))); replace HB := ak (below_step (belowd HB) hb); clear hb ho5))
 repeat (go_quiet (first | ((with_reducible refine gate_dst (N := 9) rfl ?_); refine Kd.R_lit (Kd.int .u8) _ 5 ?hg (N := 9) ?hd (xs := ([] : List Int)) (inner := []) (ok := fun _ => True) (okp := fun _ => True) ?hr ?hp (fun _ hk => hk) trivial (Below.refl _ _) (Nat.le_refl _) (by simp) ?_; (case hd => rfl); (case hg => rfl); (case hr => first | (go_simp; done) | (go_simp; rfl)); (case hp => exact (Reps.none _ _)); intro v284 w4 ho5 hb hg_ hnew_; clear hg_ hnew_; (first | rw [← Ny283.out] at ho5 | (simp only [Int.reduceToNat] at ho5; rw [← Ny283.out] at ho5)); have HO285 := ak (Kd.R_lower ho5 (below_size (belowd HB))); replace HB := ak (below_step (belowd HB) hb); clear hb ho5)); try go_wp2_with (first | ((with_reducible refine gate_dst (N := 9) rfl ?_); refine Kd.R_lit (Kd.int .u8) _ 5 ?hg (N := 9) ?hd (xs := ([] : List Int)) (inner := []) (ok := fun _ => True) (okp := fun _ => True) ?hr ?hp (fun _ hk => hk) trivial (Below.refl _ _) (Nat.le_refl _) (by simp) ?_; (case hd => rfl); (case hg => rfl); (case hr => first | (go_simp; done) | (go_simp; rfl)); (case hp => exact (Reps.none _ _)); intro v284 w4 ho5 hb hg_ hnew_; clear hg_ hnew_; (first | rw [← Ny283.out] at ho5 | (simp only [Int.reduceToNat] at ho5; rw [← Ny283.out] at ho5)); have HO285 := ak (Kd.R_lower ho5 (below_size (belowd HB))); replace HB := ak (below_step (belowd HB) hb); clear hb ho5)))
 go_loopg [1, 7, 8] k (fun kq v1 v7 v8 w' => ∃ (x1_1 : Int) (x7_1 : List Int) (x8_1 : Int), v1 = .int .i64 x1_1 ∧ v8 = .int .i64 x8_1 ∧ Aside0 (impl_mixText.l0 kq l0 x1_1 a2 x7_1 x8_1 = some r) ∧ Aside0 (kq ≤ k) ∧ Aside0 (Kd.R (Kd.int .u8) 5 w' w.heap.size (fun _ => True) v7 x7_1) ∧ Aside0 (Below w.heap.size w w'))
 case atStart => exact ⟨(a1), (y283), (0), er, er, H', ⟨Nat.le_refl _⟩, ⟨rdl HO285⟩, ⟨belowd HB⟩⟩
 case round =>
  clear H'
  obtain ⟨x1_1, x7_1, x8_1, rfl, rfl, HA, HK1, HO_7, HB⟩ := hrel
  cases gk with
  | zero => exact absurd HA.out (by simp [impl_mixText.l0])
  | succ k1 =>
   have H := HA.out; clear HA
   simp only [impl_mixText.l0] at H
   by_cases c6 : x8_1 < (a2.size : Int)
   ·rw [if_pos c6] at H
    have c6b0 : decide (x8_1 < (a2.size : Int)) = true := decide_eq_true c6
    clear c6; replace H := ifS H; obtain ⟨c7, H⟩ := H; have c7b0 := decide_eq_true c7; clear c7
    obtain ⟨ji9, hji9⟩ : ∃ j_ : Int, (wrap64 (x8_1 + 1)) = j_ := ⟨_, rfl⟩
    replace H : (if 0 ≤ (ji9) then (if (ji9) < (a2.size : Int) then ((impl_mix.f k1 l0 (Go.bits .xor .i64 (Go.bits .or .i64 (wrap64 ((wrap64 (bt a2 x8_1)) * 256)) (wrap64 (bt a2 (ji9)))) x1_1)).bind fun t286 => ((some (([(t286 / 256) % 256, (t286) % 256] : List Int) : List Int)).bind fun y287 => (if x7_1.length + y287.length < 140737488355328 then (impl_mixText.l0 k1 l0 t286 a2 (x7_1 ++ y287) (wrap64 (x8_1 + 2))) else (none)))) else (none)) else (none)) = some r := by first | (rw [hji9] at H; exact H) | (simp only [hji9] at H ⊢; exact H)
    have hji9w : (IntKind.i64.wrap (x8_1 + 1)) = ji9 := (i64_w _).trans hji9
    replace H := ifS H; obtain ⟨c10, H⟩ := H; have c10b0 := decide_eq_true c10; clear c10; replace H := ifS H; obtain ⟨c11, H⟩ := H; have c11b0 := decide_eq_true c11; clear c11; replace H := bS H; obtain ⟨t286, A13, H⟩ := H
    replace H : ((some (([(t286 / 256) % 256, (t286) % 256] : List Int) : List Int)).bind fun y287 => (if x7_1.length + y287.length < 140737488355328 then (impl_mixText.l0 k1 l0 t286 a2 (x7_1 ++ y287) (wrap64 (x8_1 + 2))) else (none))) = some r := H
    obtain ⟨y287, hy_⟩ : ∃ y_ : List Int, y_ = (([(t286 / 256) % 256, (t286) % 256] : List Int)) := ⟨_, rfl⟩
    replace H : (if x7_1.length + y287.length < 140737488355328 then (impl_mixText.l0 k1 l0 t286 a2 (x7_1 ++ y287) (wrap64 (x8_1 + 2))) else (none)) = some r := yH
    have Ny287 := ak hy_; clear hy_; replace H := ifS H; obtain ⟨c14, H⟩ := H; have LMc14 := Aside0.mk c14; clear c14
    obtain ⟨y290, hy_⟩ : ∃ y_ : List Int, y_ = (x7_1 ++ y287) := ⟨_, rfl⟩
    replace H : (impl_mixText.l0 k1 l0 t286 a2 y290 (wrap64 (x8_1 + 2))) = some r := yH
    have Ny290 := ak hy_; clear hy_
    have H' := Aside0.mk H
    clear H
    have p8 : 0 ≤ (x8_1 : Int) := da
    have q8 : x8_1 < (a2.size : Int) := da
    have hx8 := bt_at a2 x8_1
    replace p8 := eq_true p8; replace q8 := eq_true q8
    have p12 : 0 ≤ ((ji9) : Int) := da
    have q12 : (ji9) < (a2.size : Int) := da
    have hx12 := bt_at a2 (ji9)
    replace p12 := eq_true p12; replace q12 := eq_true q12
    go_wp2_with (first | (go_at_call 156; (with_reducible refine (impl_mix.calls k1 _ _ l0 (Go.bits .xor .i64 (Go.bits .or .i64 (wrap64 ((wrap64 (bt a2 x8_1)) * 256)) (wrap64 (bt a2 (ji9)))) x1_1) t286 _ ?side1 ?side2 A13.out).mono ?_); (case side1 => exact cd (Kd.C_below HR0.out HB.out)); (case side2 => exact HC0.out); rintro e w' ⟨rfl, ⟨nd, rfl⟩⟩; (try first | exact ⟨rfl, _, World.drewN_drewN _ _ _⟩ | exact ⟨rfl, _, Eq.trans (World.drewN_drewN _ _ _) (congrArg (World.drewN _) (Nat.add_assoc _ _ _))⟩)) | ((with_reducible refine gate_dst (N := 37) rfl ?_); refine Kd.R_lit (Kd.int .u8) _ 5 ?hg (N := 37) ?hd (xs := ([(t286 / 256) % 256, (t286) % 256] : List Int)) (inner := [.int .u8 ((t286 / 256) % 256), .int .u8 ((t286) % 256)]) (ok := fun _ => True) (okp := fun _ => True) ?hr ?hp (fun _ hk => hk) trivial (Below.refl _ _) (Nat.le_refl _) (by simp) ?_; (case hd => rfl); (case hg => rfl); (case hr => first | (go_simp; done) | (go_simp; rfl)); (case hp => exact (Reps.one (show Kd.M (Kd.int .u8) _ _ _ ((t286 / 256) % 256) [.int .u8 ((t286 / 256) % 256)] from rfl) (Reps.one (show Kd.M (Kd.int .u8) _ _ _ ((t286) % 256) [.int .u8 ((t286) % 256)] from rfl) (Reps.none _ _)))); intro v288 w15 ho16 hb hg_ hnew_; clear hg_ hnew_; (first | rw [← Ny287.out] at ho16 | (simp only [Int.reduceToNat] at ho16; rw [← Ny287.out] at ho16)); have HO289 := ak (Kd.R_lower (Kd.R_new' ho16 (Kd.R_lt (rdl HO_7))) (below_size (belowd HB))); replace HO_7 := ak (Kd.R_elder' (rdl HO_7) (Kd.R_base ho16) hb); replace HB := ak (below_step (belowd HB) hb); clear hb ho16; obtain ⟨Ao18, co18, eo18⟩ := Kd.R_slice HO289.out; subst eo18) | ((with_reducible refine gate_builtin (b := .append) (xs := #[.tmp 31, .tmp 37]) rfl ?_); at_builtin; refine Kd.R_append_rows (Kd.int .u8) (w0 := w) w.heap.size rfl (.tmp 31) (.tmp 37) 56 5 (.int .u8 0) 1 rfl Tryz.underlying56 info5 rfl (by decide) (by omega) u7 x7_1 y287 _ _ _ (fun k_ => some k_ ≠ (.slice Ao18 y287.length co18 : Value).ownBlock) (fun _ => False) rfl rfl ?aO ?aR (fun _ _ h => h) (fun _ h => h.elim) ?aF ?aB ?aS ?aL ?_; (case aR => exact cd (Kd.R_reads' HO289.out).2.2); (case aB => exact (belowd HB)); (case aF => exact (fun k_ hk => Kd.fresh' (Kd.R_lt (rdl HO289)) k_ hk)); (case aO => exact (by (with_reducible repeat (first | apply Kd.R_alloc | apply Kd.R_drewN | apply Kd.R_drew)); exact Kd.R_mono HO_7.out (fun _ hk => hk.2))); (case aS => exact (below_size (belowd HB))); (case aL => have := LMc14.out; omega); intro v291 w17 ho hb hg hat; rw [← Ny290.out] at ho; replace HO289 := ak (Kd.R_after (ok := (fun _ => True)) (rdl HO289) hg hat); replace HB := ak (hb); have HO292 := ak (ho); clear HO_7; clear ho hb hg hat))
    repeat (go_quiet (first | (go_at_call 156; (with_reducible refine (impl_mix.calls k1 _ _ l0 (Go.bits .xor .i64 (Go.bits .or .i64 (wrap64 ((wrap64 (bt a2 x8_1)) * 256)) (wrap64 (bt a2 (ji9)))) x1_1) t286 _ ?side1 ?side2 A13.out).mono ?_); (case side1 => exact cd (Kd.C_below HR0.out HB.out)); (case side2 => exact HC0.out); rintro e w' ⟨rfl, ⟨nd, rfl⟩⟩; (try first | exact ⟨rfl, _, World.drewN_drewN _ _ _⟩ | exact ⟨rfl, _, Eq.trans (World.drewN_drewN _ _ _) (congrArg (World.drewN _) (Nat.add_assoc _ _ _))⟩)) | ((with_reducible refine gate_dst (N := 37) rfl ?_); refine Kd.R_lit (Kd.int .u8) _ 5 ?hg (N := 37) ?hd (xs := ([(t286 / 256) % 256, (t286) % 256] : List Int)) (inner := [.int .u8 ((t286 / 256) % 256), .int .u8 ((t286) % 256)]) (ok := fun _ => True) (okp := fun _ => True) ?hr ?hp (fun _ hk => hk) trivial (Below.refl _ _) (Nat.le_refl _) (by simp) ?_; (case hd => rfl); (case hg => rfl); (case hr => first | (go_simp; done) | (go_simp; rfl)); (case hp => exact (Reps.one (show Kd.M (Kd.int .u8) _ _ _ ((t286 / 256) % 256) [.int .u8 ((t286 / 256) % 256)] from rfl) (Reps.one (show Kd.M (Kd.int .u8) _ _ _ ((t286) % 256) [.int .u8 ((t286) % 256)] from rfl) (Reps.none _ _)))); intro v288 w15 ho16 hb hg_ hnew_; clear hg_ hnew_; (first | rw [← Ny287.out] at ho16 | (simp only [Int.reduceToNat] at ho16; rw [← Ny287.out] at ho16)); have HO289 := ak (Kd.R_lower (Kd.R_new' ho16 (Kd.R_lt (rdl HO_7))) (below_size (belowd HB))); replace HO_7 := ak (Kd.R_elder' (rdl HO_7) (Kd.R_base ho16) hb); replace HB := ak (below_step (belowd HB) hb); clear hb ho16; obtain ⟨Ao18, co18, eo18⟩ := Kd.R_slice HO289.out; subst eo18) | ((with_reducible refine gate_builtin (b := .append) (xs := #[.tmp 31, .tmp 37]) rfl ?_); at_builtin; refine Kd.R_append_rows (Kd.int .u8) (w0 := w) w.heap.size rfl (.tmp 31) (.tmp 37) 56 5 (.int .u8 0) 1 rfl Tryz.underlying56 info5 rfl (by decide) (by omega) u7 x7_1 y287 _ _ _ (fun k_ => some k_ ≠ (.slice Ao18 y287.length co18 : Value).ownBlock) (fun _ => False) rfl rfl ?aO ?aR (fun _ _ h => h) (fun _ h => h.elim) ?aF ?aB ?aS ?aL ?_; (case aR => exact cd (Kd.R_reads' HO289.out).2.2); (case aB => exact (belowd HB)); (case aF => exact (fun k_ hk => Kd.fresh' (Kd.R_lt (rdl HO289)) k_ hk)); (case aO => exact (by (with_reducible repeat (first | apply Kd.R_alloc | apply Kd.R_drewN | apply Kd.R_drew)); exact Kd.R_mono HO_7.out (fun _ hk => hk.2))); (case aS => exact (below_size (belowd HB))); (case aL => have := LMc14.out; omega); intro v291 w17 ho hb hg hat; rw [← Ny290.out] at ho; replace HO289 := ak (Kd.R_after (ok := (fun _ => True)) (rdl HO289) hg hat); replace HB := ak (hb); have HO292 := ak (ho); clear HO_7; clear ho hb hg hat)); try go_wp2_with (first | (go_at_call 156; (with_reducible refine (impl_mix.calls k1 _ _ l0 (Go.bits .xor .i64 (Go.bits .or .i64 (wrap64 ((wrap64 (bt a2 x8_1)) * 256)) (wrap64 (bt a2 (ji9)))) x1_1) t286 _ ?side1 ?side2 A13.out).mono ?_); (case side1 => exact cd (Kd.C_below HR0.out HB.out)); (case side2 => exact HC0.out); rintro e w' ⟨rfl, ⟨nd, rfl⟩⟩; (try first | exact ⟨rfl, _, World.drewN_drewN _ _ _⟩ | exact ⟨rfl, _, Eq.trans (World.drewN_drewN _ _ _) (congrArg (World.drewN _) (Nat.add_assoc _ _ _))⟩)) | ((with_reducible refine gate_dst (N := 37) rfl ?_); refine Kd.R_lit (Kd.int .u8) _ 5 ?hg (N := 37) ?hd (xs := ([(t286 / 256) % 256, (t286) % 256] : List Int)) (inner := [.int .u8 ((t286 / 256) % 256), .int .u8 ((t286) % 256)]) (ok := fun _ => True) (okp := fun _ => True) ?hr ?hp (fun _ hk => hk) trivial (Below.refl _ _) (Nat.le_refl _) (by simp) ?_; (case hd => rfl); (case hg => rfl); (case hr => first | (go_simp; done) | (go_simp; rfl)); (case hp => exact (Reps.one (show Kd.M (Kd.int .u8) _ _ _ ((t286 / 256) % 256) [.int .u8 ((t286 / 256) % 256)] from rfl) (Reps.one (show Kd.M (Kd.int .u8) _ _ _ ((t286) % 256) [.int .u8 ((t286) % 256)] from rfl) (Reps.none _ _)))); intro v288 w15 ho16 hb hg_ hnew_; clear hg_ hnew_; (first | rw [← Ny287.out] at ho16 | (simp only [Int.reduceToNat] at ho16; rw [← Ny287.out] at ho16)); have HO289 := ak (Kd.R_lower (Kd.R_new' ho16 (Kd.R_lt (rdl HO_7))) (below_size (belowd HB))); replace HO_7 := ak (Kd.R_elder' (rdl HO_7) (Kd.R_base ho16) hb); replace HB := ak (below_step (belowd HB) hb); clear hb ho16; obtain ⟨Ao18, co18, eo18⟩ := Kd.R_slice HO289.out; subst eo18) | ((with_reducible refine gate_builtin (b := .append) (xs := #[.tmp 31, .tmp 37]) rfl ?_); at_builtin; refine Kd.R_append_rows (Kd.int .u8) (w0 := w) w.heap.size rfl (.tmp 31) (.tmp 37) 56 5 (.int .u8 0) 1 rfl Tryz.underlying56 info5 rfl (by decide) (by omega) u7 x7_1 y287 _ _ _ (fun k_ => some k_ ≠ (.slice Ao18 y287.length co18 : Value).ownBlock) (fun _ => False) rfl rfl ?aO ?aR (fun _ _ h => h) (fun _ h => h.elim) ?aF ?aB ?aS ?aL ?_; (case aR => exact cd (Kd.R_reads' HO289.out).2.2); (case aB => exact (belowd HB)); (case aF => exact (fun k_ hk => Kd.fresh' (Kd.R_lt (rdl HO289)) k_ hk)); (case aO => exact (by (with_reducible repeat (first | apply Kd.R_alloc | apply Kd.R_drewN | apply Kd.R_drew)); exact Kd.R_mono HO_7.out (fun _ hk => hk.2))); (case aS => exact (below_size (belowd HB))); (case aL => have := LMc14.out; omega); intro v291 w17 ho hb hg hat; rw [← Ny290.out] at ho; replace HO289 := ak (Kd.R_after (ok := (fun _ => True)) (rdl HO289) hg hat); replace HB := ak (hb); have HO292 := ak (ho); clear HO_7; clear ho hb hg hat)))
    go_roundg k1
    case measure => have := HK1.out; omega
    case rel => exact ⟨(t286), (y290), (wrap64 (x8_1 + 2)), er, er, H', ⟨by have := HK1.out; omega⟩, ⟨by (with_reducible repeat (first | apply Kd.R_alloc | apply Kd.R_drewN | apply Kd.R_drew)); exact Kd.R_mono HO292.out (fun _ hk => trivial)⟩, ⟨belowd HB⟩⟩
   ·rw [if_neg c6] at H
    have c6b0 : decide (x8_1 < (a2.size : Int)) = false := decide_eq_false c6
    clear c6
    obtain rfl := Option.some.inj H
    have hcv19 := own_string (P := Tryz.prog) Tryz.underlying56 Tryz.underlying5 Tryz.underlying9 (Kd.own_of_R HO_7.out)
    go_wp2
    repeat (go_quiet (fail); try go_wp2)
    go_ret
    exact ⟨er2, belowd HB⟩

/-! ### impl_pad: function 124 -/
def impl_pad.f (k : Nat) (a0 : Int) (a1 : Int) : Option (ByteArray) := (strings_Repeat.f k (⟨#[0]⟩ : ByteArray) a1).bind fun t296 => ((impl_mixText.f k (([a0, a0, a0] : List Int)) a0 t296).bind fun t297 => (some t297))
theorem impl_pad.mono : ∀ a0 a1 k, LeO (impl_pad.f k a0 a1) (impl_pad.f (k + 1) a0 a1) := by
 intro a0 a1 k
 unfold impl_pad.f
 repeat' (first | (with_reducible first | exact impl_mixText.mono _ _ _ _ | exact strings_Repeat.mono _ _ _ | exact LeO.refl _ | exact LeO.none _ | refine LeO.ite ?_ ?_ | refine LeO.bind ?_ (fun _ => ?_)) | exact impl_mixText.mono _ _ _ _ | exact strings_Repeat.mono _ _ _ | exact LeO.none _ | refine LeO.ite ?_ ?_ | refine LeO.bind ?_ (fun _ => ?_))
set_option maxHeartbeats 8000000 in
set_option maxRecDepth 100000 in
theorem impl_pad.calls (k : Nat) (a0 : Int) (a1 : Int) (r : ByteArray) (w : World) (h : impl_pad.f k a0 a1 = some r) :
  Calls Tryz.prog 124 #[.int .i64 a0, .int .i64 a1] w fun e w' => e = .returned (.string r) ∧ Below w.heap.size w w' := by
 have HB := Aside0.mk (Below.refl w.heap.size w)
 have H : ((strings_Repeat.f k (⟨#[0]⟩ : ByteArray) a1).bind fun t296 => ((impl_mixText.f k (([a0, a0, a0] : List Int)) a0 t296).bind fun t297 => (some t297))) = some r := h
 clear h
 obtain ⟨y293, hy_⟩ : ∃ y_ : List Int, y_ = (([a0, a0, a0] : List Int)) := ⟨_, rfl⟩
 replace H : ((strings_Repeat.f k (⟨#[0]⟩ : ByteArray) a1).bind fun t296 => ((impl_mixText.f k y293 a0 t296).bind fun t297 => (some t297))) = some r := yH
 have Ny293 := ak hy_; clear hy_; replace H := bS H; obtain ⟨t296, A3, H⟩ := H
 replace H : ((impl_mixText.f k y293 a0 t296).bind fun t297 => (some t297)) = some r := H
 replace H := bS H; obtain ⟨t297, A4, H⟩ := H
 replace H : (some t297) = some r := H
 obtain rfl := Option.some.inj H
 go_enter Tryz.func124, Tryz.ntmps124
 go_wp2_with (first | ((with_reducible refine gate_dst (N := 8) rfl ?_); refine Kd.R_lit (Kd.int .i64) _ 3 ?hg (N := 8) ?hd (xs := ([a0, a0, a0] : List Int)) (inner := [.int .i64 a0, .int .i64 a0, .int .i64 a0]) (ok := fun _ => True) (okp := fun _ => True) ?hr ?hp (fun _ hk => hk) trivial (Below.refl _ _) (Nat.le_refl _) (by simp) ?_; (case hd => rfl); (case hg => rfl); (case hr => first | (go_simp; done) | (go_simp; rfl)); (case hp => exact (Reps.one (show Kd.M (Kd.int .i64) _ _ _ a0 [.int .i64 a0] from rfl) (Reps.one (show Kd.M (Kd.int .i64) _ _ _ a0 [.int .i64 a0] from rfl) (Reps.one (show Kd.M (Kd.int .i64) _ _ _ a0 [.int .i64 a0] from rfl) (Reps.none _ _))))); intro v294 w5 ho6 hb hg_ hnew_; clear hg_ hnew_; (first | rw [← Ny293.out] at ho6 | (simp only [Int.reduceToNat] at ho6; rw [← Ny293.out] at ho6)); have HO295 := ak (Kd.R_lower ho6 (below_size (belowd HB))); replace HB := ak (below_step (belowd HB) hb); clear hb ho6) | ((with_reducible refine gate_callee (f := 132) rfl ?_); refine goesLa (some 11) rfl Tryz.func132 #[.string (⟨#[0]⟩ : ByteArray), .int .i64 a1] rfl ?_; (with_reducible refine (strings_Repeat.calls k (⟨#[0]⟩ : ByteArray) a1 t296 _ A3.out).mono ?_); rintro e w7 ⟨rfl, hb⟩; refine ⟨_, rfl, ?_⟩; replace HO295 := ak (Kd.R_below (rdl HO295) hb); replace HB := ak (below_step (belowd HB) hb); (try clear hb); obtain ⟨Ao8, co8, eo8⟩ := Kd.R_slice HO295.out; subst eo8) | ((with_reducible refine gate_callee (f := 139) rfl ?_); refine goesLa (some 12) rfl Tryz.func139 #[.slice Ao8 y293.length co8, .int .i64 a0, .string t296] rfl ?_; (with_reducible refine (impl_mixText.calls k _ _ y293 a0 t296 t297 _ ?side1 ?side2 A4.out).mono ?_); (case side1 => exact cd (Kd.R_reads' HO295.out).2.2); (case side2 => exact (Kd.R_reads' HO295.out).2.1); rintro e w9 ⟨rfl, hb⟩; refine ⟨_, rfl, ?_⟩; replace HO295 := ak (Kd.R_below (rdl HO295) hb); replace HB := ak (below_step (belowd HB) hb); (try clear hb)))
 go_ret
 exact ⟨er2, belowd HB⟩

/-! ### impl_isHop: function 125 -/
def impl_isHop.f (a0 : Int) : Option (Bool) := (impl_within.f a0 1 250).bind fun t298 => (some t298)
set_option maxHeartbeats 8000000 in
set_option maxRecDepth 100000 in
theorem impl_isHop.calls (a0 : Int) (r : Bool) (w : World) (h : impl_isHop.f a0 = some r) :
  Calls Tryz.prog 125 #[.int .i64 a0] w fun e w' => e = .returned (.bool r) ∧ Drawn0 w w' := by
 have H : ((impl_within.f a0 1 250).bind fun t298 => (some t298)) = some r := h
 clear h; replace H := bS H; obtain ⟨t298, A2, H⟩ := H
 replace H : (some t298) = some r := H
 obtain rfl := Option.some.inj H
 go_enter Tryz.func125, Tryz.ntmps125
 go_wp2_with (first | ((with_reducible refine gate_callee (f := 70) rfl ?_); refine goesLa (some 4) rfl Tryz.func70 #[.int .i64 a0, .int .i64 1, .int .i64 250] rfl ?_; (with_reducible refine (impl_within.calls a0 1 250 t298 _ A2.out).mono ?_); rintro e w' ⟨rfl, ⟨nd, rfl⟩⟩; refine ⟨_, rfl, ?_⟩))
 go_ret
 exact ⟨er, drw⟩

/-! ### impl_check: function 126 -/
def impl_check.l0 : Nat → ByteArray → Int → Int → Int → Option (Int)
  | 0, _, _, _, _ => none
  | k + 1, x0, x3, x6, x7 => if x7 < x6 then (if 0 ≤ x7 then (if x7 < (x0.size : Int) then (impl_check.l0 k x0 (wrap64 (x3 + (wrap64 ((wrap64 (bt x0 x7)) * (wrap64 (x7 + 1)))))) x6 (wrap64 (x7 + 1))) else (none)) else (none)) else (some (Int.tmod x3 251))
def impl_check.f (k : Nat) (a0 : ByteArray) : Option (Int) := impl_check.l0 k a0 0 (a0.size : Int) 0
theorem impl_check.mono_l : ∀ k, (∀ y0 y1 y2 y3, LeO (impl_check.l0 k y0 y1 y2 y3) (impl_check.l0 (k + 1) y0 y1 y2 y3))
 | 0 => fun _ _ _ _ r h => by simp [impl_check.l0] at h
 | k + 1 => by
  have ih0 := impl_check.mono_l k
  ·intro y0 y1 y2 y3
   unfold impl_check.l0
   repeat' (first | (with_reducible first | exact ih0 _ _ _ _ | exact LeO.refl _ | exact LeO.none _ | refine LeO.ite ?_ ?_ | refine LeO.bind ?_ (fun _ => ?_)) | exact ih0 _ _ _ _ | exact LeO.none _ | refine LeO.ite ?_ ?_ | refine LeO.bind ?_ (fun _ => ?_))
theorem impl_check.mono : ∀ a0 k, LeO (impl_check.f k a0) (impl_check.f (k + 1) a0) := by
 intro a0 k
 have ih0 := impl_check.mono_l k
 unfold impl_check.f
 repeat' (first | (with_reducible first | exact ih0 _ _ _ _ | exact LeO.refl _ | exact LeO.none _ | refine LeO.ite ?_ ?_ | refine LeO.bind ?_ (fun _ => ?_)) | exact ih0 _ _ _ _ | exact LeO.none _ | refine LeO.ite ?_ ?_ | refine LeO.bind ?_ (fun _ => ?_))
set_option maxHeartbeats 8000000 in
set_option maxRecDepth 100000 in
theorem impl_check.calls (k : Nat) (a0 : ByteArray) (r : Int) (w : World) (h : impl_check.f k a0 = some r) :
  Calls Tryz.prog 126 #[.string a0] w fun e w' => e = .returned (.int .i64 r) ∧ Drawn0 w w' := by
 have H : (impl_check.l0 k a0 0 (a0.size : Int) 0) = some r := h
 clear h
 have H' := Aside0.mk H
 clear H
 go_enter Tryz.func126, Tryz.ntmps126
 go_wp2
 go_loopg [3, 7] k (fun kq v3 v7 w' => ∃ (x3_1 : Int) (x7_1 : Int), v3 = .int .i64 x3_1 ∧ v7 = .int .i64 x7_1 ∧ Aside0 (impl_check.l0 kq a0 x3_1 (a0.size : Int) x7_1 = some r) ∧ Aside0 (kq ≤ k) ∧ Drawn0 w w')
 case atStart => exact ⟨(0), (0), er, er, H', ⟨Nat.le_refl _⟩, drw⟩
 case round =>
  clear H'
  obtain ⟨x3_1, x7_1, rfl, rfl, HA, HK1, ⟨m1, rfl⟩⟩ := hrel
  cases gk with
  | zero => exact absurd HA.out (by simp [impl_check.l0])
  | succ k1 =>
   have H := HA.out; clear HA
   simp only [impl_check.l0] at H
   by_cases c2 : x7_1 < (a0.size : Int)
   ·rw [if_pos c2] at H
    have c2b0 : decide (x7_1 < (a0.size : Int)) = true := decide_eq_true c2
    clear c2; replace H := ifS H; obtain ⟨c3, H⟩ := H; have c3b0 := decide_eq_true c3; clear c3; replace H := ifS H; obtain ⟨c4, H⟩ := H; have c4b0 := decide_eq_true c4; clear c4
    have H' := Aside0.mk H
    clear H
    have p5 : 0 ≤ (x7_1 : Int) := da
    have q5 : x7_1 < (a0.size : Int) := da
    have hx5 := bt_at a0 x7_1
    replace p5 := eq_true p5; replace q5 := eq_true q5; go_wp2
    go_roundg k1
    case measure => have := HK1.out; omega
    case rel => exact ⟨(wrap64 (x3_1 + (wrap64 ((wrap64 (bt a0 x7_1)) * (wrap64 (x7_1 + 1)))))), (wrap64 (x7_1 + 1)), er, er, H', ⟨by have := HK1.out; omega⟩, drw⟩
   ·rw [if_neg c2] at H
    have c2b0 : decide (x7_1 < (a0.size : Int)) = false := decide_eq_false c2
    clear c2
    obtain rfl := Option.some.inj H
    go_wp2
    go_ret
    exact ⟨er, drw⟩

/-! ### strings_TrimRight: function 140 -/
def strings_TrimRight.f (k : Nat) (a0 a1 : ByteArray) : Option ByteArray := match a1.data.toList with
  | [c] => if c.toNat < 128 then (if a0.size ≤ 9223372036854775807 then some ⟨(Lib.trimRightB a0.data.toList c).toArray⟩ else none) else none
  | _ => none
theorem strings_TrimRight.mono : ∀ a0 a1 k, LeO (strings_TrimRight.f k a0 a1) (strings_TrimRight.f (k + 1) a0 a1) := fun _ _ _ => LeO.refl _
theorem strings_TrimRight.calls (k : Nat) (a0 a1 : ByteArray) (r : ByteArray) (w : World) (h : strings_TrimRight.f k a0 a1 = some r) :
  Calls Tryz.prog 140 #[.string a0, .string a1] w fun e w' => e = .returned (.string r) ∧ Drawn0 w w' := by
 unfold strings_TrimRight.f at h
 split at h
 ·rename_i c hc
  replace h := ifS h; obtain ⟨h0, h⟩ := h
  replace h := ifS h; obtain ⟨h1, h⟩ := h
  obtain rfl := Option.some.inj h
  obtain rfl : a1 = ⟨#[c]⟩ := by
   cases a1 with | mk d => exact congrArg ByteArray.mk (Array.toList_inj.1 hc)
  refine (Any.strings_TrimRight_one strT a0 c h0 w h1).mono ?_
  rintro e w' ⟨rfl, rfl⟩
  exact ⟨rfl, drw⟩
 ·cases h

/-! ### strings_HasSuffix: function 141 -/
def strings_HasSuffix.f (k : Nat) (a0 a1 : ByteArray) : Option Bool := if a0.size ≤ 9223372036854775807 then some (Lib.hasSuffix a0.data.toList a1.data.toList) else none
theorem strings_HasSuffix.mono : ∀ a0 a1 k, LeO (strings_HasSuffix.f k a0 a1) (strings_HasSuffix.f (k + 1) a0 a1) := fun _ _ _ => LeO.refl _
theorem strings_HasSuffix.calls (k : Nat) (a0 a1 : ByteArray) (r : Bool) (w : World) (h : strings_HasSuffix.f k a0 a1 = some r) :
  Calls Tryz.prog 141 #[.string a0, .string a1] w fun e w' => e = .returned (.bool r) ∧ Drawn0 w w' := by
 unfold strings_HasSuffix.f at h
 replace h := ifS h; obtain ⟨h0, h⟩ := h
 obtain rfl := Option.some.inj h
 refine (Any.strings_HasSuffix strH a0 a1 w h0).mono ?_
 rintro e w' ⟨rfl, rfl⟩
 exact ⟨rfl, drw⟩

/-! ### impl_UnpadBody: function 127 -/
def impl_UnpadBody.f (k : Nat) (a0 : ByteArray) : Option (ByteArray × Bool) := (strings_TrimRight.f k a0 (⟨#[0]⟩ : ByteArray)).bind fun t299 => (if (a0.size : Int) = 16 then ((strings_HasSuffix.f k t299 (⟨#[128]⟩ : ByteArray)).bind fun t300 => (if t300 = true then (if 0 ≤ (wrap64 ((t299.size : Int) - 1)) then (if (wrap64 ((t299.size : Int) - 1)) ≤ (t299.size : Int) then (some (t299.extract 0 ((wrap64 ((t299.size : Int) - 1)) : Int).toNat, true)) else (none)) else (none)) else (some ((⟨#[]⟩ : ByteArray), false)))) else (some ((⟨#[]⟩ : ByteArray), false)))
theorem impl_UnpadBody.mono : ∀ a0 k, LeO (impl_UnpadBody.f k a0) (impl_UnpadBody.f (k + 1) a0) := by
 intro a0 k
 unfold impl_UnpadBody.f
 repeat' (first | (with_reducible first | exact strings_HasSuffix.mono _ _ _ | exact strings_TrimRight.mono _ _ _ | exact LeO.refl _ | exact LeO.none _ | refine LeO.ite ?_ ?_ | refine LeO.bind ?_ (fun _ => ?_)) | exact strings_HasSuffix.mono _ _ _ | exact strings_TrimRight.mono _ _ _ | exact LeO.none _ | refine LeO.ite ?_ ?_ | refine LeO.bind ?_ (fun _ => ?_))
set_option maxHeartbeats 8000000 in
set_option maxRecDepth 100000 in
theorem impl_UnpadBody.calls (k : Nat) (a0 : ByteArray) (r1 : ByteArray) (r2 : Bool) (w : World) (h : impl_UnpadBody.f k a0 = some (r1, r2)) :
  Calls Tryz.prog 127 #[.string a0] w fun e w' => e = .returned (.tuple #[.string r1, .bool r2]) ∧ Drawn0 w w' := by
 have H : ((strings_TrimRight.f k a0 (⟨#[0]⟩ : ByteArray)).bind fun t299 => (if (a0.size : Int) = 16 then ((strings_HasSuffix.f k t299 (⟨#[128]⟩ : ByteArray)).bind fun t300 => (if t300 = true then (if 0 ≤ (wrap64 ((t299.size : Int) - 1)) then (if (wrap64 ((t299.size : Int) - 1)) ≤ (t299.size : Int) then (some (t299.extract 0 ((wrap64 ((t299.size : Int) - 1)) : Int).toNat, true)) else (none)) else (none)) else (some ((⟨#[]⟩ : ByteArray), false)))) else (some ((⟨#[]⟩ : ByteArray), false)))) = some (r1, r2) := h
 clear h; replace H := bS H; obtain ⟨t299, A2, H⟩ := H
 replace H : (if (a0.size : Int) = 16 then ((strings_HasSuffix.f k t299 (⟨#[128]⟩ : ByteArray)).bind fun t300 => (if t300 = true then (if 0 ≤ (wrap64 ((t299.size : Int) - 1)) then (if (wrap64 ((t299.size : Int) - 1)) ≤ (t299.size : Int) then (some (t299.extract 0 ((wrap64 ((t299.size : Int) - 1)) : Int).toNat, true)) else (none)) else (none)) else (some ((⟨#[]⟩ : ByteArray), false)))) else (some ((⟨#[]⟩ : ByteArray), false))) = some (r1, r2) := H
 by_cases c3 : (a0.size : Int) = 16
 ·rw [if_pos c3] at H
  have c3b0 : ((a0.size : Int) == 16) = true := beq_iff_eq.mpr c3
  have c3b1 : ((a0.size : Int) != 16) = false := bne_eq_false_iff_eq.mpr c3
  clear c3; replace H := bS H; obtain ⟨t300, A4, H⟩ := H
  replace H : (if t300 = true then (if 0 ≤ (wrap64 ((t299.size : Int) - 1)) then (if (wrap64 ((t299.size : Int) - 1)) ≤ (t299.size : Int) then (some (t299.extract 0 ((wrap64 ((t299.size : Int) - 1)) : Int).toNat, true)) else (none)) else (none)) else (some ((⟨#[]⟩ : ByteArray), false))) = some (r1, r2) := H
  by_cases c5 : t300 = true
  ·subst c5
   have H1 : (if 0 ≤ (wrap64 ((t299.size : Int) - 1)) then (if (wrap64 ((t299.size : Int) - 1)) ≤ (t299.size : Int) then (some (t299.extract 0 ((wrap64 ((t299.size : Int) - 1)) : Int).toNat, true)) else (none)) else (none)) = some (r1, r2) := by rw [if_pos rfl] at H; exact H
   clear H
   have H := H1
   clear H1
   obtain ⟨ji6, hji6⟩ : ∃ j_ : Int, (wrap64 ((t299.size : Int) - 1)) = j_ := ⟨_, rfl⟩
   replace H : (if 0 ≤ (ji6) then (if (ji6) ≤ (t299.size : Int) then (some (t299.extract 0 ((ji6) : Int).toNat, true)) else (none)) else (none)) = some (r1, r2) := by first | (rw [hji6] at H; exact H) | (simp only [hji6] at H ⊢; exact H)
   (try rw [hji6] at A2)
   (try rw [hji6] at A4)
   have hji6w : (IntKind.i64.wrap ((t299.size : Int) - 1)) = ji6 := (i64_w _).trans hji6
   replace H := ifS H; obtain ⟨c7, H⟩ := H; have c7b0 := eq_true c7
   have c7b1 : decide (0 ≤ (ji6)) = true := decide_eq_true c7
   clear c7; replace H := ifS H; obtain ⟨c8, H⟩ := H; have c8b0 := eq_true c8
   have c8b1 : decide ((ji6) ≤ (t299.size : Int)) = true := decide_eq_true c8
   clear c8
   simp only [Option.some.injEq, Prod.mk.injEq] at H
   obtain ⟨rfl, rfl⟩ := H
   go_enter Tryz.func127, Tryz.ntmps127
   go_wp2_with (first | ((with_reducible refine gate_callee (f := 140) rfl ?_); refine goesLa (some 6) rfl Tryz.func140 #[.string a0, .string (⟨#[0]⟩ : ByteArray)] rfl ?_; (with_reducible refine (strings_TrimRight.calls k a0 (⟨#[0]⟩ : ByteArray) t299 _ A2.out).mono ?_); rintro e w' ⟨rfl, ⟨nd, rfl⟩⟩; refine ⟨_, rfl, ?_⟩) | (go_at_call 141; (with_reducible refine (strings_HasSuffix.calls k t299 (⟨#[128]⟩ : ByteArray) true _ A4.out).mono ?_); rintro e w' ⟨rfl, ⟨nd, rfl⟩⟩))
   go_ret2
   exact ⟨by first | rfl | (simp; done) | (simp only [← hji6] <;> (first | rfl | simp)) | (simp [*]; done), drw⟩
  ·replace c5 := Bool.eq_false_iff.mpr c5
   subst c5
   have H1 : (some ((⟨#[]⟩ : ByteArray), false)) = some (r1, r2) := by rw [if_neg (show ¬ (false = true) by decide)] at H; exact H
   clear H
   have H := H1
   clear H1
   simp only [Option.some.injEq, Prod.mk.injEq] at H
   obtain ⟨rfl, rfl⟩ := H
   go_enter Tryz.func127, Tryz.ntmps127
   go_wp2_with (first | ((with_reducible refine gate_callee (f := 140) rfl ?_); refine goesLa (some 6) rfl Tryz.func140 #[.string a0, .string (⟨#[0]⟩ : ByteArray)] rfl ?_; (with_reducible refine (strings_TrimRight.calls k a0 (⟨#[0]⟩ : ByteArray) t299 _ A2.out).mono ?_); rintro e w' ⟨rfl, ⟨nd, rfl⟩⟩; refine ⟨_, rfl, ?_⟩) | (go_at_call 141; (with_reducible refine (strings_HasSuffix.calls k t299 (⟨#[128]⟩ : ByteArray) false _ A4.out).mono ?_); rintro e w' ⟨rfl, ⟨nd, rfl⟩⟩))
   go_ret2
   exact ⟨er, drw⟩
 ·rw [if_neg c3] at H
  have c3b0 : ((a0.size : Int) == 16) = false := beq_eq_false_iff_ne.mpr c3
  have c3b1 : ((a0.size : Int) != 16) = true := bne_iff_ne.mpr c3
  simp only [Option.some.injEq, Prod.mk.injEq] at H
  obtain ⟨rfl, rfl⟩ := H
  go_enter Tryz.func127, Tryz.ntmps127
  go_wp2_with (first | ((with_reducible refine gate_callee (f := 140) rfl ?_); refine goesLa (some 6) rfl Tryz.func140 #[.string a0, .string (⟨#[0]⟩ : ByteArray)] rfl ?_; (with_reducible refine (strings_TrimRight.calls k a0 (⟨#[0]⟩ : ByteArray) t299 _ A2.out).mono ?_); rintro e w' ⟨rfl, ⟨nd, rfl⟩⟩; refine ⟨_, rfl, ?_⟩))
  go_ret2
  exact ⟨er, drw⟩

/-! ### impl_PeelOnion: function 115 -/
def impl_PeelOnion.T4 : Bool × List (List Nat × List Nat) := (true, [([], []), ([0], [0]), ([1], [1]), ([2], [2]), ([3], [3]), ([4, 3], [4]), ([5], [5]), ([6, 5], [5, 6]), ([7, 5], [5, 7]), ([5], [5]), ([9, 5], [5, 9]), ([10, 5, 5], [5, 10]), ([8, 11, 5], [5, 8, 11]), ([5, 12], [5, 12])])
def impl_PeelOnion.B4 : List Nat := [0, 1, 3, 7, 15, 31, 63, 127, 255, 63, 575, 1599, 4095, 8191]
theorem impl_PeelOnion.tab4 : rtab .any (opsOf Tryz.f115 4) = impl_PeelOnion.T4 := by kernel_rfl
theorem impl_PeelOnion.bits4 : waitsOk impl_PeelOnion.T4.2 impl_PeelOnion.B4 = true := by kernel_rfl
def impl_PeelOnion.f (k : Nat) (a0 : Int) (a1 : ByteArray) : Option (Int × ByteArray × ByteArray × Bool) := (impl_isKey.f a0).bind fun c0 => if c0 = true ∧ a1.size = 24 then (impl_pad.f k a0 24).bind fun p => (impl_xor.f k a1 p).bind fun t => if t.size = 24 then (impl_isHop.f (wrap64 (bt t 0))).bind fun c => if c = true then (impl_check.f k (t.extract 2 18)).bind fun d => if wrap64 (bt t 1) = d then (impl_UnpadBody.f k ((t.extract 2 t.size ++ (⟨#[0, 0]⟩ : ByteArray)).extract 0 16)).bind fun b => some (wrap64 (bt t 0), t.extract 2 t.size ++ (⟨#[0, 0]⟩ : ByteArray), b.1, true) else some (0, ⟨#[]⟩, ⟨#[]⟩, false) else some (0, ⟨#[]⟩, ⟨#[]⟩, false) else none else none
set_option maxHeartbeats 16000000 in
set_option maxRecDepth 100000 in
theorem impl_PeelOnion.calls (k : Nat) (a0 : Int) (a1 : ByteArray) (r1 : Int) (r2 : ByteArray) (r3 : ByteArray) (r4 : Bool) (w : World) (h : impl_PeelOnion.f k a0 a1 = some (r1, r2, r3, r4)) :
  Calls Tryz.prog 115 #[.int .i64 a0, .string a1] w fun e w' => e = .returned (.tuple #[.agg #[.int .i64 r1, .string r2, .string r3], .bool r4]) ∧ Below w.heap.size w w' := by
 have huP := Tryz.underlying105
 have HS := Sep.nil w
 unfold impl_PeelOnion.f at h
 replace h := bS h; obtain ⟨c0, T0, h⟩ := h
 replace h := ifS h; obtain ⟨⟨rfl, hz⟩, h⟩ := h
 replace h := bS h; obtain ⟨p, T1, h⟩ := h
 replace h := bS h; obtain ⟨t, T2, h⟩ := h
 replace h := ifS h; obtain ⟨ht, h⟩ := h
 replace h := bS h; obtain ⟨c, T3, h⟩ := h
 have hz1 : ((a1.size : Int) != 24) = false := by rw [hz]; rfl
 have q0 : (0 < t.size) = True := eq_true (by omega)
 have q1 : (1 < t.size) = True := eq_true (by omega)
 have qi0 : (0 < (t.size : Int)) = True := eq_true (by omega)
 have qi1 : (1 < (t.size : Int)) = True := eq_true (by omega)
 have x0 : ∀ h : 0 < t.size, ((t[0]'h).toNat : Int) = bt t 0 := bt_at t 0
 have x1 : ∀ h : 1 < t.size, ((t[1]'h).toNat : Int) = bt t 1 := bt_at t 1
 have hl1 : decide ((18 : Int) ≤ (t.size : Int)) = true := decide_eq_true (by omega)
 have hl2 : decide ((2 : Int) ≤ (t.size : Int)) = true := decide_eq_true (by omega)
 have hs2 : (t.extract 2 t.size).size = 22 := by rw [ByteArray.size_extract, ht]; rfl
 have hl3 : decide ((t.extract 2 t.size).size + 2 ≤ 9223372036854775807) = true := decide_eq_true (by omega)
 have hl4 : (9223372036854775807 < (t.extract 2 t.size).size + 2) = False := eq_false (by omega)
 have hl5 : decide ((16 : Int) ≤ ((t.extract 2 t.size ++ (⟨#[0, 0]⟩ : ByteArray)).size : Int)) = true := decide_eq_true (by rw [ByteArray.size_append, hs2]; decide)
 have hl6 : (2 ≤ (t.size : Int)) = True := eq_true (by omega)
 have hl7 : (18 ≤ (t.size : Int)) = True := eq_true (by omega)
 have hl8 : (16 ≤ ((t.extract 2 t.size ++ (⟨#[0, 0]⟩ : ByteArray)).size : Int)) = True := eq_true (by rw [ByteArray.size_append, hs2]; decide)
 have hl9 : (9223372036854775807 < t.size - 2 + 2) = False := eq_false (by omega)
 clear ht hz hs2 hl3 hl4
 go_enter Tryz.func115, Tryz.ntmps115
 go_upto_region 4 with (first | ((with_reducible refine gate_dst (N := 4) rfl ?_); refine boxev 4 #[.int .i64 0, .string (⟨#[]⟩ : ByteArray), .string (⟨#[]⟩ : ByteArray)] 105 ?_; intro b4 hg_ W_ ho_ hb_; replace HS := HS.box hg_ ho_ hb_; clear hg_ ho_ hb_; obtain ⟨z40, z41, z42, f40, f41, f42⟩ := box3 (HS.blk 0)) | (go_at_call 122; refine (impl_isKey.calls a0 true _ T0.out).mono ?_; rintro e W_ ⟨rfl, nd_, rfl⟩; replace HS := HS.drewN nd_; generalize World.drewN _ nd_ = W_ at HS ⊢; clear z40 z41 z42 f40 f41 f42; obtain ⟨z40, z41, z42, f40, f41, f42⟩ := box3 (HS.blk 0)) | (go_at_call 124; refine (impl_pad.calls k a0 24 p _ T1.out).mono ?_; rintro e W_ ⟨rfl, hb_⟩; replace HS := HS.below hb_; clear hb_; clear z40 z41 z42 f40 f41 f42; obtain ⟨z40, z41, z42, f40, f41, f42⟩ := box3 (HS.blk 0)) | (go_at_call 123; refine (impl_xor.calls k a1 p t _ T2.out).mono ?_; rintro e W_ ⟨rfl, hb_⟩; replace HS := HS.below hb_; clear hb_; clear z40 z41 z42 f40 f41 f42; obtain ⟨z40, z41, z42, f40, f41, f42⟩ := box3 (HS.blk 0)))
 clear z40 z41 z42 f40 f41 f42
 refine start_ (n := 14) (S := fun w' => True) (ds := []) (bl 14 0) (by kernel_rfl) rfl rfl trivial (fun hHeld => ?_); refine with_tabW impl_PeelOnion.tab4 impl_PeelOnion.bits4 (fun HT_ HW_ => ?_)
 replace HS := HS.drew
 generalize World.drew _ = W9_ at HS ⊢
 refine pureA 0 (some 22) 14 1 HT_ ?_
 refine pureA 1 (some 23) 14 3 HT_ ?_
 refine pureA 2 (some 24) 14 7 HT_ ?_
 refine oneA 3 (some 25) 14 15 HT_ (fun K hK => ?_)
 refine goes_ Tryz.func125 (by kernel_rfl) rfl #[.int .i64 (wrap64 (bt t 0))] (by rfl) rfl rfl (by (try simp only [List.map_toArray, List.map_cons, List.map_nil]); first | done | rfl) ?_
 refine (impl_isHop.calls (wrap64 (bt t 0)) c _ T3.out).mono ?_
 clear hHeld
 rintro e W_ ⟨rfl, nd_, rfl⟩
 refine ⟨_, rfl, ?_⟩
 replace HS := HS.drewN nd_
 generalize World.drewN _ nd_ = W_ at HS ⊢
 refine hK.out _ _ trivial (fun hHeld => ?_)
 clear hK K 
 refine norm_ (a' := ?_) ?_ ?_
 rotate_left
 ·show Act.put _ (some 25) _ = _
  simp only [Act.put, List.setIfInBounds_toArray, List.set_cons_zero, List.set_cons_succ, i64_w, i32_w]
  rfl
 refine pureA 4 (some 26) 14 31 HT_ ?_
 refine pureA 5 (some 27) 14 63 HT_ ?_
 cases c with
 | false =>
  rw [if_neg (by decide)] at h
  simp only [Bool.not_false]
  refine pureB 6 (some 28) 14 127 HT_ ?_
  refine pureB 7 (some 29) 14 255 HT_ ?_
  refine pureB 8 (some 30) 14 511 HT_ ?_
  refine pureB 9 (some 31) 14 1023 HT_ ?_
  refine pureB 10 (some 32) 14 2047 HT_ ?_
  refine pureB 11 (some 33) 14 4095 HT_ ?_
  refine pureB 12 (some 34) 14 8191 HT_ ?_
  refine pureA 13 (some 35) 14 16383 HT_ ?_
  refine done_ (done_of HT_.out (by kernel_rfl)) ?_
  clear HT_ HW_ hHeld
  obtain ⟨z40, z41, z42, f40, f41, f42⟩ := box3 (HS.blk 0)
  simp only [Option.some.injEq, Prod.mk.injEq] at h
  obtain ⟨rfl, rfl, rfl, rfl⟩ := h
  go_wp2
  have HF := (((HS.putI 0 0 (.int .i64 0) #[.int .i64 0, .string (⟨#[]⟩ : ByteArray), .string (⟨#[]⟩ : ByteArray)]).putI 0 1 (.string (⟨#[]⟩ : ByteArray)) #[.int .i64 0, .string (⟨#[]⟩ : ByteArray), .string (⟨#[]⟩ : ByteArray)]).putI 0 2 (.string (⟨#[]⟩ : ByteArray)) #[.int .i64 0, .string (⟨#[]⟩ : ByteArray), .string (⟨#[]⟩ : ByteArray)])
  refine bodyPost_ret (results_ct rfl _ _ b4 105 #[.int .i64 0, .string (⟨#[]⟩ : ByteArray), .string (⟨#[]⟩ : ByteArray)] (0, 0) _ rfl (by exact (HF.blk 0).out) Tryz.underlying105 rfl (by kernel_rfl)) rfl ?_
  exact ⟨rfl, HF.base⟩
 | true =>
  rw [if_pos rfl] at h
  simp only [Bool.not_true]
  replace h := bS h; obtain ⟨d, T4, h⟩ := h
  refine pureA 6 (some 28) 14 127 HT_ ?_
  refine pureA 7 (some 29) 14 255 HT_ ?_
  refine pureA 8 (some 30) 14 511 HT_ ?_
  refine pureA 9 (some 31) 14 1023 HT_ ?_
  refine pureA 10 (some 32) 14 2047 HT_ ?_
  refine oneA 11 (some 33) 14 4095 HT_ (fun K hK => ?_)
  refine goes_ Tryz.func126 (by kernel_rfl) rfl #[.string (t.extract 2 18)] (by rfl) rfl rfl (by (try simp only [List.map_toArray, List.map_cons, List.map_nil]); first | done | rfl) ?_
  refine (impl_check.calls k (t.extract 2 18) d _ T4.out).mono ?_
  clear hHeld
  rintro e W_ ⟨rfl, nd_, rfl⟩
  refine ⟨_, rfl, ?_⟩
  replace HS := HS.drewN nd_
  generalize World.drewN _ nd_ = W_ at HS ⊢
  refine hK.out _ _ trivial (fun hHeld => ?_)
  clear hK K 
  refine norm_ (a' := ?_) ?_ ?_
  rotate_left
  ·show Act.put _ (some 33) _ = _
   simp only [Act.put, List.setIfInBounds_toArray, List.set_cons_zero, List.set_cons_succ, i64_w, i32_w]
   rfl
  refine pureA 12 (some 34) 14 8191 HT_ ?_
  refine pureA 13 (some 35) 14 16383 HT_ ?_
  refine done_ (done_of HT_.out (by kernel_rfl)) ?_
  clear HT_ HW_ hHeld
  by_cases hc : wrap64 (bt t 1) = d
  ·rw [if_pos hc] at h
   have hcb : (wrap64 (bt t 1) != d) = false := by rw [hc]; exact bne_self_eq_false d
   simp only [hcb]
   replace h := bS h; obtain ⟨⟨b, b'⟩, T5, h⟩ := h
   obtain ⟨z40, z41, z42, f40, f41, f42⟩ := box3 (HS.blk 0)
   go_upto_region 7 with fail
   generalize hu : t.extract 2 t.size ++ (⟨#[0, 0]⟩ : ByteArray) = u at h T5 hl5 hl8 ⊢
   simp only [Option.some.injEq, Prod.mk.injEq] at h
   obtain ⟨rfl, rfl, rfl, rfl⟩ := h
   clear hc hu
   go_wp2_with (first | (go_at_call 127; refine (impl_UnpadBody.calls k _ b b' _ T5.out).mono ?_; rintro e W_ ⟨rfl, nd_, rfl⟩; replace HS := HS.drewN nd_; generalize World.drewN _ nd_ = W_ at HS ⊢; clear z40 z41 z42 f40 f41 f42; obtain ⟨z40, z41, z42, f40, f41, f42⟩ := box3 (HS.blk 0)))
   have HF := (((HS.putI 0 0 (.int .i64 (wrap64 (bt t 0))) #[.int .i64 (wrap64 (bt t 0)), .string (⟨#[]⟩ : ByteArray), .string (⟨#[]⟩ : ByteArray)]).putI 0 1 (.string u) #[.int .i64 (wrap64 (bt t 0)), .string u, .string (⟨#[]⟩ : ByteArray)]).putI 0 2 (.string b) #[.int .i64 (wrap64 (bt t 0)), .string u, .string b])
   refine bodyPost_ret (results_ct rfl _ _ b4 105 #[.int .i64 (wrap64 (bt t 0)), .string u, .string b] (0, 0) _ rfl (by exact (HF.blk 0).out) Tryz.underlying105 rfl (by kernel_rfl)) rfl ?_
   exact ⟨rfl, HF.base⟩
  ·rw [if_neg hc] at h
   have hcb : (wrap64 (bt t 1) != d) = true := bne_iff_ne.mpr hc
   simp only [hcb]
   clear hc
   obtain ⟨z40, z41, z42, f40, f41, f42⟩ := box3 (HS.blk 0)
   simp only [Option.some.injEq, Prod.mk.injEq] at h
   obtain ⟨rfl, rfl, rfl, rfl⟩ := h
   go_wp2
   have HF := (((HS.putI 0 0 (.int .i64 0) #[.int .i64 0, .string (⟨#[]⟩ : ByteArray), .string (⟨#[]⟩ : ByteArray)]).putI 0 1 (.string (⟨#[]⟩ : ByteArray)) #[.int .i64 0, .string (⟨#[]⟩ : ByteArray), .string (⟨#[]⟩ : ByteArray)]).putI 0 2 (.string (⟨#[]⟩ : ByteArray)) #[.int .i64 0, .string (⟨#[]⟩ : ByteArray), .string (⟨#[]⟩ : ByteArray)])
   refine bodyPost_ret (results_ct rfl _ _ b4 105 #[.int .i64 0, .string (⟨#[]⟩ : ByteArray), .string (⟨#[]⟩ : ByteArray)] (0, 0) _ rfl (by exact (HF.blk 0).out) Tryz.underlying105 rfl (by kernel_rfl)) rfl ?_
   exact ⟨rfl, HF.base⟩

end Go.Proofs.YtihekdlcfohkkaaGreatDoor.QFnExactPlayNet
