-- printed by this session's own program (wip/tools/pp.py: the kit's print.py with changes); Lean checks it
import Derived.Test.YtihekdlcfohkkaaGreatDoorQFnExactSettleNetx0
import Derived.Test.YtihekdlcfohkkaaGreatDoorQFnExactSettleNetx1
import Derived.Test.YtihekdlcfohkkaaGreatDoorQFnExactSettleNetx2
import Derived.Test.YtihekdlcfohkkaaGreatDoorQFnExactSettleNetx3
namespace Go.Proofs.YtihekdlcfohkkaaGreatDoor.QFnExactSettleNet
open Go.RowKit Go.Proofs.YtihekdlcfohkkaaGreatDoorW.PrintWords Go.Proofs.YtihekdlcfohkkaaGreatDoorW.PrintLast Go.Proofs.YtihekdlcfohkkaaGreatDoorW.PrintMore
attribute [local go_sem] max2_int min2_int max_two min_two max_three min_three max_four min_four strLss strGtr strLeq strGeq   -- for this text's walks alone
set_option linter.unusedVariables false
set_option linter.unusedSimpArgs false

/-! ### spec_l17Come: function 89 -/
def spec_l17Come.T3 : Bool × List (List Nat × List Nat) := (true, [([], []), ([0], [0]), ([], []), ([], []), ([3], [3]), ([], []), ([4, 5], [4, 5]), ([6], [6]), ([], []), ([7, 8], [7, 8]), ([1, 2, 0, 1, 2, 3, 4, 5, 6, 7, 8, 9], [1, 2]), ([10, 9, 9, 0, 1, 2, 3, 4, 5, 6, 7, 8, 9], [9, 10])])
def spec_l17Come.B3 : List Nat := [0, 1, 0, 0, 8, 0, 56, 120, 0, 504, 1023, 2047]
theorem spec_l17Come.tab3 : rtab .any (opsOf Tryz.f89 3) = spec_l17Come.T3 := by kernel_rfl
theorem spec_l17Come.bits3 : waitsOk spec_l17Come.T3.2 spec_l17Come.B3 = true := by kernel_rfl
def spec_l17Come.T4 : Bool × List (List Nat × List Nat) := (true, [([], []), ([0], [0]), ([], []), ([], []), ([3], [3]), ([], []), ([4, 5], [4, 5]), ([6], [6]), ([], []), ([7, 8], [7, 8]), ([1, 2, 0, 1, 2, 3, 4, 5, 6, 7, 8, 9], [1, 2]), ([10, 9, 9, 0, 1, 2, 3, 4, 5, 6, 7, 8, 9], [9, 10])])
def spec_l17Come.B4 : List Nat := [0, 1, 0, 0, 8, 0, 56, 120, 0, 504, 1023, 2047]
theorem spec_l17Come.tab4 : rtab .any (opsOf Tryz.f89 4) = spec_l17Come.T4 := by kernel_rfl
theorem spec_l17Come.bits4 : waitsOk spec_l17Come.T4.2 spec_l17Come.B4 = true := by kernel_rfl
def spec_l17Come.f (k : Nat) (n : Nt) (i : Int) (s : ByteArray) : Option Nt := if 0 ≤ i ∧ i < (n.ps.length : Int) ∧ i < (n.ss.length : Int) then (spec_l17Has.f k (n.ss.getD i.toNat []) s).bind fun b => if b = true ∨ (n.ss.getD i.toNat []).length = 100 then some n else (spec_l8Place.f k (n.ss.getD i.toNat []) s).bind fun S => (spec_l8Place.f k (n.ps.getD i.toNat []) s).bind fun P => some ⟨n.ks, n.ps.set i.toNat P, n.ss.set i.toNat S, n.ib, n.sd⟩ else none
theorem spec_l17Come.keeps {k : Nat} {n m : Nt} {i : Int} {s : ByteArray} (h : spec_l17Come.f k n i s = some m) : m.ks = n.ks ∧ m.ib = n.ib ∧ m.sd = n.sd := by
 unfold spec_l17Come.f at h
 replace h := ifS h; obtain ⟨-, h⟩ := h
 replace h := bS h; obtain ⟨b, -, h⟩ := h
 split at h
 ·obtain rfl := Option.some.inj h; exact ⟨rfl, rfl, rfl⟩
 ·replace h := bS h; obtain ⟨_, -, h⟩ := h; replace h := bS h; obtain ⟨_, -, h⟩ := h; obtain rfl := Option.some.inj h; exact ⟨rfl, rfl, rfl⟩
set_option maxHeartbeats 16000000 in
set_option maxRecDepth 100000 in
theorem spec_l17Come.calls {k : Nat} {v0 v1 v2 v3 : Value} {n m : Nt} {i : Int} {s : ByteArray} {L : List SA} {w0 w : World} (hs : Sep w0 w (netA v0 v1 v2 v3 n ++ L)) (h : spec_l17Come.f k n i s = some m) :
    Calls Tryz.prog 89 #[.agg #[v0, v1, v2, v3, .int .i64 n.sd], .int .i64 i, .string s] w fun e w' => e = .returned (.agg #[v0, v1, v2, v3, .int .i64 n.sd]) ∧ Sep w0 w' (netA v0 v1 v2 v3 m ++ L) := by
 have hu27 := Tryz.underlying27
 obtain ⟨ks, ps, ss, ib, sd⟩ := n
 have HS : Sep w0 w (rA KI 3 v0 ks :: sA KT 62 v1 ps :: sA KT 62 v2 ss :: sA KT 62 v3 ib :: L) := hs
 clear hs
 unfold spec_l17Come.f at h
 dsimp only at h ⊢
 replace h := ifS h; obtain ⟨⟨i0, i1, i2⟩, h⟩ := h
 obtain ⟨A0, c0, rfl⟩ := HS.slR 0
 obtain ⟨A3, c3, rfl⟩ := HS.slS 3
 obtain ⟨g1, q1, rfl⟩ := HS.addr 1 (hx := by omega)
 obtain ⟨g2, q2, rfl⟩ := HS.addr 2 (hx := by omega)
 have p0 : (0 ≤ i) = True := eq_true i0
 have p1 : (i < (ps.length : Int)) = True := eq_true i1
 have p2 : (i < (ss.length : Int)) = True := eq_true i2
 obtain ⟨AP, qP, HS, -, -⟩ := HS.fr1.lend i i0 i1
 obtain ⟨AS, qS, HS, -, -⟩ := HS.fr3.lend i i0 i2
 generalize hS : ss.getD i.toNat [] = S at HS h
 generalize hP : ps.getD i.toNat [] = P at HS h
 have GS := ak hS; have GP := ak hP; clear hS hP
 replace h := bS h; obtain ⟨b, T1, h⟩ := h
 by_cases hb : b = true ∨ S.length = 100
 ·rw [if_pos hb] at h
  obtain rfl := Option.some.inj h
  clear h
  have hl : b = false → ((S.length : Int) == 100) = true := fun e => beq_iff_eq.2 (by rcases hb with h | h; (rw [e] at h; cases h); omega)
  clear hb
  cases b
  all_goals
   first | replace hl := hl rfl | clear hl
   go_enter Tryz.func89, Tryz.ntmps89
   go_wp2_with (first | ((with_reducible refine gate_dst (N := 3) rfl ?_); refine boxev 3 #[.slice A0 ks.length c0, .slice (some ⟨g1, 0, none⟩) ps.length q1, .slice (some ⟨g2, 0, none⟩) ss.length q2, .slice A3 ib.length c3, .int .i64 sd] 27 ?_; intro b3 hg_ W_ ho_ hb_; replace HS := HS.box hg_ ho_ hb_; clear hg_ ho_ hb_; obtain ⟨z30, z31, z32, z33, z34, f30, f31, f32, f33, f34⟩ := box5 (HS.blk 0)) | ((with_reducible refine gate_dst (N := 6) rfl ?_); refine boxev 6 #[.slice none 0 0, .slice none 0 0, .slice none 0 0, .slice none 0 0, .int .i64 0] 27 ?_; intro b6 hg_ W_ ho_ hb_; replace HS := HS.box hg_ ho_ hb_; clear hg_ ho_ hb_; clear z30 z31 z32 z33 z34 f30 f31 f32 f33 f34; obtain ⟨z60, z61, z62, z63, z64, f60, f61, f62, f63, f64⟩ := box5 (HS.blk 0); clear z60 z61 z62 z63 z64 f60 f61 f62 f63 f64; obtain ⟨z60, z61, z62, z63, z64, f60, f61, f62, f63, f64⟩ := box5 (HS.blk 0); obtain ⟨z30, z31, z32, z33, z34, f30, f31, f32, f33, f34⟩ := box5 (HS.blk 1); obtain ⟨hcgs, hfgs⟩ := HS.fr2.hole i0 i2) | (go_at_call 83; have HC_ := spec_l17Has.calls k _ _ S s _ _ (HS.rdR 3).2.2 (HS.rdR 3).2.1 T1.out; refine HC_.mono ?_; clear HC_; rintro e W_ ⟨rfl, nd_, rfl⟩; replace HS := HS.drewN nd_; generalize World.drewN _ nd_ = W_ at HS ⊢; clear z60 z61 z62 z63 z64 f60 f61 f62 f63 f64 z30 z31 z32 z33 z34 f30 f31 f32 f33 f34 hcgs hfgs; obtain ⟨z60, z61, z62, z63, z64, f60, f61, f62, f63, f64⟩ := box5 (HS.blk 0); obtain ⟨z30, z31, z32, z33, z34, f30, f31, f32, f33, f34⟩ := box5 (HS.blk 1); obtain ⟨hcgs, hfgs⟩ := HS.fr2.hole i0 i2))
   have HF := HS.put5I 0 (.slice A0 ks.length c0) (.slice (some ⟨g1, 0, none⟩) ps.length q1) (.slice (some ⟨g2, 0, none⟩) ss.length q2) (.slice A3 ib.length c3) (.int .i64 sd)
   refine bodyPost_ret (results_cell_row rfl _ _ b6 27 #[.slice A0 ks.length c0, .slice (some ⟨g1, 0, none⟩) ps.length q1, .slice (some ⟨g2, 0, none⟩) ss.length q2, .slice A3 ib.length c3, .int .i64 sd] (0, 0) _ rfl (by exact (HF.blk 0).out) Tryz.underlying27 rfl (by kernel_rfl)) rfl ?_
   replace HS := HF
   replace HS := HS.fr3.fr3.back0 GS
   replace HS := HS.fr4.fr4.back0 GP
   replace HS := HS.fr2.tail
   replace HS := HS.fr2.tail
   exact ⟨rfl, HS.fr3.fr2.fr2.fr3⟩
 ·rw [if_neg hb] at h
  obtain ⟨hb1, hb2⟩ := not_or.1 hb
  obtain rfl : b = false := by simpa using hb1
  have hl : ((S.length : Int) == 100) = false := beq_eq_false_iff_ne.2 (fun e => hb2 (by omega))
  clear hb hb1 hb2
  replace h := bS h; obtain ⟨S', T2, h⟩ := h
  replace h := bS h; obtain ⟨P', T3, h⟩ := h
  obtain rfl := Option.some.inj h
  clear h
  go_enter Tryz.func89, Tryz.ntmps89
  go_upto_region 3 with (first | ((with_reducible refine gate_dst (N := 3) rfl ?_); refine boxev 3 #[.slice A0 ks.length c0, .slice (some ⟨g1, 0, none⟩) ps.length q1, .slice (some ⟨g2, 0, none⟩) ss.length q2, .slice A3 ib.length c3, .int .i64 sd] 27 ?_; intro b3 hg_ W_ ho_ hb_; replace HS := HS.box hg_ ho_ hb_; clear hg_ ho_ hb_; obtain ⟨z30, z31, z32, z33, z34, f30, f31, f32, f33, f34⟩ := box5 (HS.blk 0)) | ((with_reducible refine gate_dst (N := 6) rfl ?_); refine boxev 6 #[.slice none 0 0, .slice none 0 0, .slice none 0 0, .slice none 0 0, .int .i64 0] 27 ?_; intro b6 hg_ W_ ho_ hb_; replace HS := HS.box hg_ ho_ hb_; clear hg_ ho_ hb_; clear z30 z31 z32 z33 z34 f30 f31 f32 f33 f34; obtain ⟨z60, z61, z62, z63, z64, f60, f61, f62, f63, f64⟩ := box5 (HS.blk 0); clear z60 z61 z62 z63 z64 f60 f61 f62 f63 f64; obtain ⟨z60, z61, z62, z63, z64, f60, f61, f62, f63, f64⟩ := box5 (HS.blk 0); obtain ⟨z30, z31, z32, z33, z34, f30, f31, f32, f33, f34⟩ := box5 (HS.blk 1); obtain ⟨hcgs, hfgs⟩ := HS.fr2.hole i0 i2) | (go_at_call 83; have HC_ := spec_l17Has.calls k _ _ S s _ _ (HS.rdR 3).2.2 (HS.rdR 3).2.1 T1.out; refine HC_.mono ?_; clear HC_; rintro e W_ ⟨rfl, nd_, rfl⟩; replace HS := HS.drewN nd_; generalize World.drewN _ nd_ = W_ at HS ⊢; clear z60 z61 z62 z63 z64 f60 f61 f62 f63 f64 z30 z31 z32 z33 z34 f30 f31 f32 f33 f34 hcgs hfgs; obtain ⟨z60, z61, z62, z63, z64, f60, f61, f62, f63, f64⟩ := box5 (HS.blk 0); obtain ⟨z30, z31, z32, z33, z34, f30, f31, f32, f33, f34⟩ := box5 (HS.blk 1); obtain ⟨hcgs, hfgs⟩ := HS.fr2.hole i0 i2))
  clear z60 z61 z62 z63 z64 f60 f61 f62 f63 f64 z30 z31 z32 z33 z34 f30 f31 f32 f33 f34 hcgs hfgs
  obtain ⟨z30, z31, z32, z33, z34, f30, f31, f32, f33, f34⟩ := box5 (HS.blk 1)
  obtain ⟨hcgs, hfgs⟩ := HS.fr2.hole i0 i2
  refine start_ (n := 12) (S := fun w' => w'.cell? ⟨b3, 0, none⟩ = some (.slice A0 ks.length c0) ∧ w'.cell? ⟨b3, 1, none⟩ = some (.slice (some ⟨g1, 0, none⟩) ps.length q1) ∧ w'.cell? ⟨b3, 2, none⟩ = some (.slice (some ⟨g2, 0, none⟩) ss.length q2) ∧ w'.cell? ⟨b3, 3, none⟩ = some (.slice A3 ib.length c3) ∧ w'.cell? ⟨b3, 4, none⟩ = some (.int .i64 sd) ∧ w'.cell? ⟨g2, i.toNat, none⟩ = some (.slice AS S.length qS)) (ds := [11]) (bl 12 0) (by kernel_rfl) rfl rfl ⟨z30, z31, z32, z33, z34, hcgs⟩ (fun hHeld => ?_); refine with_tabW spec_l17Come.tab3 spec_l17Come.bits3 (fun HT_ HW_ => ?_)
  clear z30 z31 z32 z33 z34 f30 f31 f32 f33 f34 hcgs hfgs
  replace HS := HS.drew
  generalize World.drew _ = W9_ at HS hHeld ⊢
  refine pureA 0 (some 24) 12 1 HT_ ?_
  refine takeA 1 (some 25) 12 3 HT_ HW_ hHeld ?_ (hy := by rintro w' ⟨s0, s1, s2, s3, s4, s5⟩; go_simp; with_reducible rfl)
  refine pureA 2 (some 26) 12 7 HT_ ?_
  refine pureA 3 (some 27) 12 15 HT_ ?_
  refine takeA 4 (some 28) 12 31 HT_ HW_ hHeld ?_ (hy := by rintro w' ⟨s0, s1, s2, s3, s4, s5⟩; go_simp; with_reducible rfl)
  refine pureA 5 (some 29) 12 63 HT_ ?_
  refine pureA 6 (some 30) 12 127 HT_ ?_
  refine takeA 7 (some 31) 12 255 HT_ HW_ hHeld ?_ (hy := by rintro w' ⟨s0, s1, s2, s3, s4, s5⟩; go_simp; with_reducible rfl)
  refine pureA 8 (some 32) 12 511 HT_ ?_
  refine oneA 9 (some 33) 12 1023 HT_ (fun K hK => ?_)
  refine goes_ Tryz.func114 (by kernel_rfl) rfl #[.slice AS S.length qS, .string s] (by rfl) rfl rfl (by (try simp only [List.map_toArray, List.map_cons, List.map_nil]); first | done | rfl) ?_
  have HC_ := spec_l8Place.calls k _ _ S s S' _ (HS.rdR 3).2.2 (HS.rdR 3).2.1 T2.out
  refine HC_.mono ?_
  clear HC_ hHeld
  rintro e W_ ⟨u_, rfl, ho_, hb_⟩
  refine ⟨_, rfl, ?_⟩
  replace HS := HS.new (A := rA Kd.string 9 u_ S') hb_ ho_
  obtain ⟨AS1, qS1, rfl⟩ := HS.slR 0
  clear ho_ hb_
  obtain ⟨z30, z31, z32, z33, z34, f30, f31, f32, f33, f34⟩ := box5 (HS.blk 2)
  obtain ⟨hcgs, hfgs⟩ := HS.fr3.hole i0 i2
  refine hK.out _ _ ⟨z30, z31, z32, z33, z34, hcgs⟩ (fun hHeld => ?_)
  clear hK K z30 z31 z32 z33 z34 f30 f31 f32 f33 f34 hcgs hfgs
  refine norm_ (a' := ?_) ?_ ?_
  rotate_left
  ·show Act.put _ (some 33) _ = _
   simp only [Act.put, List.setIfInBounds_toArray, List.set_cons_zero, List.set_cons_succ, i64_w, i32_w]
   rfl
  refine pureA 10 (some 34) 12 2047 HT_ ?_
  refine last_ (i := 11) (N := none) (bl 12 4095) rfl rfl (one_of HT_.out (by kernel_rfl)) (by decide) (fun K hK => ?_)
  clear hHeld
  obtain ⟨hcgs, hfgs⟩ := HS.fr3.hole i0 i2
  refine skip_ (w1 := ?_) (by rfl) rfl ?_ ?_
  rotate_left
  ·go_simp
   rfl
  clear hcgs hfgs
  replace HS := HS.fr3.hput i0 i2 (.slice AS1 S'.length qS1) rfl
  refine hK.out _ _ ?_
  clear hK K
  refine done_ (done_of HT_.out (by kernel_rfl)) ?_
  clear HT_ HW_
  obtain ⟨W5_, e5_, H5_⟩ := HS.gen
  rw [e5_]
  clear HS e5_
  have HS := H5_
  clear H5_
  replace HS := HS.back
  replace HS := HS.fr3.tail
  go_upto_region 4 with fail
  obtain ⟨z30, z31, z32, z33, z34, f30, f31, f32, f33, f34⟩ := box5 (HS.blk 2)
  obtain ⟨hcgp, hfgp⟩ := HS.fr3.hole i0 i1
  refine start_ (n := 12) (S := fun w' => w'.cell? ⟨b3, 0, none⟩ = some (.slice A0 ks.length c0) ∧ w'.cell? ⟨b3, 1, none⟩ = some (.slice (some ⟨g1, 0, none⟩) ps.length q1) ∧ w'.cell? ⟨b3, 2, none⟩ = some (.slice (some ⟨g2, 0, none⟩) ss.length q2) ∧ w'.cell? ⟨b3, 3, none⟩ = some (.slice A3 ib.length c3) ∧ w'.cell? ⟨b3, 4, none⟩ = some (.int .i64 sd) ∧ w'.cell? ⟨g1, i.toNat, none⟩ = some (.slice AP P.length qP)) (ds := [11]) (bl 12 0) (by kernel_rfl) rfl rfl ⟨z30, z31, z32, z33, z34, hcgp⟩ (fun hHeld => ?_); refine with_tabW spec_l17Come.tab4 spec_l17Come.bits4 (fun HT_ HW_ => ?_)
  clear z30 z31 z32 z33 z34 f30 f31 f32 f33 f34 hcgp hfgp
  replace HS := HS.drew
  generalize World.drew _ = W9_ at HS hHeld ⊢
  refine pureA 0 (some 35) 12 1 HT_ ?_
  refine takeA 1 (some 36) 12 3 HT_ HW_ hHeld ?_ (hy := by rintro w' ⟨s0, s1, s2, s3, s4, s5⟩; go_simp; with_reducible rfl)
  refine pureA 2 (some 37) 12 7 HT_ ?_
  refine pureA 3 (some 38) 12 15 HT_ ?_
  refine takeA 4 (some 39) 12 31 HT_ HW_ hHeld ?_ (hy := by rintro w' ⟨s0, s1, s2, s3, s4, s5⟩; go_simp; with_reducible rfl)
  refine pureA 5 (some 40) 12 63 HT_ ?_
  refine pureA 6 (some 41) 12 127 HT_ ?_
  refine takeA 7 (some 42) 12 255 HT_ HW_ hHeld ?_ (hy := by rintro w' ⟨s0, s1, s2, s3, s4, s5⟩; go_simp; with_reducible rfl)
  refine pureA 8 (some 43) 12 511 HT_ ?_
  refine oneA 9 (some 44) 12 1023 HT_ (fun K hK => ?_)
  refine goes_ Tryz.func114 (by kernel_rfl) rfl #[.slice AP P.length qP, .string s] (by rfl) rfl rfl (by (try simp only [List.map_toArray, List.map_cons, List.map_nil]); first | done | rfl) ?_
  have HC_ := spec_l8Place.calls k _ _ P s P' _ (HS.rdR 4).2.2 (HS.rdR 4).2.1 T3.out
  refine HC_.mono ?_
  clear HC_ hHeld
  rintro e W_ ⟨u_, rfl, ho_, hb_⟩
  refine ⟨_, rfl, ?_⟩
  replace HS := HS.new (A := rA Kd.string 9 u_ P') hb_ ho_
  obtain ⟨AP1, qP1, rfl⟩ := HS.slR 0
  clear ho_ hb_
  obtain ⟨z30, z31, z32, z33, z34, f30, f31, f32, f33, f34⟩ := box5 (HS.blk 3)
  obtain ⟨hcgp, hfgp⟩ := HS.fr4.hole i0 i1
  refine hK.out _ _ ⟨z30, z31, z32, z33, z34, hcgp⟩ (fun hHeld => ?_)
  clear hK K z30 z31 z32 z33 z34 f30 f31 f32 f33 f34 hcgp hfgp
  refine norm_ (a' := ?_) ?_ ?_
  rotate_left
  ·show Act.put _ (some 44) _ = _
   simp only [Act.put, List.setIfInBounds_toArray, List.set_cons_zero, List.set_cons_succ, i64_w, i32_w]
   rfl
  refine pureA 10 (some 45) 12 2047 HT_ ?_
  refine last_ (i := 11) (N := none) (bl 12 4095) rfl rfl (one_of HT_.out (by kernel_rfl)) (by decide) (fun K hK => ?_)
  clear hHeld
  obtain ⟨hcgp, hfgp⟩ := HS.fr4.hole i0 i1
  refine skip_ (w1 := ?_) (by rfl) rfl ?_ ?_
  rotate_left
  ·go_simp
   rfl
  clear hcgp hfgp
  replace HS := HS.fr4.hput i0 i1 (.slice AP1 P'.length qP1) rfl
  refine hK.out _ _ ?_
  clear hK K
  refine done_ (done_of HT_.out (by kernel_rfl)) ?_
  clear HT_ HW_
  obtain ⟨W5_, e5_, H5_⟩ := HS.gen
  rw [e5_]
  clear HS e5_
  have HS := H5_
  clear H5_
  replace HS := HS.back
  replace HS := HS.fr4.tail
  obtain ⟨z60, z61, z62, z63, z64, f60, f61, f62, f63, f64⟩ := box5 (HS.blk 2)
  obtain ⟨z30, z31, z32, z33, z34, f30, f31, f32, f33, f34⟩ := box5 (HS.blk 3)
  go_wp2
  have HF := HS.put5I 2 (.slice A0 ks.length c0) (.slice (some ⟨g1, 0, none⟩) ps.length q1) (.slice (some ⟨g2, 0, none⟩) ss.length q2) (.slice A3 ib.length c3) (.int .i64 sd)
  refine bodyPost_ret (results_cell_row rfl _ _ b6 27 #[.slice A0 ks.length c0, .slice (some ⟨g1, 0, none⟩) ps.length q1, .slice (some ⟨g2, 0, none⟩) ss.length q2, .slice A3 ib.length c3, .int .i64 sd] (0, 0) _ rfl (by exact (HF.blk 2).out) Tryz.underlying27 rfl (by kernel_rfl)) rfl ?_
  replace HS := HF
  replace HS := HS.fr2.tail
  replace HS := HS.fr2.tail
  exact ⟨rfl, HS.fr3.fr2.fr2.fr3⟩

/-! ### spec_l17Tick: function 53 -/
def spec_l17Tick.T12 : Bool × List (List Nat × List Nat) := (true, [([], []), ([0], [0]), ([], []), ([], []), ([3], [3]), ([], []), ([4, 5], [4, 5]), ([6], [6]), ([], []), ([8], [8]), ([9], [9]), ([7, 10], [7, 10]), ([1, 2, 0, 1, 2, 3, 4, 5, 6, 7, 8, 9, 10, 11], [1, 2]), ([12, 11, 11, 0, 1, 2, 3, 4, 5, 6, 7, 8, 9, 10, 11], [11, 12])])
def spec_l17Tick.B12 : List Nat := [0, 1, 0, 0, 8, 0, 56, 120, 0, 256, 768, 2040, 4095, 8191]
theorem spec_l17Tick.tab12 : rtab .any (opsOf Tryz.f53 12) = spec_l17Tick.T12 := by kernel_rfl
theorem spec_l17Tick.bits12 : waitsOk spec_l17Tick.T12.2 spec_l17Tick.B12 = true := by kernel_rfl
def spec_l17Tick.l0 (k : Nat) (i : Int) (z : Bool) : List ByteArray → Nt → Option Nt
  | [], n => some n
  | s :: r, n => if i < (n.ks.length : Int) then (spec_PeelOnion.f k (rd n.ks i) s).bind fun (x, y, b, o) => if o = false then spec_l17Tick.l0 k i z r n else if z = false then (if x = 1 then (spec_l17Come.f k n (wrap64 (i + 1)) y).bind fun n' => spec_l17Tick.l0 k i z r n' else spec_l17Tick.l0 k i z r n) else (spec_l1In.f (wrap64 (x - 2)) 0 3).bind fun c => if c = false then spec_l17Tick.l0 k i z r n else if b = (⟨#[]⟩ : ByteArray) then spec_l17Tick.l0 k i z r n else if 0 ≤ wrap64 (x - 2) ∧ wrap64 (x - 2) < (n.ib.length : Int) then (if (n.ib.getD (wrap64 (x - 2)).toNat []).length < 60 then spec_l17Tick.l0 k i z r ⟨n.ks, n.ps, n.ss, n.ib.set (wrap64 (x - 2)).toNat (n.ib.getD (wrap64 (x - 2)).toNat [] ++ [b]), n.sd⟩ else spec_l17Tick.l0 k i z r n) else none else none
def spec_l17Tick.f (k : Nat) (n : Nt) (i : Int) : Option Nt := if 0 ≤ i ∧ i < (n.ps.length : Int) ∧ i < (n.ks.length : Int) ∧ 0 < n.ib.length ∧ (n.ps.getD i.toNat []).length ≤ 1048576 then spec_l17Tick.l0 k i (i == wrap64 ((n.ks.length : Int) - 1)) (n.ps.getD i.toNat []) ⟨n.ks, n.ps.set i.toNat [], n.ss, n.ib, n.sd⟩ else none
set_option maxHeartbeats 16000000 in
set_option maxRecDepth 100000 in
theorem spec_l17Tick.calls {k : Nat} {v0 v1 v2 v3 : Value} {n m : Nt} {i : Int} {L : List SA} {w0 w : World} (hs : Sep w0 w (netA v0 v1 v2 v3 n ++ L)) (h : spec_l17Tick.f k n i = some m) :
    Calls Tryz.prog 53 #[.agg #[v0, v1, v2, v3, .int .i64 n.sd], .int .i64 i] w fun e w' => e = .returned (.agg #[v0, v1, v2, v3, .int .i64 n.sd]) ∧ Sep w0 w' (netA v0 v1 v2 v3 m ++ L) := by
 have hu27 := Tryz.underlying27
 obtain ⟨ks, ps, ss, ib, sd⟩ := n
 have HS : Sep w0 w (rA KI 3 v0 ks :: sA KT 62 v1 ps :: sA KT 62 v2 ss :: sA KT 62 v3 ib :: L) := hs
 clear hs
 unfold spec_l17Tick.f at h
 dsimp only at h ⊢
 replace h := ifS h; obtain ⟨⟨i0, i1, i2, i3, i4⟩, h⟩ := h
 obtain ⟨A2, c2, rfl⟩ := HS.slS 2
 obtain ⟨g0, q0, rfl⟩ := HS.addrR 0 (hx := by omega)
 obtain ⟨g1, q1, rfl⟩ := HS.addr 1 (hx := by omega)
 obtain ⟨g3, q3, rfl⟩ := HS.addr 3 (hx := by omega)
 have p0 : (0 ≤ i) = True := eq_true i0
 have p1 : (i < (ps.length : Int)) = True := eq_true i1
 have p2 : (i < (ks.length : Int)) = True := eq_true i2
 obtain ⟨AP, qP, HS, -, -⟩ := HS.fr1.lend i i0 i1
 generalize ps.getD i.toNat [] = P at HS h i4
 have I4 := ak i4; have H' := ak h; clear i4 h
 have hz_ : ∃ z, (i == wrap64 ((ks.length : Int) - 1)) = z := ⟨_, rfl⟩
 obtain ⟨z, hz⟩ := hz_
 rw [hz] at H'
 go_enter Tryz.func53, Tryz.ntmps53
 go_upto_region 3 with (first | ((with_reducible refine gate_dst (N := 2) rfl ?_); refine boxev 2 #[.slice (some ⟨g0, 0, none⟩) ks.length q0, .slice (some ⟨g1, 0, none⟩) ps.length q1, .slice A2 ss.length c2, .slice (some ⟨g3, 0, none⟩) ib.length q3, .int .i64 sd] 27 ?_; intro b2 hg_ W_ ho_ hb_; replace HS := HS.box hg_ ho_ hb_; clear hg_ ho_ hb_; obtain ⟨z20, z21, z22, z23, z24, f20, f21, f22, f23, f24⟩ := box5 (HS.blk 0)) | ((with_reducible refine gate_dst (N := 4) rfl ?_); refine boxev 4 #[.slice none 0 0, .slice none 0 0, .slice none 0 0, .slice none 0 0, .int .i64 0] 27 ?_; intro b4 hg_ W_ ho_ hb_; replace HS := HS.box hg_ ho_ hb_; clear hg_ ho_ hb_; clear z20 z21 z22 z23 z24 f20 f21 f22 f23 f24; obtain ⟨z40, z41, z42, z43, z44, f40, f41, f42, f43, f44⟩ := box5 (HS.blk 0); clear z40 z41 z42 z43 z44 f40 f41 f42 f43 f44; obtain ⟨z40, z41, z42, z43, z44, f40, f41, f42, f43, f44⟩ := box5 (HS.blk 0); obtain ⟨z20, z21, z22, z23, z24, f20, f21, f22, f23, f24⟩ := box5 (HS.blk 1); obtain ⟨hcgp, hfgp⟩ := HS.fr2.hole i0 i1))
 clear z40 z41 z42 z43 z44 f40 f41 f42 f43 f44 z20 z21 z22 z23 z24 f20 f21 f22 f23 f24 hcgp hfgp
 replace HS := HS.fr2.hput i0 i1 (.slice none 0 0) rfl
 obtain ⟨W5_, e5_, H5_⟩ := HS.gen
 rw [e5_]
 clear HS e5_
 have HS := H5_
 clear H5_
 replace HS := HS.nilrow Kd.string 9
 replace HS := HS.fr1.back
 replace HS := HS.fr3.fr6.fr6.fr3.fr6.fr5.fr6
 try go_wp2
 go_loopg [23] P.length (fun kq v23 w' => ∃ (j : Nat) (ps' ss' ib' : List (List ByteArray)), v23 = .int .i64 (j : Int) ∧ Aside0 (spec_l17Tick.l0 k i z (P.drop j) ⟨ks, ps', ss', ib', sd⟩ = some m) ∧ j ≤ P.length ∧ P.length - j ≤ kq ∧ ib'.length = ib.length ∧ Sep w0 w' (bA b2 #[.slice (some ⟨g0, 0, none⟩) ks.length q0, .slice (some ⟨g1, 0, none⟩) ps.length q1, .slice A2 ss.length c2, .slice (some ⟨g3, 0, none⟩) ib.length q3, .int .i64 sd] 27 :: bA b4 #[.slice none 0 0, .slice none 0 0, .slice none 0 0, .slice none 0 0, .int .i64 0] 27 :: rA KI 3 (.slice (some ⟨g0, 0, none⟩) ks.length q0) ks :: sA KT 62 (.slice (some ⟨g1, 0, none⟩) ps.length q1) ps' :: sA KT 62 (.slice A2 ss.length c2) ss' :: sA KT 62 (.slice (some ⟨g3, 0, none⟩) ib.length q3) ib' :: rA Kd.string 9 (.slice AP P.length qP) P :: L))
 case atStart => exact ⟨0, _, _, _, rfl, H', Nat.zero_le _, Nat.le_refl _, rfl, HS⟩
 case round =>
  clear HS H'
  obtain ⟨j, ps', ss', ib', rfl, HA, j1, j2, hib, HS⟩ := hrel
  have h := HA.out; clear HA
  by_cases hj : j < P.length
  ·obtain ⟨s, hsj⟩ : ∃ s, rdOf ByteArray.empty P (j : Int) = s := ⟨_, rfl⟩
   have hd : P.drop j = s :: P.drop (j + 1) := by rw [← hsj, List.drop_eq_getElem_cons hj]; simp [rdOf, List.getD_eq_getElem?_getD, List.getElem?_eq_getElem hj]
   rw [hd] at h
   simp only [spec_l17Tick.l0] at h
   rw [if_pos i2] at h
   replace h := bS h; obtain ⟨⟨x, y, b, o⟩, T1, h⟩ := h
   obtain ⟨gP, qP', e⟩ := HS.addrR 6 (hx := by omega)
   obtain rfl : AP = some ⟨gP, 0, none⟩ := by injection e
   clear e
   have hjb : decide ((j : Int) < (P.length : Int)) = true := decide_eq_true (by omega)
   have pj0 : (0 ≤ (j : Int)) = True := eq_true (by omega)
   have pj1 : ((j : Int) < (P.length : Int)) = True := eq_true (by omega)
   have hp0 := HS.cellS 6 (n := P.length) (j : Int) (by omega) (by omega)
   rw [hsj] at hp0
   rw [Int.toNat_natCast] at hp0
   have hk0 := HS.cellI 2 i i0 i2
   obtain ⟨z20, z21, z22, z23, z24, f20, f21, f22, f23, f24⟩ := box5 (HS.blk 0)
   go_upto_region 7 with (first | (go_at_call 88; refine (spec_PeelOnion.calls k _ _ x y b o _ T1.out).mono ?_; rintro e W_ ⟨rfl, hb_⟩; replace HS := HS.below hb_; clear hb_ hp0 hk0; clear z20 z21 z22 z23 z24 f20 f21 f22 f23 f24; obtain ⟨z20, z21, z22, z23, z24, f20, f21, f22, f23, f24⟩ := box5 (HS.blk 0); have hk0 := HS.cellI 2 i i0 i2) | ((with_reducible refine gate_dst (N := 8) rfl ?_); refine boxev 8 #[.int .i64 0, .string (⟨#[]⟩ : ByteArray), .string (⟨#[]⟩ : ByteArray)] 105 ?_; intro b8 hg_ W_ ho_ hb_; replace HS := HS.box hg_ ho_ hb_; clear hg_ ho_ hb_; clear z20 z21 z22 z23 z24 f20 f21 f22 f23 f24; obtain ⟨z80, z81, z82, f80, f81, f82⟩ := box3 (HS.blk 0); clear hk0; clear z80 z81 z82 f80 f81 f82; obtain ⟨z20, z21, z22, z23, z24, f20, f21, f22, f23, f24⟩ := box5 (HS.blk 1); obtain ⟨z80, z81, z82, f80, f81, f82⟩ := box3 (HS.blk 0)))
   clear z20 z21 z22 z23 z24 f20 f21 f22 f23 f24 z80 z81 z82 f80 f81 f82
   obtain ⟨W5_, e5_, H5_⟩ := (((HS.putI 0 0 (.int .i64 x) #[.int .i64 x, .string (⟨#[]⟩ : ByteArray), .string (⟨#[]⟩ : ByteArray)]).putI 0 1 (.string y) #[.int .i64 x, .string y, .string (⟨#[]⟩ : ByteArray)]).putI 0 2 (.string b) #[.int .i64 x, .string y, .string b]).gen
   rw [e5_]
   clear HS e5_
   have HS := H5_
   clear H5_
   obtain ⟨z20, z21, z22, z23, z24, f20, f21, f22, f23, f24⟩ := box5 (HS.blk 1)
   obtain ⟨z80, z81, z82, f80, f81, f82⟩ := box3 (HS.blk 0)
   go_upto_region 9 with fail
   generalize wrap64 (x - 2) = u at h ⊢
   cases o with
   | false =>
    rw [if_pos rfl] at h
    go_wp2
    replace HS := HS.tail
    go_roundg (P.length - (j + 1))
    case measure => omega
    case rel => exact ⟨j + 1, ps', ss', ib', nw_next hj I4.out, ⟨h⟩, hj, Nat.le_refl _, hib, HS⟩
   | true =>
    rw [if_neg (by decide)] at h
    cases z with
    | false =>
     rw [if_pos rfl] at h
     by_cases hx : x = 1
     ·rw [if_pos hx] at h
      have hxb : (x == 1) = true := beq_iff_eq.2 hx
      clear hx
      replace h := bS h; obtain ⟨⟨ks1, ps1, ss1, ib1, sd1⟩, T3, h⟩ := h
      obtain ⟨e1, e2, e3⟩ := spec_l17Come.keeps T3.out
      dsimp only at e1 e2 e3
      replace e1 := e1.symm; replace e2 := e2.symm; replace e3 := e3.symm
      subst e1 e2 e3
      go_wp2_with (first | (go_at_call 89; have HC_ := spec_l17Come.calls (n := ⟨ks, ps', ss', ib', sd⟩) (HS.fr6.fr6.fr6.fr6) T3.out; refine HC_.mono ?_; clear HC_; rintro e W_ ⟨rfl, HS'_⟩; clear HS; have HS := HS'_; clear HS'_; dsimp only [netA, List.cons_append, List.nil_append] at HS; clear z20 z21 z22 z23 z24 f20 f21 f22 f23 f24 z80 z81 z82 f80 f81 f82; obtain ⟨z20, z21, z22, z23, z24, f20, f21, f22, f23, f24⟩ := box5 (HS.blk 5); obtain ⟨z80, z81, z82, f80, f81, f82⟩ := box3 (HS.blk 4)))
      replace HS := HS.fr5.put5 (.slice (some ⟨g0, 0, none⟩) ks.length q0) (.slice (some ⟨g1, 0, none⟩) ps.length q1) (.slice A2 ss.length c2) (.slice (some ⟨g3, 0, none⟩) ib.length q3) (.int .i64 sd)
      replace HS := HS.fr5.tail
      go_roundg (P.length - (j + 1))
      case measure => omega
      case rel => exact ⟨j + 1, ps1, ss1, ib', nw_next hj I4.out, ⟨h⟩, hj, Nat.le_refl _, hib, HS.fr6.fr5.fr5.fr5.fr5.fr6.fr6⟩
     ·rw [if_neg hx] at h
      have hxb : (x == 1) = false := beq_eq_false_iff_ne.2 hx
      clear hx
      go_wp2
      replace HS := HS.tail
      go_roundg (P.length - (j + 1))
      case measure => omega
      case rel => exact ⟨j + 1, ps', ss', ib', nw_next hj I4.out, ⟨h⟩, hj, Nat.le_refl _, hib, HS⟩
    | true =>
     rw [if_neg (by decide)] at h
     replace h := bS h; obtain ⟨c, T2, h⟩ := h
     rcases Bool.eq_false_or_eq_true (x == 1) with hxb | hxb
     all_goals
      cases c with
      | false =>
       rw [if_pos rfl] at h
       go_wp2_with (first | (go_at_call 79; refine (spec_l1In.calls _ _ _ _ _ T2.out).mono ?_; rintro e W_ ⟨rfl, nd_, rfl⟩; replace HS := HS.drewN nd_; generalize World.drewN _ nd_ = W_ at HS ⊢; clear z20 z21 z22 z23 z24 f20 f21 f22 f23 f24 z80 z81 z82 f80 f81 f82; obtain ⟨z20, z21, z22, z23, z24, f20, f21, f22, f23, f24⟩ := box5 (HS.blk 1); obtain ⟨z80, z81, z82, f80, f81, f82⟩ := box3 (HS.blk 0)))
       replace HS := HS.tail
       go_roundg (P.length - (j + 1))
       case measure => omega
       case rel => exact ⟨j + 1, ps', ss', ib', nw_next hj I4.out, ⟨h⟩, hj, Nat.le_refl _, hib, HS⟩
      | true =>
       rw [if_neg (by decide)] at h
       by_cases hb : b = (⟨#[]⟩ : ByteArray)
       ·rw [if_pos hb] at h
        subst hb
        go_wp2_with (first | (go_at_call 79; refine (spec_l1In.calls _ _ _ _ _ T2.out).mono ?_; rintro e W_ ⟨rfl, nd_, rfl⟩; replace HS := HS.drewN nd_; generalize World.drewN _ nd_ = W_ at HS ⊢; clear z20 z21 z22 z23 z24 f20 f21 f22 f23 f24 z80 z81 z82 f80 f81 f82; obtain ⟨z20, z21, z22, z23, z24, f20, f21, f22, f23, f24⟩ := box5 (HS.blk 1); obtain ⟨z80, z81, z82, f80, f81, f82⟩ := box3 (HS.blk 0)))
        replace HS := HS.tail
        go_roundg (P.length - (j + 1))
        case measure => omega
        case rel => exact ⟨j + 1, ps', ss', ib', nw_next hj I4.out, ⟨h⟩, hj, Nat.le_refl _, hib, HS⟩
       ·rw [if_neg hb] at h
        have hbb := nw_nonempty hb
        clear hb
        replace h := ifS h; obtain ⟨⟨u0, u1⟩, h⟩ := h
        rw [hib] at u1
        have pu0 : (0 ≤ u) = True := eq_true u0
        have pu1 : (u < (ib.length : Int)) = True := eq_true u1
        obtain ⟨AI, qI, HS, -, -⟩ := HS.fr6.lend u u0 u1
        generalize hI : ib'.getD u.toNat [] = I at HS h
        have GI := ak hI; clear hI
        clear z20 z21 z22 z23 z24 f20 f21 f22 f23 f24 z80 z81 z82 f80 f81 f82
        obtain ⟨z20, z21, z22, z23, z24, f20, f21, f22, f23, f24⟩ := box5 (HS.blk 3)
        obtain ⟨z80, z81, z82, f80, f81, f82⟩ := box3 (HS.blk 2)
        obtain ⟨hcgi, hfgi⟩ := HS.hole u0 u1
        by_cases hn : I.length < 60
        ·rw [if_pos hn] at h
         have hnb : decide ((I.length : Int) < 60) = true := decide_eq_true (by omega)
         generalize hIb : I ++ [b] = I' at h
         go_upto_region 12 with (first | (go_at_call 79; refine (spec_l1In.calls _ _ _ _ _ T2.out).mono ?_; rintro e W_ ⟨rfl, nd_, rfl⟩; replace HS := HS.drewN nd_; generalize World.drewN _ nd_ = W_ at HS ⊢; clear z20 z21 z22 z23 z24 f20 f21 f22 f23 f24 z80 z81 z82 f80 f81 f82 hcgi hfgi; obtain ⟨z20, z21, z22, z23, z24, f20, f21, f22, f23, f24⟩ := box5 (HS.blk 3); obtain ⟨z80, z81, z82, f80, f81, f82⟩ := box3 (HS.blk 2); obtain ⟨hcgi, hfgi⟩ := HS.hole u0 u1))
         clear z20 z21 z22 z23 z24 f20 f21 f22 f23 f24 z80 z81 z82 f80 f81 f82 hcgi hfgi
         obtain ⟨z20, z21, z22, z23, z24, f20, f21, f22, f23, f24⟩ := box5 (HS.blk 3)
         obtain ⟨z80, z81, z82, f80, f81, f82⟩ := box3 (HS.blk 2)
         obtain ⟨hcgi, hfgi⟩ := HS.hole u0 u1
         refine start_ (n := 14) (S := fun w' => w'.cell? ⟨b2, 0, none⟩ = some (.slice (some ⟨g0, 0, none⟩) ks.length q0) ∧ w'.cell? ⟨b2, 1, none⟩ = some (.slice (some ⟨g1, 0, none⟩) ps.length q1) ∧ w'.cell? ⟨b2, 2, none⟩ = some (.slice A2 ss.length c2) ∧ w'.cell? ⟨b2, 3, none⟩ = some (.slice (some ⟨g3, 0, none⟩) ib.length q3) ∧ w'.cell? ⟨b2, 4, none⟩ = some (.int .i64 sd) ∧ w'.cell? ⟨b8, 0, none⟩ = some (.int .i64 x) ∧ w'.cell? ⟨b8, 1, none⟩ = some (.string y) ∧ w'.cell? ⟨b8, 2, none⟩ = some (.string b) ∧ w'.cell? ⟨g3, u.toNat, none⟩ = some (.slice AI I.length qI)) (ds := [13]) (bl 14 0) (by kernel_rfl) rfl rfl ⟨z20, z21, z22, z23, z24, z80, z81, z82, hcgi⟩ (fun hHeld => ?_); refine with_tabW spec_l17Tick.tab12 spec_l17Tick.bits12 (fun HT_ HW_ => ?_)
         clear z20 z21 z22 z23 z24 f20 f21 f22 f23 f24 z80 z81 z82 f80 f81 f82 hcgi hfgi
         replace HS := HS.drew
         generalize World.drew _ = W9_ at HS hHeld ⊢
         refine pureA 0 (some 86) 14 1 HT_ ?_
         refine takeA 1 (some 87) 14 3 HT_ HW_ hHeld ?_ (hy := by rintro w' ⟨s0, s1, s2, s3, s4, s5, s6, s7, s8⟩; go_simp; with_reducible rfl)
         refine pureA 2 (some 88) 14 7 HT_ ?_
         refine pureA 3 (some 89) 14 15 HT_ ?_
         refine takeA 4 (some 90) 14 31 HT_ HW_ hHeld ?_ (hy := by rintro w' ⟨s0, s1, s2, s3, s4, s5, s6, s7, s8⟩; go_simp; with_reducible rfl)
         refine pureA 5 (some 91) 14 63 HT_ ?_
         refine pureA 6 (some 92) 14 127 HT_ ?_
         refine takeA 7 (some 93) 14 255 HT_ HW_ hHeld ?_ (hy := by rintro w' ⟨s0, s1, s2, s3, s4, s5, s6, s7, s8⟩; go_simp; with_reducible rfl)
         refine pureA 8 (some 94) 14 511 HT_ ?_
         refine takeA 9 (some 95) 14 1023 HT_ HW_ hHeld ?_ (hy := by rintro w' ⟨s0, s1, s2, s3, s4, s5, s6, s7, s8⟩; go_simp; with_reducible rfl)
         refine oneA 10 (some 96) 14 2047 HT_ (fun K hK => ?_)
         clear hHeld
         refine Kd.R_lit_step Kd.string _ 9 ?hg (N := 96) ?hd (xs := ([b] : List ByteArray)) (inner := [.string b]) (ok := fun _ => True) (okp := fun _ => True) ?hr ?hp (fun _ hk => hk) trivial (Below.refl _ _) (Nat.le_refl _) (by simp) ?_
         (case hd => rfl)
         (case hg => rfl)
         (case hr => first | (go_simp; done) | (go_simp; rfl))
         (case hp => exact Reps.one (show Kd.M Kd.string _ _ _ b [.string b] from rfl) (Reps.none _ _))
         intro vU W_ ho_ hb_ _ _
         replace HS := HS.new (A := rA Kd.string 9 vU [b]) hb_ ho_
         clear ho_ hb_
         obtain ⟨AU, qU, rfl⟩ := HS.slR 0
         obtain ⟨z20, z21, z22, z23, z24, f20, f21, f22, f23, f24⟩ := box5 (HS.blk 4)
         obtain ⟨z80, z81, z82, f80, f81, f82⟩ := box3 (HS.blk 3)
         obtain ⟨hcgi, hfgi⟩ := HS.fr1.hole u0 u1
         refine hK.out _ _ ⟨z20, z21, z22, z23, z24, z80, z81, z82, hcgi⟩ (fun hHeld => ?_)
         clear hK K z20 z21 z22 z23 z24 f20 f21 f22 f23 f24 z80 z81 z82 f80 f81 f82 hcgi hfgi
         refine norm_ (a' := ?_) ?_ ?_
         rotate_left
         ·show Act.put _ (some 96) _ = _
          simp only [Act.put, List.setIfInBounds_toArray, List.set_cons_zero, List.set_cons_succ, i64_w, i32_w]
          rfl
         refine oneA 11 (some 97) 14 4095 HT_ (fun K hK => ?_)
         clear hHeld
         have HU := (HS.rdR 0).2.2
         replace HS := HS.fr2
         refine Sep.append Kd.string (by rfl) (.tmp 93) (.tmp 96) 62 9 (.string ⟨#[]⟩) 16 rfl Tryz.underlying62 info9 rfl (by decide) (by omega) (.slice AI I.length qI) I [b] AU 1 qU rfl rfl HS HU (fun _ _ _ _ h => h) (by omega) ?_
         clear HS HU
         intro vI W_ HS
         rw [hIb] at HS
         obtain ⟨AI1, qI1, rfl⟩ := HS.slR 0
         obtain ⟨z20, z21, z22, z23, z24, f20, f21, f22, f23, f24⟩ := box5 (HS.blk 4)
         obtain ⟨z80, z81, z82, f80, f81, f82⟩ := box3 (HS.blk 3)
         obtain ⟨hcgi, hfgi⟩ := HS.fr2.hole u0 u1
         refine hK.out _ _ ⟨z20, z21, z22, z23, z24, z80, z81, z82, hcgi⟩ (fun hHeld => ?_)
         clear hK K z20 z21 z22 z23 z24 f20 f21 f22 f23 f24 z80 z81 z82 f80 f81 f82 hcgi hfgi
         refine norm_ (a' := ?_) ?_ ?_
         rotate_left
         ·show Act.put _ (some 97) _ = _
          simp only [Act.put, List.setIfInBounds_toArray, List.set_cons_zero, List.set_cons_succ, i64_w, i32_w]
          rfl
         refine pureA 12 (some 98) 14 8191 HT_ ?_
         refine last_ (i := 13) (N := none) (bl 14 16383) rfl rfl (one_of HT_.out (by kernel_rfl)) (by decide) (fun K hK => ?_)
         clear hHeld
         obtain ⟨hcgi, hfgi⟩ := HS.fr2.hole u0 u1
         refine skip_ (w1 := ?_) (by rfl) rfl ?_ ?_
         rotate_left
         ·go_simp
          rfl
         clear hcgi hfgi
         replace HS := HS.fr2.hput u0 u1 (.slice AI1 I'.length qI1) rfl
         refine hK.out _ _ ?_
         clear hK K
         refine done_ (done_of HT_.out (by kernel_rfl)) ?_
         clear HT_ HW_
         obtain ⟨W5_, e5_, H5_⟩ := HS.gen
         rw [e5_]
         clear HS e5_
         have HS := H5_
         clear H5_
         replace HS := HS.back
         have hib1 : (ib'.set u.toNat I').length = ib.length := by rw [List.length_set]; exact hib
         go_wp2
         replace HS := HS.fr2.tail
         replace HS := HS.fr1.tail
         go_roundg (P.length - (j + 1))
         case measure => omega
         case rel => exact ⟨j + 1, ps', ss', ib'.set u.toNat I', nw_next hj I4.out, ⟨h⟩, hj, Nat.le_refl _, hib1, HS.fr6.fr1.fr6.fr6.fr6.fr6.fr6⟩
        ·rw [if_neg hn] at h
         have hnb : decide ((I.length : Int) < 60) = false := decide_eq_false (by omega)
         go_wp2_with (first | (go_at_call 79; refine (spec_l1In.calls _ _ _ _ _ T2.out).mono ?_; rintro e W_ ⟨rfl, nd_, rfl⟩; replace HS := HS.drewN nd_; generalize World.drewN _ nd_ = W_ at HS ⊢; clear z20 z21 z22 z23 z24 f20 f21 f22 f23 f24 z80 z81 z82 f80 f81 f82 hcgi hfgi; obtain ⟨z20, z21, z22, z23, z24, f20, f21, f22, f23, f24⟩ := box5 (HS.blk 3); obtain ⟨z80, z81, z82, f80, f81, f82⟩ := box3 (HS.blk 2); obtain ⟨hcgi, hfgi⟩ := HS.hole u0 u1))
         replace HS := HS.back0 GI
         replace HS := HS.fr1.tail
         go_roundg (P.length - (j + 1))
         case measure => omega
         case rel => exact ⟨j + 1, ps', ss', ib', nw_next hj I4.out, ⟨h⟩, hj, Nat.le_refl _, hib, HS.fr6.fr1.fr6.fr6.fr6.fr6.fr6⟩
  ·have hd : P.drop j = [] := List.drop_eq_nil_of_le (by omega)
   rw [hd] at h
   simp only [spec_l17Tick.l0] at h
   obtain rfl := Option.some.inj h
   have hjb : decide ((j : Int) < (P.length : Int)) = false := decide_eq_false (by omega)
   obtain ⟨z20, z21, z22, z23, z24, f20, f21, f22, f23, f24⟩ := box5 (HS.blk 0)
   obtain ⟨z40, z41, z42, z43, z44, f40, f41, f42, f43, f44⟩ := box5 (HS.blk 1)
   go_wp2
   have HF := HS.fr1.put5 (.slice (some ⟨g0, 0, none⟩) ks.length q0) (.slice (some ⟨g1, 0, none⟩) ps.length q1) (.slice A2 ss.length c2) (.slice (some ⟨g3, 0, none⟩) ib.length q3) (.int .i64 sd)
   refine bodyPost_ret (results_cell_row rfl _ _ b4 27 #[.slice (some ⟨g0, 0, none⟩) ks.length q0, .slice (some ⟨g1, 0, none⟩) ps.length q1, .slice A2 ss.length c2, .slice (some ⟨g3, 0, none⟩) ib.length q3, .int .i64 sd] (0, 0) _ rfl (by exact (HF.blk 0).out) Tryz.underlying27 rfl (by kernel_rfl)) rfl ?_
   replace HS := HF
   replace HS := HS.tail
   replace HS := HS.tail
   replace HS := HS.fr4.tail
   exact ⟨rfl, HS⟩
theorem spec_l17Tick.keeps_l {k : Nat} {i : Int} {z : Bool} : ∀ {P : List ByteArray} {n m : Nt}, spec_l17Tick.l0 k i z P n = some m → m.ks = n.ks ∧ m.sd = n.sd
 | [], n, m, h => by
  simp only [spec_l17Tick.l0] at h
  obtain rfl := Option.some.inj h
  exact ⟨rfl, rfl⟩
 | s :: r, n, m, h => by
  have ih : ∀ n' : Nt, spec_l17Tick.l0 k i z r n' = some m → m.ks = n'.ks ∧ m.sd = n'.sd := fun n' h' => spec_l17Tick.keeps_l h'
  simp only [spec_l17Tick.l0] at h
  replace h := ifS h; obtain ⟨-, h⟩ := h
  replace h := bS h; obtain ⟨⟨x, y, b, o⟩, -, h⟩ := h
  dsimp only at h
  repeat' split at h
  all_goals
   first
   | exact ih _ h
   | (replace h := bS h; obtain ⟨n', T, h⟩ := h; obtain ⟨e1, e2, e3⟩ := spec_l17Come.keeps T.out; have := ih _ h; exact ⟨this.1.trans e1, this.2.trans e3⟩)
   | (replace h := bS h; obtain ⟨c, -, h⟩ := h; (repeat' split at h); (all_goals first | exact ih _ h | (have h2 := ih _ h; exact h2) | cases h))
theorem spec_l17Tick.keeps {k : Nat} {n m : Nt} {i : Int} (h : spec_l17Tick.f k n i = some m) : m.ks = n.ks ∧ m.sd = n.sd := by
 unfold spec_l17Tick.f at h
 replace h := ifS h; obtain ⟨-, h⟩ := h
 exact spec_l17Tick.keeps_l (n := ⟨n.ks, n.ps.set i.toNat [], n.ss, n.ib, n.sd⟩) h

theorem spec_GoodNet.net {k : Nat} {v0 v1 v2 v3 : Value} {n : Nt} {r : Bool} {w : World} (hn : NC w v0 v1 v2 v3 n) (h : spec_GoodNet.f k n.ks n.ps n.ss n.ib n.sd = some r) :
    Calls Tryz.prog 42 #[.agg #[v0, v1, v2, v3, .int .i64 n.sd]] w fun e w' => e = .returned (.bool r) ∧ Below w.heap.size w w' := by
  obtain ⟨A0, c0, A1, c1, A2, c2, A3, c3, ⟨rfl, rfl, rfl, rfl⟩, ⟨x0, y0⟩, ⟨x1, y1⟩, ⟨x2, y2⟩, ⟨x3, y3⟩⟩ := hn
  exact spec_GoodNet.calls k A0 c0 n.ks A1 c1 n.ps A2 c2 n.ss A3 c3 n.ib n.sd r w x0 y0 x1 y1 x2 y2 x3 y3 h
/-! ### spec_SettleNet: function 9 -/
def spec_SettleNet.l0 (k : Nat) : Nat → Nat → Nt → Option Nt
 | 0, _, n => some n
 | d + 1, j, n => (spec_l17Tick.f k n (j : Int)).bind fun n' => spec_SettleNet.l0 k d (j + 1) n'
def spec_SettleNet.f (k : Nat) (n : Nt) : Option (Nt × Bool) := (spec_GoodNet.f k n.ks n.ps n.ss n.ib n.sd).bind fun g => if g = false then some (⟨[], [], [], [], 0⟩, false) else (spec_l17Own.f k n).bind fun n1 => if n1.ks.length ≤ 1048576 then (spec_SettleNet.l0 k n1.ks.length 0 n1).bind fun n2 => (spec_l17Own.f k n2).bind fun n3 => some (n3, true) else none
set_option maxHeartbeats 16000000 in
set_option maxRecDepth 100000 in
theorem spec_SettleNet.calls {k : Nat} {v0 v1 v2 v3 : Value} {n m : Nt} {r : Bool} {w : World} (hn : NC w v0 v1 v2 v3 n) (h : spec_SettleNet.f k n = some (m, r)) :
    Calls Tryz.prog 9 #[.agg #[v0, v1, v2, v3, .int .i64 n.sd]] w (MadeNet w m r) := by
 have hu27 := Tryz.underlying27
 unfold spec_SettleNet.f at h
 obtain ⟨A0, c0, A1, c1, A2, c2, A3, c3, e_, x_⟩ := hn
 have HN := ak (show NC w v0 v1 v2 v3 n from ⟨A0, c0, A1, c1, A2, c2, A3, c3, e_, x_⟩)
 obtain ⟨rfl, rfl, rfl, rfl⟩ := e_
 clear x_
 obtain ⟨ks, ps, ss, ib, sd⟩ := n
 dsimp only at HN h ⊢
 have HS := Sep.nil w
 replace h := bS h; obtain ⟨g, T0, h⟩ := h
 cases g with
 | false =>
  rw [if_pos rfl] at h
  obtain ⟨rfl, rfl⟩ := (Prod.mk.injEq _ _ _ _).mp (Option.some.inj h)
  clear h
  go_enter Tryz.func9, Tryz.ntmps9
  go_wp2_with (first | ((with_reducible refine gate_dst (N := 1) rfl ?_); refine boxev 1 #[.slice A0 ks.length c0, .slice A1 ps.length c1, .slice A2 ss.length c2, .slice A3 ib.length c3, .int .i64 sd] 27 ?_; intro b1 hg_ W_ ho_ hb_; replace HS := HS.box hg_ ho_ hb_; clear hg_ ho_ hb_; obtain ⟨z10, z11, z12, z13, z14, f10, f11, f12, f13, f14⟩ := box5 (HS.blk 0)) | ((with_reducible refine gate_dst (N := 2) rfl ?_); refine boxev 2 #[.slice none 0 0, .slice none 0 0, .slice none 0 0, .slice none 0 0, .int .i64 0] 27 ?_; intro b2 hg_ W_ ho_ hb_; replace HS := HS.box hg_ ho_ hb_; clear hg_ ho_ hb_; clear z10 z11 z12 z13 z14 f10 f11 f12 f13 f14; obtain ⟨z20, z21, z22, z23, z24, f20, f21, f22, f23, f24⟩ := box5 (HS.blk 0); clear z20 z21 z22 z23 z24 f20 f21 f22 f23 f24; obtain ⟨z20, z21, z22, z23, z24, f20, f21, f22, f23, f24⟩ := box5 (HS.blk 0); obtain ⟨z10, z11, z12, z13, z14, f10, f11, f12, f13, f14⟩ := box5 (HS.blk 1)) | (go_at_call 42; have HC_ := spec_GoodNet.net (n := ⟨ks, ps, ss, ib, sd⟩) (HN.out.below HS.base) T0.out; refine HC_.mono ?_; clear HC_; rintro e W_ ⟨rfl, hb_⟩; replace HS := HS.below hb_; clear hb_; clear z20 z21 z22 z23 z24 f20 f21 f22 f23 f24 z10 z11 z12 z13 z14 f10 f11 f12 f13 f14; obtain ⟨z20, z21, z22, z23, z24, f20, f21, f22, f23, f24⟩ := box5 (HS.blk 0); obtain ⟨z10, z11, z12, z13, z14, f10, f11, f12, f13, f14⟩ := box5 (HS.blk 1)))
  have HF := HS.put5I 0 (.slice none 0 0) (.slice none 0 0) (.slice none 0 0) (.slice none 0 0) (.int .i64 0)
  refine bodyPost_ret (results_ct rfl _ _ b2 27 #[.slice none 0 0, .slice none 0 0, .slice none 0 0, .slice none 0 0, .int .i64 0] (0, 0) _ rfl (by exact (HF.blk 0).out) Tryz.underlying27 rfl (by kernel_rfl)) rfl ?_
  exact ⟨_, _, _, _, rfl, nw_none HF, HF.base⟩
 | true =>
  rw [if_neg (by decide)] at h
  replace h := bS h; obtain ⟨⟨k1, p1, s1, i1, d1⟩, T1, h⟩ := h
  replace h := ifS h; obtain ⟨kl, h⟩ := h
  have KL := ak kl; clear kl
  replace h := bS h; obtain ⟨n2, T2, h⟩ := h
  go_enter Tryz.func9, Tryz.ntmps9
  go_upto_region 4 with (first | ((with_reducible refine gate_dst (N := 1) rfl ?_); refine boxev 1 #[.slice A0 ks.length c0, .slice A1 ps.length c1, .slice A2 ss.length c2, .slice A3 ib.length c3, .int .i64 sd] 27 ?_; intro b1 hg_ W_ ho_ hb_; replace HS := HS.box hg_ ho_ hb_; clear hg_ ho_ hb_; obtain ⟨z10, z11, z12, z13, z14, f10, f11, f12, f13, f14⟩ := box5 (HS.blk 0)) | ((with_reducible refine gate_dst (N := 2) rfl ?_); refine boxev 2 #[.slice none 0 0, .slice none 0 0, .slice none 0 0, .slice none 0 0, .int .i64 0] 27 ?_; intro b2 hg_ W_ ho_ hb_; replace HS := HS.box hg_ ho_ hb_; clear hg_ ho_ hb_; clear z10 z11 z12 z13 z14 f10 f11 f12 f13 f14; obtain ⟨z20, z21, z22, z23, z24, f20, f21, f22, f23, f24⟩ := box5 (HS.blk 0); clear z20 z21 z22 z23 z24 f20 f21 f22 f23 f24; obtain ⟨z20, z21, z22, z23, z24, f20, f21, f22, f23, f24⟩ := box5 (HS.blk 0); obtain ⟨z10, z11, z12, z13, z14, f10, f11, f12, f13, f14⟩ := box5 (HS.blk 1)) | (go_at_call 42; have HC_ := spec_GoodNet.net (n := ⟨ks, ps, ss, ib, sd⟩) (HN.out.below HS.base) T0.out; refine HC_.mono ?_; clear HC_; rintro e W_ ⟨rfl, hb_⟩; replace HS := HS.below hb_; clear hb_; clear z20 z21 z22 z23 z24 f20 f21 f22 f23 f24 z10 z11 z12 z13 z14 f10 f11 f12 f13 f14; obtain ⟨z20, z21, z22, z23, z24, f20, f21, f22, f23, f24⟩ := box5 (HS.blk 0); obtain ⟨z10, z11, z12, z13, z14, f10, f11, f12, f13, f14⟩ := box5 (HS.blk 1)) | (go_at_call 52; have HC_ := spec_l17Own.calls (n := ⟨ks, ps, ss, ib, sd⟩) (HN.out.below HS.base) T1.out; refine HC_.mono ?_; clear HC_; rintro e W_ ⟨u0, u1, u2, u3, rfl, hc_, hb_⟩; replace HS := HS.news hb_ hc_; clear hc_ hb_; dsimp only [netA, List.cons_append, List.nil_append] at HS; obtain ⟨B0, d0', rfl⟩ := HS.slR 0; obtain ⟨B1, d1', rfl⟩ := HS.slS 1; obtain ⟨B2, d2', rfl⟩ := HS.slS 2; obtain ⟨B3, d3', rfl⟩ := HS.slS 3; clear z20 z21 z22 z23 z24 f20 f21 f22 f23 f24 z10 z11 z12 z13 z14 f10 f11 f12 f13 f14; obtain ⟨z20, z21, z22, z23, z24, f20, f21, f22, f23, f24⟩ := box5 (HS.blk 4); obtain ⟨z10, z11, z12, z13, z14, f10, f11, f12, f13, f14⟩ := box5 (HS.blk 5)) | ((with_reducible refine gate_dst (N := 4) rfl ?_); refine boxev 4 #[.slice none 0 0, .slice none 0 0, .slice none 0 0, .slice none 0 0, .int .i64 0] 27 ?_; intro b4 hg_ W_ ho_ hb_; replace HS := HS.box hg_ ho_ hb_; clear hg_ ho_ hb_; clear z20 z21 z22 z23 z24 f20 f21 f22 f23 f24 z10 z11 z12 z13 z14 f10 f11 f12 f13 f14; obtain ⟨z40, z41, z42, z43, z44, f40, f41, f42, f43, f44⟩ := box5 (HS.blk 0); clear z40 z41 z42 z43 z44 f40 f41 f42 f43 f44; obtain ⟨z40, z41, z42, z43, z44, f40, f41, f42, f43, f44⟩ := box5 (HS.blk 0)))
  clear z40 z41 z42 z43 z44 f40 f41 f42 f43 f44
  obtain ⟨W5_, e5_, H5_⟩ := (((((HS.putI 0 0 (.slice B0 k1.length d0') #[.slice B0 k1.length d0', .slice none 0 0, .slice none 0 0, .slice none 0 0, .int .i64 0]).putI 0 1 (.slice B1 p1.length d1') #[.slice B0 k1.length d0', .slice B1 p1.length d1', .slice none 0 0, .slice none 0 0, .int .i64 0]).putI 0 2 (.slice B2 s1.length d2') #[.slice B0 k1.length d0', .slice B1 p1.length d1', .slice B2 s1.length d2', .slice none 0 0, .int .i64 0]).putI 0 3 (.slice B3 i1.length d3') #[.slice B0 k1.length d0', .slice B1 p1.length d1', .slice B2 s1.length d2', .slice B3 i1.length d3', .int .i64 0]).putI 0 4 (.int .i64 d1) #[.slice B0 k1.length d0', .slice B1 p1.length d1', .slice B2 s1.length d2', .slice B3 i1.length d3', .int .i64 d1]).gen
  rw [e5_]
  clear HS e5_
  have HS := H5_
  clear H5_
  replace h := bS h; obtain ⟨n3, T3, h⟩ := h
  obtain ⟨rfl, rfl⟩ := (Prod.mk.injEq _ _ _ _).mp (Option.some.inj h)
  clear h
  have H' := T2; clear T2
  obtain ⟨z40, z41, z42, z43, z44, f40, f41, f42, f43, f44⟩ := box5 (HS.blk 0)
  go_wp2
  clear z40 z41 z42 z43 z44 f40 f41 f42 f43 f44
  go_loopg [15] k1.length (fun kq v15 w' => ∃ (j : Nat) (ps' ss' ib' : List (List ByteArray)), v15 = .int .i64 (j : Int) ∧ Aside0 (spec_SettleNet.l0 k (k1.length - j) j ⟨k1, ps', ss', ib', d1⟩ = some n2) ∧ j ≤ k1.length ∧ k1.length - j ≤ kq ∧ Sep w w' (bA b4 #[.slice B0 k1.length d0', .slice B1 p1.length d1', .slice B2 s1.length d2', .slice B3 i1.length d3', .int .i64 d1] 27 :: bA b2 #[.slice none 0 0, .slice none 0 0, .slice none 0 0, .slice none 0 0, .int .i64 0] 27 :: bA b1 #[.slice A0 ks.length c0, .slice A1 ps.length c1, .slice A2 ss.length c2, .slice A3 ib.length c3, .int .i64 sd] 27 :: rA KI 3 (.slice B0 k1.length d0') k1 :: sA KT 62 (.slice B1 p1.length d1') ps' :: sA KT 62 (.slice B2 s1.length d2') ss' :: sA KT 62 (.slice B3 i1.length d3') ib' :: []))
  case atStart => exact ⟨0, _, _, _, rfl, H', Nat.zero_le _, Nat.le_refl _, HS.fr4.fr4.fr4.fr4.fr6.fr6.fr6⟩
  case round =>
   clear HS H'
   obtain ⟨j, ps', ss', ib', rfl, HA, j1, j2, HS⟩ := hrel
   have h := HA.out; clear HA
   by_cases hj : j < k1.length
   ·have hjb : decide ((j : Int) < (k1.length : Int)) = true := decide_eq_true (by omega)
    rw [show k1.length - j = (k1.length - (j + 1)) + 1 from by omega] at h
    simp only [spec_SettleNet.l0] at h
    replace h := bS h; obtain ⟨⟨ks1, ps1, ss1, ib1, sd1⟩, T1, h⟩ := h
    obtain ⟨e1, e3⟩ := spec_l17Tick.keeps T1.out
    dsimp only at e1 e3
    replace e1 := e1.symm; replace e3 := e3.symm
    subst e1 e3
    obtain ⟨z40, z41, z42, z43, z44, f40, f41, f42, f43, f44⟩ := box5 (HS.blk 0)
    go_wp2_with (first | (go_at_call 53; have HC_ := spec_l17Tick.calls (n := ⟨k1, ps', ss', ib', d1⟩) (HS.fr6.fr6.fr6.fr6) T1.out; refine HC_.mono ?_; clear HC_; rintro e W_ ⟨rfl, HS'_⟩; clear HS; have HS := HS'_; clear HS'_; dsimp only [netA, List.cons_append, List.nil_append] at HS; clear z40 z41 z42 z43 z44 f40 f41 f42 f43 f44; obtain ⟨z40, z41, z42, z43, z44, f40, f41, f42, f43, f44⟩ := box5 (HS.blk 4)))
    replace HS := HS.fr4.put5 (.slice B0 k1.length d0') (.slice B1 p1.length d1') (.slice B2 s1.length d2') (.slice B3 i1.length d3') (.int .i64 d1)
    go_roundg (k1.length - (j + 1))
    case measure => omega
    case rel => exact ⟨j + 1, _, _, _, nw_next hj KL.out, ⟨h⟩, hj, Nat.le_refl _, HS.fr4.fr4.fr4.fr4.fr6.fr6.fr6⟩
   ·obtain rfl : j = k1.length := by omega
    rw [Nat.sub_self] at h
    simp only [spec_SettleNet.l0] at h
    have hjb : decide ((k1.length : Int) < (k1.length : Int)) = false := decide_eq_false (by omega)
    obtain rfl := Option.some.inj h
    obtain ⟨z40, z41, z42, z43, z44, f40, f41, f42, f43, f44⟩ := box5 (HS.blk 0)
    obtain ⟨z20, z21, z22, z23, z24, f20, f21, f22, f23, f24⟩ := box5 (HS.blk 1)
    go_wp2_with (first | (go_at_call 52; have HC_ := spec_l17Own.calls (n := ⟨k1, ps', ss', ib', d1⟩) (sepNc HS 3) T3.out; refine HC_.mono ?_; clear HC_; rintro e W_ ⟨z0, z1, z2, z3, rfl, hc_, hb_⟩; replace HS := HS.news hb_ hc_; clear hc_ hb_; dsimp only [netA, List.cons_append, List.nil_append] at HS; obtain ⟨E0, f0, rfl⟩ := HS.slR 0; obtain ⟨E1, f1, rfl⟩ := HS.slS 1; obtain ⟨E2, f2, rfl⟩ := HS.slS 2; obtain ⟨E3, f3, rfl⟩ := HS.slS 3; clear z40 z41 z42 z43 z44 f40 f41 f42 f43 f44 z20 z21 z22 z23 z24 f20 f21 f22 f23 f24; obtain ⟨z40, z41, z42, z43, z44, f40, f41, f42, f43, f44⟩ := box5 (HS.blk 4); obtain ⟨z20, z21, z22, z23, z24, f20, f21, f22, f23, f24⟩ := box5 (HS.blk 5)))
    have HF := HS.put5I 5 (.slice E0 n3.ks.length f0) (.slice E1 n3.ps.length f1) (.slice E2 n3.ss.length f2) (.slice E3 n3.ib.length f3) (.int .i64 n3.sd)
    refine bodyPost_ret (results_ct rfl _ _ b2 27 #[.slice E0 n3.ks.length f0, .slice E1 n3.ps.length f1, .slice E2 n3.ss.length f2, .slice E3 n3.ib.length f3, .int .i64 n3.sd] (0, 0) _ rfl (by exact (HF.blk 5).out) Tryz.underlying27 rfl (by kernel_rfl)) rfl ?_
    replace HS := HF
    have HF := HS
    exact ⟨_, _, _, _, rfl, nw_apart HF, HF.base⟩

/-! ### laws_toIntS: function 17 -/
def laws_toIntS.l0 : Nat → List Int → List Int → Int → Option (List Int)
  | 0, _, _, _ => none
  | k + 1, x0, x3, x4 => if x4 < (x0.length : Int) then (if 0 ≤ x4 then (if x4 < (x3.length : Int) then (laws_toIntS.l0 k x0 (x3.set (x4 : Int).toNat (rd x0 x4)) (wrap64 (x4 + 1))) else (none)) else (none)) else (some x3)
def laws_toIntS.f (k : Nat) (l0 : List Int) : Option (List Int) := if 0 ≤ (l0.length : Int) then (if ((l0.length : Int) : Int).toNat ≤ 35184372088832 then (laws_toIntS.l0 k l0 (List.replicate ((l0.length : Int) : Int).toNat 0) 0) else (none)) else (none)
theorem laws_toIntS.mono_l : ∀ k, (∀ y0 y1 y2, LeO (laws_toIntS.l0 k y0 y1 y2) (laws_toIntS.l0 (k + 1) y0 y1 y2))
 | 0 => fun _ _ _ r h => by simp [laws_toIntS.l0] at h
 | k + 1 => by
  have ih0 := laws_toIntS.mono_l k
  ·intro y0 y1 y2
   unfold laws_toIntS.l0
   repeat' (first | (with_reducible first | exact ih0 _ _ _ | exact LeO.refl _ | exact LeO.none _ | refine LeO.ite ?_ ?_ | refine LeO.bind ?_ (fun _ => ?_)) | exact ih0 _ _ _ | exact LeO.none _ | refine LeO.ite ?_ ?_ | refine LeO.bind ?_ (fun _ => ?_))
theorem laws_toIntS.mono : ∀ a0 k, LeO (laws_toIntS.f k a0) (laws_toIntS.f (k + 1) a0) := by
 intro a0 k
 have ih0 := laws_toIntS.mono_l k
 unfold laws_toIntS.f
 repeat' (first | (with_reducible first | exact ih0 _ _ _ | exact LeO.refl _ | exact LeO.none _ | refine LeO.ite ?_ ?_ | refine LeO.bind ?_ (fun _ => ?_)) | exact ih0 _ _ _ | exact LeO.none _ | refine LeO.ite ?_ ?_ | refine LeO.bind ?_ (fun _ => ?_))
set_option maxHeartbeats 8000000 in
set_option maxRecDepth 100000 in
theorem laws_toIntS.calls (k : Nat) (A0 : Option Addr) (c0 : Nat) (l0 : List Int) (r : List Int) (w : World) (hr0 : Kd.C (Kd.int .i64) w A0 l0.length l0) (hc0 : l0.length ≤ c0) (h : laws_toIntS.f k l0 = some r) :
  Calls Tryz.prog 17 #[.slice A0 l0.length c0] w fun e w' => ∃ v0_ : Value, e = .returned (v0_) ∧ Kd.R (Kd.int .i64) 3 w' w.heap.size (fun _ => True) v0_ r ∧ Below w.heap.size w w' := by
 have HR0 := Aside0.mk hr0; have HC0 := Aside0.mk hc0; clear hr0 hc0
 have HB := Aside0.mk (Below.refl w.heap.size w)
 have H : (if 0 ≤ (l0.length : Int) then (if ((l0.length : Int) : Int).toNat ≤ 35184372088832 then (laws_toIntS.l0 k l0 (List.replicate ((l0.length : Int) : Int).toNat 0) 0) else (none)) else (none)) = some r := h
 clear h; replace H := ifS H; obtain ⟨c2, H⟩ := H; have c2b0 := eq_true c2
 have c2b1 : decide (0 ≤ (l0.length : Int)) = true := decide_eq_true c2
 clear c2; replace H := ifS H; obtain ⟨c3, H⟩ := H; have c3b0 := eq_true c3
 have c3b1 : decide (((l0.length : Int) : Int).toNat ≤ 35184372088832) = true := decide_eq_true c3
 clear c3
 obtain ⟨y189, hy_⟩ : ∃ y_ : List Int, y_ = (List.replicate ((l0.length : Int) : Int).toNat 0) := ⟨_, rfl⟩
 replace H : (laws_toIntS.l0 k l0 y189 0) = some r := yH
 have Ny189 := ak hy_; clear hy_
 have H' := Aside0.mk H
 clear H
 go_enter Tryz.func17, Tryz.ntmps17
 go_wp2_with (first | ((with_reducible refine gate_dst (N := 7) rfl ?_); refine Kd.R_make (Kd.int .i64) _ 3 rfl (N := 7) rfl 22 _ _ rfl (l0.length : Int) rfl rfl Tryz.underlying22 (.int .i64 0) 8 info3 rfl (by decide) (by omega) 0 (ok := fun _ => True) (okp := fun _ => True) rfl (fun _ hk => hk) trivial (da) (Nat.le_trans (Nat.mul_le_mul_right _ (da : (l0.length : Int).toNat ≤ 35184372088832)) (by omega)) (Below.refl _ _) (Nat.le_refl _) ?_; intro v190 w4 ho5 hb hg_ hnew_; clear hg_ hnew_; (first | rw [← Ny189.out] at ho5 | (simp only [Int.reduceToNat] at ho5; rw [← Ny189.out] at ho5)); have HO191 := ak (Kd.R_lower ho5 (below_size (belowd HB))); replace HB := ak (below_step (belowd HB) hb); clear hb ho5))
 go_loopg [4] k (fun kq v4 w' => ∃ (x3_1 : List Int) (x4_1 : Int), v4 = .int .i64 x4_1 ∧ Aside0 (laws_toIntS.l0 kq l0 x3_1 x4_1 = some r) ∧ Aside0 (kq ≤ k) ∧ Aside0 (Kd.R (Kd.int .i64) 3 w' w.heap.size (fun _ => True) v190 x3_1) ∧ Aside0 (Below w.heap.size w w'))
 case atStart => exact ⟨(y189), (0), er, H', ⟨Nat.le_refl _⟩, ⟨rdl HO191⟩, ⟨belowd HB⟩⟩
 case round =>
  clear H'
  (try clear c2b0); (try clear c2b1); (try clear c3b0); (try clear c3b1)
  obtain ⟨x3_1, x4_1, rfl, HA, HK1, HO_3, HB⟩ := hrel
  cases gk with
  | zero => exact absurd HA.out (by simp [laws_toIntS.l0])
  | succ k1 =>
   have H := HA.out; clear HA
   simp only [laws_toIntS.l0] at H
   by_cases c6 : x4_1 < (l0.length : Int)
   ·rw [if_pos c6] at H
    have c6b0 : decide (x4_1 < (l0.length : Int)) = true := decide_eq_true c6
    clear c6; replace H := ifS H; obtain ⟨c7, H⟩ := H; have c7b0 := decide_eq_true c7; clear c7; replace H := ifS H; obtain ⟨c8, H⟩ := H; have c8b0 := decide_eq_true c8; clear c8
    obtain ⟨y193, hy_⟩ : ∃ y_ : List Int, y_ = (x3_1.set (x4_1 : Int).toNat (rd l0 x4_1)) := ⟨_, rfl⟩
    replace H : (laws_toIntS.l0 k1 l0 y193 (wrap64 (x4_1 + 1))) = some r := yH
    have Ny193 := ak hy_; clear hy_
    have H' := Aside0.mk H
    clear H
    have p192 : 0 ≤ (x4_1 : Int) := da
    have q192 : x4_1 < (l0.length : Int) := da
    obtain ⟨ad192, e192, hx192_0⟩ := Kd.at_int HR0.out x4_1 p192 q192
    cases e192
    replace hx192_0 := (HB.out.cell (World.block_lt_of_cell? w _ hx192_0)).trans hx192_0
    replace p192 := eq_true p192; replace q192 := eq_true q192
    have p9 : 0 ≤ (x4_1 : Int) := da
    have q9 : (x4_1 : Int) < ((x3_1.length : Int) : Int) := da
    obtain ⟨go9, co9, eo9, gb9, gl9, cl9, HG9⟩ := Kd.R_form HO_3.out (by omega)
    (first | cases eo9 | (injection eo9 with ea_ en_ ec_; (first | subst ea_ | (injection ea_ with ea_; subst ea_)); subst ec_; clear en_))
    have GB9 := Aside0.mk gb9; have GG9 := Aside0.mk HG9; clear gb9 gl9 HG9
    obtain ⟨hx9_0, hf9_0⟩ := Kd.R_celln 0 HO_3.out (x4_1 : Int) p9 q9
    replace p9 := eq_true p9; replace q9 := eq_true q9
    have HP10 := Kd.R_putg HO_3.out (x4_1 : Int) (rd l0 x4_1)
    go_wp2_with (first | ((with_reducible refine gate_store (t := 3) (p := 20) rfl ?_); refine store_event (t := 3) (p := 20) (v := ?vo_w11) (w1 := (wr.setCell ⟨go9, (x4_1 : Int).toNat, none⟩ (.int .i64 (rd l0 x4_1)))) ?hg ?ho ?hn ?hr ?_; (case ho => rfl); (case hg => rfl); (case hn => rfl); (case hr => first | (go_simp; done) | (go_simp; rfl)); intro w11 hw; have hg : wr.grownBy w11 (some go9) := (by rw [hw]; exact HP10.2); have hp_ : Kd.R (Kd.int .i64) 3 w11 w.heap.size (fun _ => True) (.slice (some ⟨go9, 0, none⟩) x3_1.length co9) y193 := (by rw [hw, Ny193.out]; exact HP10.1); clear HP10; replace HO_3 := ak (hp_); replace HB := ak ((by rw [hw]; exact below_set (HB.out) GB9.out : Below w.heap.size w w11)); clear hg hw hp_))
    go_roundg k1
    case measure => have := HK1.out; omega
    case rel => exact ⟨(y193), (wrap64 (x4_1 + 1)), er, H', ⟨by have := HK1.out; omega⟩, ⟨rdl HO_3⟩, ⟨belowd HB⟩⟩
   ·rw [if_neg c6] at H
    have c6b0 : decide (x4_1 < (l0.length : Int)) = false := decide_eq_false c6
    clear c6
    obtain rfl := Option.some.inj H
    go_wp2
    go_ret
    exact ⟨_, er2, by (with_reducible repeat (first | apply Kd.R_alloc | apply Kd.R_drewN | apply Kd.R_drew)); exact HO_3.out, belowd HB⟩

/-! ### laws_toStringS: function 90 -/
def laws_toStringS.l0 : Nat → List ByteArray → List ByteArray → Int → Option (List ByteArray)
  | 0, _, _, _ => none
  | k + 1, x0, x3, x4 => if x4 < (x0.length : Int) then (if 0 ≤ x4 then (if x4 < (x3.length : Int) then (laws_toStringS.l0 k x0 (x3.set (x4 : Int).toNat (rdOf ByteArray.empty x0 x4)) (wrap64 (x4 + 1))) else (none)) else (none)) else (some x3)
def laws_toStringS.f (k : Nat) (l0 : List ByteArray) : Option (List ByteArray) := if 0 ≤ (l0.length : Int) then (if ((l0.length : Int) : Int).toNat ≤ 17592186044416 then (laws_toStringS.l0 k l0 (List.replicate ((l0.length : Int) : Int).toNat (⟨#[]⟩ : ByteArray)) 0) else (none)) else (none)
theorem laws_toStringS.mono_l : ∀ k, (∀ y0 y1 y2, LeO (laws_toStringS.l0 k y0 y1 y2) (laws_toStringS.l0 (k + 1) y0 y1 y2))
 | 0 => fun _ _ _ r h => by simp [laws_toStringS.l0] at h
 | k + 1 => by
  have ih0 := laws_toStringS.mono_l k
  ·intro y0 y1 y2
   unfold laws_toStringS.l0
   repeat' (first | (with_reducible first | exact ih0 _ _ _ | exact LeO.refl _ | exact LeO.none _ | refine LeO.ite ?_ ?_ | refine LeO.bind ?_ (fun _ => ?_)) | exact ih0 _ _ _ | exact LeO.none _ | refine LeO.ite ?_ ?_ | refine LeO.bind ?_ (fun _ => ?_))
theorem laws_toStringS.mono : ∀ a0 k, LeO (laws_toStringS.f k a0) (laws_toStringS.f (k + 1) a0) := by
 intro a0 k
 have ih0 := laws_toStringS.mono_l k
 unfold laws_toStringS.f
 repeat' (first | (with_reducible first | exact ih0 _ _ _ | exact LeO.refl _ | exact LeO.none _ | refine LeO.ite ?_ ?_ | refine LeO.bind ?_ (fun _ => ?_)) | exact ih0 _ _ _ | exact LeO.none _ | refine LeO.ite ?_ ?_ | refine LeO.bind ?_ (fun _ => ?_))
set_option maxHeartbeats 8000000 in
set_option maxRecDepth 100000 in
theorem laws_toStringS.calls (k : Nat) (A0 : Option Addr) (c0 : Nat) (l0 : List ByteArray) (r : List ByteArray) (w : World) (hr0 : Kd.C Kd.string w A0 l0.length l0) (hc0 : l0.length ≤ c0) (h : laws_toStringS.f k l0 = some r) :
  Calls Tryz.prog 90 #[.slice A0 l0.length c0] w fun e w' => ∃ v0_ : Value, e = .returned (v0_) ∧ Kd.R Kd.string 9 w' w.heap.size (fun _ => True) v0_ r ∧ Below w.heap.size w w' := by
 have HR0 := Aside0.mk hr0; have HC0 := Aside0.mk hc0; clear hr0 hc0
 have HB := Aside0.mk (Below.refl w.heap.size w)
 have H : (if 0 ≤ (l0.length : Int) then (if ((l0.length : Int) : Int).toNat ≤ 17592186044416 then (laws_toStringS.l0 k l0 (List.replicate ((l0.length : Int) : Int).toNat (⟨#[]⟩ : ByteArray)) 0) else (none)) else (none)) = some r := h
 clear h; replace H := ifS H; obtain ⟨c2, H⟩ := H; have c2b0 := eq_true c2
 have c2b1 : decide (0 ≤ (l0.length : Int)) = true := decide_eq_true c2
 clear c2; replace H := ifS H; obtain ⟨c3, H⟩ := H; have c3b0 := eq_true c3
 have c3b1 : decide (((l0.length : Int) : Int).toNat ≤ 17592186044416) = true := decide_eq_true c3
 clear c3
 obtain ⟨y194, hy_⟩ : ∃ y_ : List ByteArray, y_ = (List.replicate ((l0.length : Int) : Int).toNat (⟨#[]⟩ : ByteArray)) := ⟨_, rfl⟩
 replace H : (laws_toStringS.l0 k l0 y194 0) = some r := yH
 have Ny194 := ak hy_; clear hy_
 have H' := Aside0.mk H
 clear H
 go_enter Tryz.func90, Tryz.ntmps90
 go_wp2_with (first | ((with_reducible refine gate_dst (N := 7) rfl ?_); refine Kd.R_make Kd.string _ 9 rfl (N := 7) rfl 62 _ _ rfl (l0.length : Int) rfl rfl Tryz.underlying62 (.string ⟨#[]⟩) 16 info9 rfl (by decide) (by omega) (⟨#[]⟩ : ByteArray) (ok := fun _ => True) (okp := fun _ => True) rfl (fun _ hk => hk) trivial (da) (Nat.le_trans (Nat.mul_le_mul_right _ (da : (l0.length : Int).toNat ≤ 17592186044416)) (by omega)) (Below.refl _ _) (Nat.le_refl _) ?_; intro v195 w4 ho5 hb hg_ hnew_; clear hg_ hnew_; (first | rw [← Ny194.out] at ho5 | (simp only [Int.reduceToNat] at ho5; rw [← Ny194.out] at ho5)); have HO196 := ak (Kd.R_lower ho5 (below_size (belowd HB))); replace HB := ak (below_step (belowd HB) hb); clear hb ho5))
 go_loopg [4] k (fun kq v4 w' => ∃ (x3_1 : List ByteArray) (x4_1 : Int), v4 = .int .i64 x4_1 ∧ Aside0 (laws_toStringS.l0 kq l0 x3_1 x4_1 = some r) ∧ Aside0 (kq ≤ k) ∧ Aside0 (Kd.R Kd.string 9 w' w.heap.size (fun _ => True) v195 x3_1) ∧ Aside0 (Below w.heap.size w w'))
 case atStart => exact ⟨(y194), (0), er, H', ⟨Nat.le_refl _⟩, ⟨rdl HO196⟩, ⟨belowd HB⟩⟩
 case round =>
  clear H'
  (try clear c2b0); (try clear c2b1); (try clear c3b0); (try clear c3b1)
  obtain ⟨x3_1, x4_1, rfl, HA, HK1, HO_3, HB⟩ := hrel
  cases gk with
  | zero => exact absurd HA.out (by simp [laws_toStringS.l0])
  | succ k1 =>
   have H := HA.out; clear HA
   simp only [laws_toStringS.l0] at H
   by_cases c6 : x4_1 < (l0.length : Int)
   ·rw [if_pos c6] at H
    have c6b0 : decide (x4_1 < (l0.length : Int)) = true := decide_eq_true c6
    clear c6; replace H := ifS H; obtain ⟨c7, H⟩ := H; have c7b0 := decide_eq_true c7; clear c7; replace H := ifS H; obtain ⟨c8, H⟩ := H; have c8b0 := decide_eq_true c8; clear c8
    obtain ⟨y198, hy_⟩ : ∃ y_ : List ByteArray, y_ = (x3_1.set (x4_1 : Int).toNat (rdOf ByteArray.empty l0 x4_1)) := ⟨_, rfl⟩
    replace H : (laws_toStringS.l0 k1 l0 y198 (wrap64 (x4_1 + 1))) = some r := yH
    have Ny198 := ak hy_; clear hy_
    have H' := Aside0.mk H
    clear H
    have p197 : 0 ≤ (x4_1 : Int) := da
    have q197 : x4_1 < (l0.length : Int) := da
    obtain ⟨ad197, e197, hx197_0⟩ := Kd.at_string HR0.out x4_1 p197 q197
    cases e197
    replace hx197_0 := (HB.out.cell (World.block_lt_of_cell? w _ hx197_0)).trans hx197_0
    replace p197 := eq_true p197; replace q197 := eq_true q197
    have p9 : 0 ≤ (x4_1 : Int) := da
    have q9 : (x4_1 : Int) < ((x3_1.length : Int) : Int) := da
    obtain ⟨go9, co9, eo9, gb9, gl9, cl9, HG9⟩ := Kd.R_form HO_3.out (by omega)
    (first | cases eo9 | (injection eo9 with ea_ en_ ec_; (first | subst ea_ | (injection ea_ with ea_; subst ea_)); subst ec_; clear en_))
    have GB9 := Aside0.mk gb9; have GG9 := Aside0.mk HG9; clear gb9 gl9 HG9
    obtain ⟨hx9_0, hf9_0⟩ := Kd.R_celln (⟨#[]⟩ : ByteArray) HO_3.out (x4_1 : Int) p9 q9
    replace p9 := eq_true p9; replace q9 := eq_true q9
    have HP10 := Kd.R_putg HO_3.out (x4_1 : Int) (rdOf ByteArray.empty l0 x4_1)
    go_wp2_with (first | ((with_reducible refine gate_store (t := 9) (p := 20) rfl ?_); refine store_event (t := 9) (p := 20) (v := ?vo_w11) (w1 := (wr.setCell ⟨go9, (x4_1 : Int).toNat, none⟩ (.string (rdOf ByteArray.empty l0 x4_1)))) ?hg ?ho ?hn ?hr ?_; (case ho => rfl); (case hg => rfl); (case hn => rfl); (case hr => first | (go_simp; done) | (go_simp; rfl)); intro w11 hw; have hg : wr.grownBy w11 (some go9) := (by rw [hw]; exact HP10.2); have hp_ : Kd.R Kd.string 9 w11 w.heap.size (fun _ => True) (.slice (some ⟨go9, 0, none⟩) x3_1.length co9) y198 := (by rw [hw, Ny198.out]; exact HP10.1); clear HP10; replace HO_3 := ak (hp_); replace HB := ak ((by rw [hw]; exact below_set (HB.out) GB9.out : Below w.heap.size w w11)); clear hg hw hp_))
    go_roundg k1
    case measure => have := HK1.out; omega
    case rel => exact ⟨(y198), (wrap64 (x4_1 + 1)), er, H', ⟨by have := HK1.out; omega⟩, ⟨rdl HO_3⟩, ⟨belowd HB⟩⟩
   ·rw [if_neg c6] at H
    have c6b0 : decide (x4_1 < (l0.length : Int)) = false := decide_eq_false c6
    clear c6
    obtain rfl := Option.some.inj H
    go_wp2
    go_ret
    exact ⟨_, er2, by (with_reducible repeat (first | apply Kd.R_alloc | apply Kd.R_drewN | apply Kd.R_drew)); exact HO_3.out, belowd HB⟩

/-! ### laws_toStringSS: function 54 -/
def laws_toStringSS.l0 : Nat → List (List ByteArray) → List (List ByteArray) → Int → Option ((List (List ByteArray)))
  | 0, _, _, _ => none
  | k + 1, x0, x3, x4 => if x4 < (x0.length : Int) then (if 0 ≤ x4 then ((laws_toStringS.f k (rd_L2 x0 x4)).bind fun t203 => (if x4 < (x3.length : Int) then (laws_toStringSS.l0 k x0 (x3.set (x4 : Int).toNat t203) (wrap64 (x4 + 1))) else (none))) else (none)) else (some x3)
def laws_toStringSS.f (k : Nat) (l0 : List (List ByteArray)) : Option ((List (List ByteArray))) := if 0 ≤ (l0.length : Int) then (if ((l0.length : Int) : Int).toNat ≤ 11728124029610 then (laws_toStringSS.l0 k l0 (List.replicate ((l0.length : Int) : Int).toNat []) 0) else (none)) else (none)
theorem laws_toStringSS.mono_l : ∀ k, (∀ y0 y1 y2, LeO (laws_toStringSS.l0 k y0 y1 y2) (laws_toStringSS.l0 (k + 1) y0 y1 y2))
 | 0 => fun _ _ _ r h => by simp [laws_toStringSS.l0] at h
 | k + 1 => by
  have ih0 := laws_toStringSS.mono_l k
  ·intro y0 y1 y2
   unfold laws_toStringSS.l0
   repeat' (first | (with_reducible first | exact ih0 _ _ _ | exact laws_toStringS.mono _ _ | exact LeO.refl _ | exact LeO.none _ | refine LeO.ite ?_ ?_ | refine LeO.bind ?_ (fun _ => ?_)) | exact ih0 _ _ _ | exact laws_toStringS.mono _ _ | exact LeO.none _ | refine LeO.ite ?_ ?_ | refine LeO.bind ?_ (fun _ => ?_))
theorem laws_toStringSS.mono : ∀ a0 k, LeO (laws_toStringSS.f k a0) (laws_toStringSS.f (k + 1) a0) := by
 intro a0 k
 have ih0 := laws_toStringSS.mono_l k
 unfold laws_toStringSS.f
 repeat' (first | (with_reducible first | exact ih0 _ _ _ | exact laws_toStringS.mono _ _ | exact LeO.refl _ | exact LeO.none _ | refine LeO.ite ?_ ?_ | refine LeO.bind ?_ (fun _ => ?_)) | exact ih0 _ _ _ | exact laws_toStringS.mono _ _ | exact LeO.none _ | refine LeO.ite ?_ ?_ | refine LeO.bind ?_ (fun _ => ?_))
set_option maxHeartbeats 8000000 in
set_option maxRecDepth 100000 in
theorem laws_toStringSS.calls (k : Nat) (A0 : Option Addr) (c0 : Nat) (l0 : List (List ByteArray)) (r : List (List ByteArray)) (w : World) (hr0 : Kd.C (Kd.slice 9 Kd.string) w A0 l0.length l0) (hc0 : l0.length ≤ c0) (h : laws_toStringSS.f k l0 = some r) :
  Calls Tryz.prog 54 #[.slice A0 l0.length c0] w fun e w' => ∃ v0_ : Value, e = .returned (v0_) ∧ Kd.S (Kd.slice 9 Kd.string) 62 w' w.heap.size (fun _ => True) v0_ r ∧ Below w.heap.size w w' := by
 have HR0 := Aside0.mk hr0; have HC0 := Aside0.mk hc0; clear hr0 hc0
 have HB := Aside0.mk (Below.refl w.heap.size w)
 have H : (if 0 ≤ (l0.length : Int) then (if ((l0.length : Int) : Int).toNat ≤ 11728124029610 then (laws_toStringSS.l0 k l0 (List.replicate ((l0.length : Int) : Int).toNat []) 0) else (none)) else (none)) = some r := h
 clear h; replace H := ifS H; obtain ⟨c2, H⟩ := H; have c2b0 := eq_true c2
 have c2b1 : decide (0 ≤ (l0.length : Int)) = true := decide_eq_true c2
 clear c2; replace H := ifS H; obtain ⟨c3, H⟩ := H; have c3b0 := eq_true c3
 have c3b1 : decide (((l0.length : Int) : Int).toNat ≤ 11728124029610) = true := decide_eq_true c3
 clear c3
 obtain ⟨y199, hy_⟩ : ∃ y_ : List (List ByteArray), y_ = (List.replicate ((l0.length : Int) : Int).toNat []) := ⟨_, rfl⟩
 replace H : (laws_toStringSS.l0 k l0 y199 0) = some r := yH
 have Ny199 := ak hy_; clear hy_
 have H' := Aside0.mk H
 clear H
 go_enter Tryz.func54, Tryz.ntmps54
 go_wp2_with (first | ((with_reducible refine gate_dst (N := 7) rfl ?_); refine Kd.S_make (Kd.slice 9 Kd.string) _ 62 rfl (N := 7) rfl 23 _ _ rfl (l0.length : Int) rfl rfl Tryz.underlying23 (.slice none 0 0) 24 info62 rfl (by decide) (by omega) [] (ok := fun _ => True) (okp := fun _ => True) ⟨_, rfl, Kd.R_nil _ _ _ _ _⟩ (fun _ hk => hk) trivial (da) (Nat.le_trans (Nat.mul_le_mul_right _ (da : (l0.length : Int).toNat ≤ 11728124029610)) (by omega)) (Below.refl _ _) (Nat.le_refl _) ?_; intro v200 w4 ho5 hb hg_ hnew_; clear hg_ hnew_; (first | rw [← Ny199.out] at ho5 | (simp only [Int.reduceToNat] at ho5; rw [← Ny199.out] at ho5)); have HO201 := ak (Kd.S_lower ho5 (below_size (belowd HB))); replace HB := ak (below_step (belowd HB) hb); clear hb ho5))
 go_loopg [4] k (fun kq v4 w' => ∃ (x3_1 : List (List ByteArray)) (x4_1 : Int), v4 = .int .i64 x4_1 ∧ Aside0 (laws_toStringSS.l0 kq l0 x3_1 x4_1 = some r) ∧ Aside0 (kq ≤ k) ∧ Aside0 (Kd.S (Kd.slice 9 Kd.string) 62 w' w.heap.size (fun _ => True) v200 x3_1) ∧ Aside0 (Below w.heap.size w w'))
 case atStart => exact ⟨(y199), (0), er, H', ⟨Nat.le_refl _⟩, ⟨sd HO201⟩, ⟨belowd HB⟩⟩
 case round =>
  clear H'
  (try clear c2b0); (try clear c2b1); (try clear c3b0); (try clear c3b1)
  obtain ⟨x3_1, x4_1, rfl, HA, HK1, HO_3, HB⟩ := hrel
  cases gk with
  | zero => exact absurd HA.out (by simp [laws_toStringSS.l0])
  | succ k1 =>
   have H := HA.out; clear HA
   simp only [laws_toStringSS.l0] at H
   by_cases c6 : x4_1 < (l0.length : Int)
   ·rw [if_pos c6] at H
    have c6b0 : decide (x4_1 < (l0.length : Int)) = true := decide_eq_true c6
    clear c6; replace H := ifS H; obtain ⟨c7, H⟩ := H; have c7b0 := decide_eq_true c7; clear c7; replace H := bS H; obtain ⟨t203, A8, H⟩ := H
    replace H : (if x4_1 < (x3_1.length : Int) then (laws_toStringSS.l0 k1 l0 (x3_1.set (x4_1 : Int).toNat t203) (wrap64 (x4_1 + 1))) else (none)) = some r := H
    replace H := ifS H; obtain ⟨c9, H⟩ := H; have c9b0 := decide_eq_true c9; clear c9
    obtain ⟨y206, hy_⟩ : ∃ y_ : List (List ByteArray), y_ = (x3_1.set (x4_1 : Int).toNat t203) := ⟨_, rfl⟩
    replace H : (laws_toStringSS.l0 k1 l0 y206 (wrap64 (x4_1 + 1))) = some r := yH
    have Ny206 := ak hy_; clear hy_
    have H' := Aside0.mk H
    clear H
    have p202 : 0 ≤ (x4_1 : Int) := da
    have q202 : x4_1 < (l0.length : Int) := da
    obtain ⟨ad202, A202_0, c202_0, e202, hx202_0, hl202_0, hi202_0⟩ := at_L2 HR0.out x4_1 p202 q202
    cases e202
    replace hx202_0 := (HB.out.cell (World.block_lt_of_cell? w _ hx202_0)).trans hx202_0
    have HR202_0 := Aside0.mk hi202_0; have HC202_0 := Aside0.mk hl202_0; clear hi202_0 hl202_0; replace p202 := eq_true p202; replace q202 := eq_true q202
    go_wp2_with (first | ((with_reducible refine gate_callee (f := 90) rfl ?_); refine goesLa (some 20) rfl Tryz.func90 #[.slice A202_0 (rd_L2 l0 x4_1).length c202_0] rfl ?_; (with_reducible refine (laws_toStringS.calls k1 _ _ (rd_L2 l0 x4_1) t203 _ ?side1 ?side2 A8.out).mono ?_); (case side1 => exact cd (Kd.C_below HR202_0.out HB.out)); (case side2 => exact HC202_0.out); rintro e w11 ⟨v204, rfl, ho0, hb⟩; refine ⟨_, rfl, ?_⟩; replace HO_3 := ak (Kd.S_elder' (sd HO_3) (Kd.R_base ho0) hb); have HO205 := ak (Kd.R_lower ho0 (below_size (belowd HB))); replace HB := ak (below_step (belowd HB) hb); (try clear hb); (try clear ho0); have p10 : 0 ≤ (x4_1 : Int) := da; have q10 : (x4_1 : Int) < ((x3_1.length : Int) : Int) := da; obtain ⟨go10, co10, eo10, gb10, gl10, cl10, HG10⟩ := Kd.S_form HO_3.out (by omega); (first | cases eo10 | (injection eo10 with ea_ en_ ec_; (first | subst ea_ | (injection ea_ with ea_; subst ea_)); subst ec_; clear en_)); have GB10 := Aside0.mk gb10; have GG10 := Aside0.mk HG10; clear gb10 gl10 HG10; obtain ⟨_, ce10, hcl10, hM10, hcc10, hfr10, _, _⟩ := Kd.S_elem HO_3.out [] (x4_1 : Int) p10 q10; obtain ⟨ve10_0, rfl, ge10_0⟩ := (id hM10); have hx10_0 := hcc10 0 _ rfl; have hf10_0 := hfr10 0; (try simp only [show ((Kd.slice 9 Kd.string)).sz = 1 from rfl, Nat.mul_one, Nat.add_zero] at hx10_0); (try simp only [show ((Kd.slice 9 Kd.string)).sz = 1 from rfl, Nat.mul_one, Nat.add_zero] at hf10_0); clear hcl10 hcc10 hfr10 hM10; replace p10 := eq_true p10; replace q10 := eq_true q10; have n_ := Aside0.mk (Kd.S_mono (ok' := (fun k_ => some k_ ≠ (v204 : Value).ownBlock)) HO_3.out (fun k_ hk => hk.2)); clear HO_3; have HO_3 := n_; clear n_; have HX12 := Aside0.mk (show Kd.S (Kd.slice 9 Kd.string) 62 w11 w.heap.size (fun k_ => ((fun _ => True)) k_ ∧ ¬ ((fun k_ => some k_ = (v204 : Value).ownBlock)) k_) (.slice (some ⟨go10, 0, none⟩) x3_1.length co10) x3_1 from (by (with_reducible repeat (first | apply Kd.S_alloc | apply Kd.S_drewN | apply Kd.S_drew)); exact Kd.S_mono HO_3.out (fun k_ hk => ⟨trivial, fun e_ => hk e_⟩))); obtain ⟨oki12, ce12, hcl12, hM12, hcc12, hfr12, hoki12, hH12⟩ := Kd.S_elem HX12.out [] (x4_1 : Int) (da) (by have h_ : (x4_1 : Int) < ((x3_1.length : Int) : Int) := da; first | exact h_ | (have e_ := (Kd.S_reads' HO_3.out).1; omega) | simpa using h_); obtain ⟨ve12_0, rfl, ge12_0⟩ := (id hM12); have HP12 := Kd.S_seg hH12 (da) (by have h_ : (x4_1 : Int) < ((x3_1.length : Int) : Int) := da; first | exact h_ | (have e_ := (Kd.S_reads' HO_3.out).1; omega) | simpa using h_) (seg := [v204]) (j := 0) (show 1 ≤ 1 from by decide) (x' := t203) (Kd.M_row (Kd.R_mono (Kd.R_tight rfl (Kd.R_mono (ok' := fun k_ => ((fun _ => True)) k_ ∧ k_ ≠ go10) (Kd.R_apart' (HO205.out) (Kd.S_typed HO_3.out) (by decide)) (fun k_ hk => ⟨trivial, fun e_ => (hk.2) (by rw [e_]; rfl)⟩))) (fun _ h_ => Or.inr (h_)))) (fun _ hk => hk) (fun k_ hk_ => ((Kd.R_mono (ok' := fun k_ => ((fun _ => True)) k_ ∧ k_ ≠ go10) (Kd.R_apart' (HO205.out) (Kd.S_typed HO_3.out) (by decide)) (fun k_ hk => ⟨trivial, fun e_ => (hk.2) (by rw [e_]; rfl)⟩))).1 k_ hk_.symm); have hx12_0 := hcc12 0 _ rfl; (try simp only [show ((Kd.slice 9 Kd.string)).sz = 1 from rfl, Nat.mul_one, Nat.add_zero] at hx12_0); have hf12_0 := hfr12 0; (try simp only [show ((Kd.slice 9 Kd.string)).sz = 1 from rfl, Nat.mul_one, Nat.add_zero] at hf12_0); clear hcl12 hcc12 hfr12 hM12 hoki12 hH12; (try simp only [show ((Kd.slice 9 Kd.string)).sz = 1 from rfl, Nat.mul_one, Nat.add_zero] at HP12)) | ((with_reducible refine gate_store (t := 62) (p := 21) rfl ?_); refine store_event (t := 62) (p := 21) (v := ?vo_w13) (w1 := (w11.setCell ⟨go10, (x4_1 : Int).toNat, none⟩ (v204))) ?hg ?ho ?hn ?hr ?_; (case ho => rfl); (case hg => rfl); (case hn => rfl); (case hr => first | (go_simp; done) | (go_simp; rfl) | (obtain ⟨_, _, e_, _, _⟩ := Kd.R_reads (HO205.out); subst e_; first | (go_simp; done) | (go_simp; rfl))); intro w13 hw; have hg : w11.grownBy w13 (some go10) := (by rw [hw]; exact HP12.2); have hp_ : Kd.S (Kd.slice 9 Kd.string) 62 w13 w.heap.size (fun _ => True) (.slice (some ⟨go10, 0, none⟩) x3_1.length co10) y206 := (by rw [hw, Ny206.out]; exact HP12.1); clear HP12; replace HO_3 := ak (hp_); replace HB := ak ((by rw [hw]; exact below_set (HB.out) GB10.out : Below w.heap.size w w13)); clear HO205; clear hg hw hp_))
    go_roundg k1
    case measure => have := HK1.out; omega
    case rel => exact ⟨(y206), (wrap64 (x4_1 + 1)), er, H', ⟨by have := HK1.out; omega⟩, ⟨sd HO_3⟩, ⟨belowd HB⟩⟩
   ·rw [if_neg c6] at H
    have c6b0 : decide (x4_1 < (l0.length : Int)) = false := decide_eq_false c6
    clear c6
    obtain rfl := Option.some.inj H
    go_wp2
    go_ret
    exact ⟨_, er2, by (with_reducible repeat (first | apply Kd.S_alloc | apply Kd.S_drewN | apply Kd.S_drew)); exact HO_3.out, belowd HB⟩

/-! ### laws_toNet: function 10 -/
def laws_toNet.f (k : Nat) (l0_0 : List Int) (l0_1 : List (List ByteArray)) (l0_2 : List (List ByteArray)) (l0_3 : List (List ByteArray)) (a0_4 : Int) : Option (List Int × (List (List ByteArray)) × (List (List ByteArray)) × (List (List ByteArray)) × Int) := (laws_toIntS.f k l0_0).bind fun t199 => ((laws_toStringSS.f k l0_1).bind fun t202 => ((laws_toStringSS.f k l0_2).bind fun t205 => ((laws_toStringSS.f k l0_3).bind fun t208 => (some (t199, t202, t205, t208, a0_4)))))
set_option maxHeartbeats 16000000 in
set_option maxRecDepth 100000 in
theorem nw_to {k : Nat} {v0 v1 v2 v3 : Value} {n : Nt} {r1 : List Int} {r2 r3 r4 : List (List ByteArray)} {r5 : Int} {w : World} (hn : NC w v0 v1 v2 v3 n) (h : laws_toNet.f k n.ks n.ps n.ss n.ib n.sd = some (r1, r2, r3, r4, r5)) :
    Calls Tryz.prog 10 #[.agg #[v0, v1, v2, v3, .int .i64 n.sd]] w (MadeNet1 w ⟨r1, r2, r3, r4, r5⟩) := by
 obtain ⟨A0, c0, A1, c1, A2, c2, A3, c3, ⟨rfl, rfl, rfl, rfl⟩, ⟨x0, y0⟩, ⟨x1, y1⟩, ⟨x2, y2⟩, ⟨x3, y3⟩⟩ := hn
 have X0 := ak x0; have X1 := ak x1; have X2 := ak x2; have X3 := ak x3; have Y0 := ak y0; have Y1 := ak y1; have Y2 := ak y2; have Y3 := ak y3
 clear x0 x1 x2 x3 y0 y1 y2 y3
 obtain ⟨ks, ps, ss, ib, sd⟩ := n
 dsimp only at X0 X1 X2 X3 Y0 Y1 Y2 Y3 h ⊢
 have hu25 := Tryz.underlying25
 have hu27 := Tryz.underlying27
 have HS := Sep.nil w
 unfold laws_toNet.f at h
 replace h := bS h; obtain ⟨t0, T0, h⟩ := h
 replace h := bS h; obtain ⟨t1, T1, h⟩ := h
 replace h := bS h; obtain ⟨t2, T2, h⟩ := h
 replace h := bS h; obtain ⟨t3, T3, h⟩ := h
 obtain ⟨rfl, rfl, rfl, rfl, rfl⟩ : t0 = r1 ∧ t1 = r2 ∧ t2 = r3 ∧ t3 = r4 ∧ sd = r5 := by simpa using h
 clear h
 go_enter Tryz.func10, Tryz.ntmps10
 go_upto_region 3 with (first | ((with_reducible refine gate_dst (N := 1) rfl ?_); refine boxev 1 #[.slice A0 ks.length c0, .slice A1 ps.length c1, .slice A2 ss.length c2, .slice A3 ib.length c3, .int .i64 sd] 25 ?_; intro b1 hg_ W_ ho_ hb_; replace HS := HS.box hg_ ho_ hb_; clear hg_ ho_ hb_; obtain ⟨z10, z11, z12, z13, z14, f10, f11, f12, f13, f14⟩ := box5 (HS.blk 0)) | ((with_reducible refine gate_dst (N := 2) rfl ?_); refine boxev 2 #[.slice none 0 0, .slice none 0 0, .slice none 0 0, .slice none 0 0, .int .i64 0] 27 ?_; intro b2 hg_ W_ ho_ hb_; replace HS := HS.box hg_ ho_ hb_; clear hg_ ho_ hb_; clear z10 z11 z12 z13 z14 f10 f11 f12 f13 f14; obtain ⟨z20, z21, z22, z23, z24, f20, f21, f22, f23, f24⟩ := box5 (HS.blk 0)) | ((with_reducible refine gate_dst (N := 3) rfl ?_); refine boxev 3 #[.slice none 0 0, .slice none 0 0, .slice none 0 0, .slice none 0 0, .int .i64 0] 27 ?_; intro b3 hg_ W_ ho_ hb_; replace HS := HS.box hg_ ho_ hb_; clear hg_ ho_ hb_; clear z20 z21 z22 z23 z24 f20 f21 f22 f23 f24; obtain ⟨z30, z31, z32, z33, z34, f30, f31, f32, f33, f34⟩ := box5 (HS.blk 0); clear z30 z31 z32 z33 z34 f30 f31 f32 f33 f34; obtain ⟨z30, z31, z32, z33, z34, f30, f31, f32, f33, f34⟩ := box5 (HS.blk 0); obtain ⟨z20, z21, z22, z23, z24, f20, f21, f22, f23, f24⟩ := box5 (HS.blk 1); obtain ⟨z10, z11, z12, z13, z14, f10, f11, f12, f13, f14⟩ := box5 (HS.blk 2)) | ((with_reducible refine gate_callee (f := 17) rfl ?_); refine goesLa (some 6) rfl Tryz.func17 #[.slice A0 ks.length c0] rfl ?_; have HC_ := laws_toIntS.calls k _ _ ks t0 _ (Kd.C_below X0.out HS.base) Y0.out T0.out; refine HC_.mono ?_; clear HC_; rintro e W_ ⟨u0, rfl, ho_, hb_⟩; refine ⟨_, rfl, ?_⟩; replace HS := HS.new (A := rA KI 3 u0 t0) hb_ ho_; obtain ⟨B0, d0, rfl⟩ := HS.slR 0; clear ho_ hb_; clear z30 z31 z32 z33 z34 f30 f31 f32 f33 f34 z20 z21 z22 z23 z24 f20 f21 f22 f23 f24 z10 z11 z12 z13 z14 f10 f11 f12 f13 f14; obtain ⟨z30, z31, z32, z33, z34, f30, f31, f32, f33, f34⟩ := box5 (HS.blk 1); obtain ⟨z20, z21, z22, z23, z24, f20, f21, f22, f23, f24⟩ := box5 (HS.blk 2); obtain ⟨z10, z11, z12, z13, z14, f10, f11, f12, f13, f14⟩ := box5 (HS.blk 3)))
 clear z30 z31 z32 z33 z34 f30 f31 f32 f33 f34 z20 z21 z22 z23 z24 f20 f21 f22 f23 f24 z10 z11 z12 z13 z14 f10 f11 f12 f13 f14
 obtain ⟨W5_, e5_, H5_⟩ := (HS.putI 1 0 (.slice B0 t0.length d0) #[.slice B0 t0.length d0, .slice none 0 0, .slice none 0 0, .slice none 0 0, .int .i64 0]).gen
 rw [e5_]
 clear HS e5_
 have HS := H5_
 clear H5_
 obtain ⟨z30, z31, z32, z33, z34, f30, f31, f32, f33, f34⟩ := box5 (HS.blk 1)
 obtain ⟨z20, z21, z22, z23, z24, f20, f21, f22, f23, f24⟩ := box5 (HS.blk 2)
 obtain ⟨z10, z11, z12, z13, z14, f10, f11, f12, f13, f14⟩ := box5 (HS.blk 3)
 go_upto_region 4 with (first | ((with_reducible refine gate_callee (f := 54) rfl ?_); refine goesLa (some 10) rfl Tryz.func54 #[.slice A1 ps.length c1] rfl ?_; have HC_ := laws_toStringSS.calls k _ _ ps t1 _ (Kd.C_below X1.out HS.base) Y1.out T1.out; refine HC_.mono ?_; clear HC_; rintro e W_ ⟨u1, rfl, ho_, hb_⟩; refine ⟨_, rfl, ?_⟩; replace HS := HS.new (A := sA KT 62 u1 t1) hb_ ho_; obtain ⟨B1, d1, rfl⟩ := HS.slS 0; clear ho_ hb_; clear z30 z31 z32 z33 z34 f30 f31 f32 f33 f34 z20 z21 z22 z23 z24 f20 f21 f22 f23 f24 z10 z11 z12 z13 z14 f10 f11 f12 f13 f14; obtain ⟨z30, z31, z32, z33, z34, f30, f31, f32, f33, f34⟩ := box5 (HS.blk 2); obtain ⟨z20, z21, z22, z23, z24, f20, f21, f22, f23, f24⟩ := box5 (HS.blk 3); obtain ⟨z10, z11, z12, z13, z14, f10, f11, f12, f13, f14⟩ := box5 (HS.blk 4)))
 clear z30 z31 z32 z33 z34 f30 f31 f32 f33 f34 z20 z21 z22 z23 z24 f20 f21 f22 f23 f24 z10 z11 z12 z13 z14 f10 f11 f12 f13 f14
 obtain ⟨W5_, e5_, H5_⟩ := (HS.putI 2 1 (.slice B1 t1.length d1) #[.slice B0 t0.length d0, .slice B1 t1.length d1, .slice none 0 0, .slice none 0 0, .int .i64 0]).gen
 rw [e5_]
 clear HS e5_
 have HS := H5_
 clear H5_
 obtain ⟨z30, z31, z32, z33, z34, f30, f31, f32, f33, f34⟩ := box5 (HS.blk 2)
 obtain ⟨z20, z21, z22, z23, z24, f20, f21, f22, f23, f24⟩ := box5 (HS.blk 3)
 obtain ⟨z10, z11, z12, z13, z14, f10, f11, f12, f13, f14⟩ := box5 (HS.blk 4)
 go_upto_region 5 with (first | ((with_reducible refine gate_callee (f := 54) rfl ?_); refine goesLa (some 14) rfl Tryz.func54 #[.slice A2 ss.length c2] rfl ?_; have HC_ := laws_toStringSS.calls k _ _ ss t2 _ (Kd.C_below X2.out HS.base) Y2.out T2.out; refine HC_.mono ?_; clear HC_; rintro e W_ ⟨u2, rfl, ho_, hb_⟩; refine ⟨_, rfl, ?_⟩; replace HS := HS.new (A := sA KT 62 u2 t2) hb_ ho_; obtain ⟨B2, d2, rfl⟩ := HS.slS 0; clear ho_ hb_; clear z30 z31 z32 z33 z34 f30 f31 f32 f33 f34 z20 z21 z22 z23 z24 f20 f21 f22 f23 f24 z10 z11 z12 z13 z14 f10 f11 f12 f13 f14; obtain ⟨z30, z31, z32, z33, z34, f30, f31, f32, f33, f34⟩ := box5 (HS.blk 3); obtain ⟨z20, z21, z22, z23, z24, f20, f21, f22, f23, f24⟩ := box5 (HS.blk 4); obtain ⟨z10, z11, z12, z13, z14, f10, f11, f12, f13, f14⟩ := box5 (HS.blk 5)))
 clear z30 z31 z32 z33 z34 f30 f31 f32 f33 f34 z20 z21 z22 z23 z24 f20 f21 f22 f23 f24 z10 z11 z12 z13 z14 f10 f11 f12 f13 f14
 obtain ⟨W5_, e5_, H5_⟩ := (HS.putI 3 2 (.slice B2 t2.length d2) #[.slice B0 t0.length d0, .slice B1 t1.length d1, .slice B2 t2.length d2, .slice none 0 0, .int .i64 0]).gen
 rw [e5_]
 clear HS e5_
 have HS := H5_
 clear H5_
 obtain ⟨z30, z31, z32, z33, z34, f30, f31, f32, f33, f34⟩ := box5 (HS.blk 3)
 obtain ⟨z20, z21, z22, z23, z24, f20, f21, f22, f23, f24⟩ := box5 (HS.blk 4)
 obtain ⟨z10, z11, z12, z13, z14, f10, f11, f12, f13, f14⟩ := box5 (HS.blk 5)
 go_upto_region 6 with (first | ((with_reducible refine gate_callee (f := 54) rfl ?_); refine goesLa (some 18) rfl Tryz.func54 #[.slice A3 ib.length c3] rfl ?_; have HC_ := laws_toStringSS.calls k _ _ ib t3 _ (Kd.C_below X3.out HS.base) Y3.out T3.out; refine HC_.mono ?_; clear HC_; rintro e W_ ⟨u3, rfl, ho_, hb_⟩; refine ⟨_, rfl, ?_⟩; replace HS := HS.new (A := sA KT 62 u3 t3) hb_ ho_; obtain ⟨B3, d3, rfl⟩ := HS.slS 0; clear ho_ hb_; clear z30 z31 z32 z33 z34 f30 f31 f32 f33 f34 z20 z21 z22 z23 z24 f20 f21 f22 f23 f24 z10 z11 z12 z13 z14 f10 f11 f12 f13 f14; obtain ⟨z30, z31, z32, z33, z34, f30, f31, f32, f33, f34⟩ := box5 (HS.blk 4); obtain ⟨z20, z21, z22, z23, z24, f20, f21, f22, f23, f24⟩ := box5 (HS.blk 5); obtain ⟨z10, z11, z12, z13, z14, f10, f11, f12, f13, f14⟩ := box5 (HS.blk 6)))
 clear z30 z31 z32 z33 z34 f30 f31 f32 f33 f34 z20 z21 z22 z23 z24 f20 f21 f22 f23 f24 z10 z11 z12 z13 z14 f10 f11 f12 f13 f14
 obtain ⟨W5_, e5_, H5_⟩ := (HS.putI 4 3 (.slice B3 t3.length d3) #[.slice B0 t0.length d0, .slice B1 t1.length d1, .slice B2 t2.length d2, .slice B3 t3.length d3, .int .i64 0]).gen
 rw [e5_]
 clear HS e5_
 have HS := H5_
 clear H5_
 obtain ⟨z30, z31, z32, z33, z34, f30, f31, f32, f33, f34⟩ := box5 (HS.blk 4)
 obtain ⟨z20, z21, z22, z23, z24, f20, f21, f22, f23, f24⟩ := box5 (HS.blk 5)
 obtain ⟨z10, z11, z12, z13, z14, f10, f11, f12, f13, f14⟩ := box5 (HS.blk 6)
 go_upto_region 7 with (first | (fail))
 clear z30 z31 z32 z33 z34 f30 f31 f32 f33 f34 z20 z21 z22 z23 z24 f20 f21 f22 f23 f24 z10 z11 z12 z13 z14 f10 f11 f12 f13 f14
 obtain ⟨W5_, e5_, H5_⟩ := (HS.putI 4 4 (.int .i64 sd) #[.slice B0 t0.length d0, .slice B1 t1.length d1, .slice B2 t2.length d2, .slice B3 t3.length d3, .int .i64 sd]).gen
 rw [e5_]
 clear HS e5_
 have HS := H5_
 clear H5_
 obtain ⟨z30, z31, z32, z33, z34, f30, f31, f32, f33, f34⟩ := box5 (HS.blk 4)
 obtain ⟨z20, z21, z22, z23, z24, f20, f21, f22, f23, f24⟩ := box5 (HS.blk 5)
 go_wp2
 clear z30 z31 z32 z33 z34 f30 f31 f32 f33 f34 z20 z21 z22 z23 z24 f20 f21 f22 f23 f24
 have HF := HS.put5I 5 (.slice B0 t0.length d0) (.slice B1 t1.length d1) (.slice B2 t2.length d2) (.slice B3 t3.length d3) (.int .i64 sd)
 refine bodyPost_ret (results_cell_row rfl _ _ b2 27 #[.slice B0 t0.length d0, .slice B1 t1.length d1, .slice B2 t2.length d2, .slice B3 t3.length d3, .int .i64 sd] (0, 0) _ rfl (by exact (HF.blk 5).out) Tryz.underlying27 rfl (by kernel_rfl)) rfl ?_
 exact ⟨_, _, _, _, rfl, (HF.sel [3, 2, 1, 0]).cols, HF.base⟩

end Go.Proofs.YtihekdlcfohkkaaGreatDoor.QFnExactSettleNet
