-- printed by this session's own program (wip/tools/pp.py: the kit's print.py with changes); Lean checks it
import Derived.Test.YtihekdlcfohkkaaGreatDoorQFnExactPlayNetx0
import Derived.Test.YtihekdlcfohkkaaGreatDoorQFnExactPlayNetx3
import Derived.Test.YtihekdlcfohkkaaGreatDoorQFnExactPlayNetx4
import Derived.Test.YtihekdlcfohkkaaGreatDoorQFnExactPlayNetx5
import Derived.Test.YtihekdlcfohkkaaGreatDoorQFnExactPlayNetx6
namespace Go.Proofs.YtihekdlcfohkkaaGreatDoor.QFnExactPlayNet
open Go.RowKit Go.Proofs.YtihekdlcfohkkaaGreatDoorW.PrintWords Go.Proofs.YtihekdlcfohkkaaGreatDoorW.PrintLast Go.Proofs.YtihekdlcfohkkaaGreatDoorW.PrintMore
attribute [local go_sem] max2_int min2_int max_two min_two max_three min_three max_four min_four strLss strGtr strLeq strGeq   -- for this text's walks alone
set_option linter.unusedVariables false
set_option linter.unusedSimpArgs false

/-! ### spec_l17Step: function 61 -/
def spec_l17Step.T7 : Bool × List (List Nat × List Nat) := (true, [([], []), ([0], [0]), ([1], [1]), ([2], [2]), ([3], [3]), ([4, 3], [3, 4]), ([3], [3]), ([6, 3], [3, 6]), ([7, 3], [3, 7]), ([8, 3], [3, 8]), ([9, 3], [3, 9]), ([5, 10, 3], [3, 5, 10]), ([3, 11], [3, 11]), ([12, 3], [12])])
def spec_l17Step.B7 : List Nat := [0, 1, 3, 7, 15, 31, 15, 79, 207, 463, 975, 2047, 4095, 8191]
theorem spec_l17Step.tab7 : rtab .any (opsOf Tryz.f61 7) = spec_l17Step.T7 := by kernel_rfl
theorem spec_l17Step.bits7 : waitsOk spec_l17Step.T7.2 spec_l17Step.B7 = true := by kernel_rfl
def spec_l17Step.T8 : Bool × List (List Nat × List Nat) := (true, [([], []), ([], []), ([1], [1]), ([2], [2]), ([3], [3]), ([], []), ([5], [5]), ([4, 6], [4, 6]), ([7], [7]), ([0, 8], [0, 8]), ([9, 9, 0, 1, 2, 3, 4, 5, 6, 7, 8, 9], [9]), ([10, 0, 1, 2, 3, 4, 5, 6, 7, 8, 9, 10], [])])
def spec_l17Step.B8 : List Nat := [0, 0, 2, 6, 14, 0, 32, 126, 254, 511, 1023, 2047]
theorem spec_l17Step.tab8 : rtab .any (opsOf Tryz.f61 8) = spec_l17Step.T8 := by kernel_rfl
theorem spec_l17Step.bits8 : waitsOk spec_l17Step.T8.2 spec_l17Step.B8 = true := by kernel_rfl
def spec_l17Step.f (k : Nat) (n : Nt) (a b : Int) (x : ByteArray) : Option (Nt × Bool) := if a = 1 then spec_l17Say.f k n b x else if x = (⟨#[]⟩ : ByteArray) then (if b < 0 then some (n, false) else if a = 2 then (if b < (n.ks.length : Int) then (spec_l17Tick.f k n b).bind fun m => some (m, true) else some (n, false)) else if a = 3 then (if 0 < n.ss.length then (if b < ((n.ss.getD 0 []).length : Int) then (spec_l17Come.f k n 0 (rdOf ByteArray.empty (n.ss.getD 0 []) b)).bind fun m => some (m, true) else some (n, false)) else none) else some (n, false)) else some (n, false)
set_option maxHeartbeats 16000000 in
set_option maxRecDepth 100000 in
theorem spec_l17Step.calls {k : Nat} {v0 v1 v2 v3 : Value} {n m : Nt} {a b : Int} {x : ByteArray} {r : Bool} {L : List SA} {w0 w : World} (hs : Sep w0 w (netA v0 v1 v2 v3 n ++ L)) (h : spec_l17Step.f k n a b x = some (m, r)) :
    Calls Tryz.prog 61 #[.agg #[v0, v1, v2, v3, .int .i64 n.sd], .agg #[.int .i64 a, .int .i64 b, .string x]] w fun e w' => e = .returned (.tuple #[.agg #[v0, v1, v2, v3, .int .i64 m.sd], .bool r]) ∧ Sep w0 w' (netA v0 v1 v2 v3 m ++ L) := by
 have hu27 := Tryz.underlying27
 have hu53 := Tryz.underlying53
 obtain ⟨ks, ps, ss, ib, sd⟩ := n
 have HS : Sep w0 w (rA KI 3 v0 ks :: sA KT 62 v1 ps :: sA KT 62 v2 ss :: sA KT 62 v3 ib :: L) := hs
 clear hs
 unfold spec_l17Step.f at h
 dsimp only at h ⊢
 obtain ⟨A0, c0, rfl⟩ := HS.slR 0
 obtain ⟨A1, c1, rfl⟩ := HS.slS 1
 obtain ⟨A2, c2, rfl⟩ := HS.slS 2
 obtain ⟨A3, c3, rfl⟩ := HS.slS 3
 by_cases a1 : a = 1
 ·rw [if_pos a1] at h
  subst a1
  obtain ⟨ks1, ps1, ss1, ib1, sd1⟩ := m
  have T1 := ak h; clear h
  go_enter Tryz.func61, Tryz.ntmps61
  go_wp2_with (first | ((with_reducible refine gate_dst (N := 2) rfl ?_); refine boxev 2 #[.slice A0 ks.length c0, .slice A1 ps.length c1, .slice A2 ss.length c2, .slice A3 ib.length c3, .int .i64 sd] 27 ?_; intro b2 hg_ W_ ho_ hb_; replace HS := HS.box hg_ ho_ hb_; clear hg_ ho_ hb_; obtain ⟨z20, z21, z22, z23, z24, f20, f21, f22, f23, f24⟩ := box5 (HS.blk 0)) | ((with_reducible refine gate_dst (N := 3) rfl ?_); refine boxev 3 #[.int .i64 1, .int .i64 b, .string x] 53 ?_; intro b3 hg_ W_ ho_ hb_; replace HS := HS.box hg_ ho_ hb_; clear hg_ ho_ hb_; clear z20 z21 z22 z23 z24 f20 f21 f22 f23 f24; obtain ⟨z30, z31, z32, f30, f31, f32⟩ := box3 (HS.blk 0)) | ((with_reducible refine gate_dst (N := 4) rfl ?_); refine boxev 4 #[.slice none 0 0, .slice none 0 0, .slice none 0 0, .slice none 0 0, .int .i64 0] 27 ?_; intro b4 hg_ W_ ho_ hb_; replace HS := HS.box hg_ ho_ hb_; clear hg_ ho_ hb_; clear z30 z31 z32 f30 f31 f32; obtain ⟨z40, z41, z42, z43, z44, f40, f41, f42, f43, f44⟩ := box5 (HS.blk 0); clear z40 z41 z42 z43 z44 f40 f41 f42 f43 f44; obtain ⟨z40, z41, z42, z43, z44, f40, f41, f42, f43, f44⟩ := box5 (HS.blk 0); obtain ⟨z30, z31, z32, f30, f31, f32⟩ := box3 (HS.blk 1); obtain ⟨z20, z21, z22, z23, z24, f20, f21, f22, f23, f24⟩ := box5 (HS.blk 2)) | (go_at_call 96; have HC_ := spec_l17Say.calls (n := ⟨ks, ps, ss, ib, sd⟩) (HS.fr6.fr6.fr6.fr6) T1.out; refine HC_.mono ?_; clear HC_; rintro e W_ ⟨rfl, HS'_⟩; clear HS; have HS := HS'_; clear HS'_; dsimp only [netA, List.cons_append, List.nil_append] at HS; clear z40 z41 z42 z43 z44 f40 f41 f42 f43 f44 z30 z31 z32 f30 f31 f32 z20 z21 z22 z23 z24 f20 f21 f22 f23 f24; obtain ⟨z40, z41, z42, z43, z44, f40, f41, f42, f43, f44⟩ := box5 (HS.blk 4); obtain ⟨z30, z31, z32, f30, f31, f32⟩ := box3 (HS.blk 5); obtain ⟨z20, z21, z22, z23, z24, f20, f21, f22, f23, f24⟩ := box5 (HS.blk 6)))
  have HF := HS.put5I 4 (.slice A0 ks.length c0) (.slice A1 ps.length c1) (.slice A2 ss.length c2) (.slice A3 ib.length c3) (.int .i64 sd1)
  refine bodyPost_ret (results_ct rfl _ _ b4 27 #[.slice A0 ks.length c0, .slice A1 ps.length c1, .slice A2 ss.length c2, .slice A3 ib.length c3, .int .i64 sd1] (0, 0) _ rfl (by exact (HF.blk 4).out) Tryz.underlying27 rfl (by kernel_rfl)) rfl ?_
  replace HS := HF
  replace HS := HS.fr4.tail
  replace HS := HS.fr4.tail
  replace HS := HS.fr4.tail
  exact ⟨rfl, HS⟩
 ·rw [if_neg a1] at h
  have ha1 : (a == 1) = false := beq_eq_false_iff_ne.2 a1
  by_cases hx : x = (⟨#[]⟩ : ByteArray)
  ·rw [if_pos hx] at h
   subst hx
   by_cases hb : b < 0
   ·rw [if_pos hb] at h
    have hbb : decide (b < 0) = true := decide_eq_true hb
    clear hb a1
    obtain ⟨rfl, rfl⟩ := (Prod.mk.injEq _ _ _ _).mp (Option.some.inj h)
    clear h
    go_enter Tryz.func61, Tryz.ntmps61
    go_wp2_with (first | ((with_reducible refine gate_dst (N := 2) rfl ?_); refine boxev 2 #[.slice A0 ks.length c0, .slice A1 ps.length c1, .slice A2 ss.length c2, .slice A3 ib.length c3, .int .i64 sd] 27 ?_; intro b2 hg_ W_ ho_ hb_; replace HS := HS.box hg_ ho_ hb_; clear hg_ ho_ hb_; obtain ⟨z20, z21, z22, z23, z24, f20, f21, f22, f23, f24⟩ := box5 (HS.blk 0)) | ((with_reducible refine gate_dst (N := 3) rfl ?_); refine boxev 3 #[.int .i64 a, .int .i64 b, .string (⟨#[]⟩ : ByteArray)] 53 ?_; intro b3 hg_ W_ ho_ hb_; replace HS := HS.box hg_ ho_ hb_; clear hg_ ho_ hb_; clear z20 z21 z22 z23 z24 f20 f21 f22 f23 f24; obtain ⟨z30, z31, z32, f30, f31, f32⟩ := box3 (HS.blk 0)) | ((with_reducible refine gate_dst (N := 4) rfl ?_); refine boxev 4 #[.slice none 0 0, .slice none 0 0, .slice none 0 0, .slice none 0 0, .int .i64 0] 27 ?_; intro b4 hg_ W_ ho_ hb_; replace HS := HS.box hg_ ho_ hb_; clear hg_ ho_ hb_; clear z30 z31 z32 f30 f31 f32; obtain ⟨z40, z41, z42, z43, z44, f40, f41, f42, f43, f44⟩ := box5 (HS.blk 0); clear z40 z41 z42 z43 z44 f40 f41 f42 f43 f44; obtain ⟨z40, z41, z42, z43, z44, f40, f41, f42, f43, f44⟩ := box5 (HS.blk 0); obtain ⟨z30, z31, z32, f30, f31, f32⟩ := box3 (HS.blk 1); obtain ⟨z20, z21, z22, z23, z24, f20, f21, f22, f23, f24⟩ := box5 (HS.blk 2)))
    have HF := HS.put5I 0 (.slice A0 ks.length c0) (.slice A1 ps.length c1) (.slice A2 ss.length c2) (.slice A3 ib.length c3) (.int .i64 sd)
    refine bodyPost_ret (results_ct rfl _ _ b4 27 #[.slice A0 ks.length c0, .slice A1 ps.length c1, .slice A2 ss.length c2, .slice A3 ib.length c3, .int .i64 sd] (0, 0) _ rfl (by exact (HF.blk 0).out) Tryz.underlying27 rfl (by kernel_rfl)) rfl ?_
    replace HS := HF
    replace HS := HS.tail
    replace HS := HS.tail
    replace HS := HS.tail
    exact ⟨rfl, HS⟩
   ·rw [if_neg hb] at h
    have hbb : decide (b < 0) = false := decide_eq_false hb
    have b0_ : 0 ≤ b := by omega
    clear hb
    by_cases a2 : a = 2
    ·rw [if_pos a2] at h
     subst a2
     clear a1 ha1
     by_cases hl : b < (ks.length : Int)
     ·rw [if_pos hl] at h
      have hlb : decide (b < (ks.length : Int)) = true := decide_eq_true hl
      clear hl
      replace h := bS h; obtain ⟨⟨ks1, ps1, ss1, ib1, sd1⟩, T1, h⟩ := h
      obtain ⟨e1, e3⟩ := spec_l17Tick.keeps T1.out
      dsimp only at e1 e3
      replace e1 := e1.symm; replace e3 := e3.symm
      subst e1 e3
      obtain ⟨rfl, rfl⟩ := (Prod.mk.injEq _ _ _ _).mp (Option.some.inj h)
      clear h
      go_enter Tryz.func61, Tryz.ntmps61
      go_wp2_with (first | ((with_reducible refine gate_dst (N := 2) rfl ?_); refine boxev 2 #[.slice A0 ks.length c0, .slice A1 ps.length c1, .slice A2 ss.length c2, .slice A3 ib.length c3, .int .i64 sd] 27 ?_; intro b2 hg_ W_ ho_ hb_; replace HS := HS.box hg_ ho_ hb_; clear hg_ ho_ hb_; obtain ⟨z20, z21, z22, z23, z24, f20, f21, f22, f23, f24⟩ := box5 (HS.blk 0)) | ((with_reducible refine gate_dst (N := 3) rfl ?_); refine boxev 3 #[.int .i64 2, .int .i64 b, .string (⟨#[]⟩ : ByteArray)] 53 ?_; intro b3 hg_ W_ ho_ hb_; replace HS := HS.box hg_ ho_ hb_; clear hg_ ho_ hb_; clear z20 z21 z22 z23 z24 f20 f21 f22 f23 f24; obtain ⟨z30, z31, z32, f30, f31, f32⟩ := box3 (HS.blk 0)) | ((with_reducible refine gate_dst (N := 4) rfl ?_); refine boxev 4 #[.slice none 0 0, .slice none 0 0, .slice none 0 0, .slice none 0 0, .int .i64 0] 27 ?_; intro b4 hg_ W_ ho_ hb_; replace HS := HS.box hg_ ho_ hb_; clear hg_ ho_ hb_; clear z30 z31 z32 f30 f31 f32; obtain ⟨z40, z41, z42, z43, z44, f40, f41, f42, f43, f44⟩ := box5 (HS.blk 0); clear z40 z41 z42 z43 z44 f40 f41 f42 f43 f44; obtain ⟨z40, z41, z42, z43, z44, f40, f41, f42, f43, f44⟩ := box5 (HS.blk 0); obtain ⟨z30, z31, z32, f30, f31, f32⟩ := box3 (HS.blk 1); obtain ⟨z20, z21, z22, z23, z24, f20, f21, f22, f23, f24⟩ := box5 (HS.blk 2)) | (go_at_call 53; have HC_ := spec_l17Tick.calls (n := ⟨ks, ps, ss, ib, sd⟩) (HS.fr6.fr6.fr6.fr6) T1.out; refine HC_.mono ?_; clear HC_; rintro e W_ ⟨rfl, HS'_⟩; clear HS; have HS := HS'_; clear HS'_; dsimp only [netA, List.cons_append, List.nil_append] at HS; clear z40 z41 z42 z43 z44 f40 f41 f42 f43 f44 z30 z31 z32 f30 f31 f32 z20 z21 z22 z23 z24 f20 f21 f22 f23 f24; obtain ⟨z40, z41, z42, z43, z44, f40, f41, f42, f43, f44⟩ := box5 (HS.blk 4); obtain ⟨z30, z31, z32, f30, f31, f32⟩ := box3 (HS.blk 5); obtain ⟨z20, z21, z22, z23, z24, f20, f21, f22, f23, f24⟩ := box5 (HS.blk 6)))
      have HF := HS.put5I 4 (.slice A0 ks.length c0) (.slice A1 ps.length c1) (.slice A2 ss.length c2) (.slice A3 ib.length c3) (.int .i64 sd)
      refine bodyPost_ret (results_ct rfl _ _ b4 27 #[.slice A0 ks.length c0, .slice A1 ps.length c1, .slice A2 ss.length c2, .slice A3 ib.length c3, .int .i64 sd] (0, 0) _ rfl (by exact (HF.blk 4).out) Tryz.underlying27 rfl (by kernel_rfl)) rfl ?_
      replace HS := HF
      replace HS := HS.fr4.tail
      replace HS := HS.fr4.tail
      replace HS := HS.fr4.tail
      exact ⟨rfl, HS⟩
     ·rw [if_neg hl] at h
      have hlb : decide (b < (ks.length : Int)) = false := decide_eq_false hl
      clear hl
      obtain ⟨rfl, rfl⟩ := (Prod.mk.injEq _ _ _ _).mp (Option.some.inj h)
      clear h
      go_enter Tryz.func61, Tryz.ntmps61
      go_upto_region 7 with (first | ((with_reducible refine gate_dst (N := 2) rfl ?_); refine boxev 2 #[.slice A0 ks.length c0, .slice A1 ps.length c1, .slice A2 ss.length c2, .slice A3 ib.length c3, .int .i64 sd] 27 ?_; intro b2 hg_ W_ ho_ hb_; replace HS := HS.box hg_ ho_ hb_; clear hg_ ho_ hb_; obtain ⟨z20, z21, z22, z23, z24, f20, f21, f22, f23, f24⟩ := box5 (HS.blk 0)) | ((with_reducible refine gate_dst (N := 3) rfl ?_); refine boxev 3 #[.int .i64 2, .int .i64 b, .string (⟨#[]⟩ : ByteArray)] 53 ?_; intro b3 hg_ W_ ho_ hb_; replace HS := HS.box hg_ ho_ hb_; clear hg_ ho_ hb_; clear z20 z21 z22 z23 z24 f20 f21 f22 f23 f24; obtain ⟨z30, z31, z32, f30, f31, f32⟩ := box3 (HS.blk 0)) | ((with_reducible refine gate_dst (N := 4) rfl ?_); refine boxev 4 #[.slice none 0 0, .slice none 0 0, .slice none 0 0, .slice none 0 0, .int .i64 0] 27 ?_; intro b4 hg_ W_ ho_ hb_; replace HS := HS.box hg_ ho_ hb_; clear hg_ ho_ hb_; clear z30 z31 z32 f30 f31 f32; obtain ⟨z40, z41, z42, z43, z44, f40, f41, f42, f43, f44⟩ := box5 (HS.blk 0); clear z40 z41 z42 z43 z44 f40 f41 f42 f43 f44; obtain ⟨z40, z41, z42, z43, z44, f40, f41, f42, f43, f44⟩ := box5 (HS.blk 0); obtain ⟨z30, z31, z32, f30, f31, f32⟩ := box3 (HS.blk 1); obtain ⟨z20, z21, z22, z23, z24, f20, f21, f22, f23, f24⟩ := box5 (HS.blk 2)))
      go_upto_region 7 with fail
      clear z40 z41 z42 z43 z44 f40 f41 f42 f43 f44 z30 z31 z32 f30 f31 f32 z20 z21 z22 z23 z24 f20 f21 f22 f23 f24
      obtain ⟨z40, z41, z42, z43, z44, f40, f41, f42, f43, f44⟩ := box5 (HS.blk 0)
      obtain ⟨z30, z31, z32, f30, f31, f32⟩ := box3 (HS.blk 1)
      obtain ⟨z20, z21, z22, z23, z24, f20, f21, f22, f23, f24⟩ := box5 (HS.blk 2)
      refine start_ (n := 14) (S := fun w' => w'.cell? ⟨b4, 0, none⟩ = some (.slice none 0 0) ∧ w'.cell? ⟨b4, 1, none⟩ = some (.slice none 0 0) ∧ w'.cell? ⟨b4, 2, none⟩ = some (.slice none 0 0) ∧ w'.cell? ⟨b4, 3, none⟩ = some (.slice none 0 0) ∧ w'.cell? ⟨b4, 4, none⟩ = some (.int .i64 0) ∧ w'.cell? ⟨b3, 0, none⟩ = some (.int .i64 2) ∧ w'.cell? ⟨b3, 1, none⟩ = some (.int .i64 b) ∧ w'.cell? ⟨b3, 2, none⟩ = some (.string (⟨#[]⟩ : ByteArray)) ∧ w'.cell? ⟨b2, 0, none⟩ = some (.slice A0 ks.length c0) ∧ w'.cell? ⟨b2, 1, none⟩ = some (.slice A1 ps.length c1) ∧ w'.cell? ⟨b2, 2, none⟩ = some (.slice A2 ss.length c2) ∧ w'.cell? ⟨b2, 3, none⟩ = some (.slice A3 ib.length c3) ∧ w'.cell? ⟨b2, 4, none⟩ = some (.int .i64 sd)) (ds := []) (bl 14 0) (by kernel_rfl) rfl rfl ⟨z40, z41, z42, z43, z44, z30, z31, z32, z20, z21, z22, z23, z24⟩ (fun hHeld => ?_); refine with_tabW spec_l17Step.tab7 spec_l17Step.bits7 (fun HT_ HW_ => ?_)
      clear z40 z41 z42 z43 z44 f40 f41 f42 f43 f44 z30 z31 z32 f30 f31 f32 z20 z21 z22 z23 z24 f20 f21 f22 f23 f24
      replace HS := HS.drew
      generalize World.drew _ = W9_ at HS hHeld ⊢
      refine pureA 0 (some 45) 14 1 HT_ ?_
      refine takeA 1 (some 46) 14 3 HT_ HW_ hHeld ?_ (hy := by rintro w' ⟨s0, s1, s2, s3, s4, s5, s6, s7, s8, s9, s10, s11, s12⟩; go_simp; with_reducible rfl)
      refine pureA 2 (some 47) 14 7 HT_ ?_
      refine pureA 3 (some 48) 14 15 HT_ ?_
      try simp only [show ((2 : Int) == 3) = false from rfl]
      refine pureB 4 (some 49) 14 31 HT_ ?_
      refine pureB 5 (some 50) 14 63 HT_ ?_
      refine pureB 6 (some 51) 14 127 HT_ ?_
      refine pureB 7 (some 52) 14 255 HT_ ?_
      refine pureB 8 (some 53) 14 511 HT_ ?_
      refine pureB 9 (some 54) 14 1023 HT_ ?_
      refine pureB 10 (some 55) 14 2047 HT_ ?_
      refine pureB 11 (some 56) 14 4095 HT_ ?_
      refine pureA 12 (some 57) 14 8191 HT_ ?_
      refine pureA 13 (some 44) 14 16383 HT_ ?_
      refine done_ (done_of HT_.out (by kernel_rfl)) ?_
      clear HT_ HW_ hHeld
      obtain ⟨z40, z41, z42, z43, z44, f40, f41, f42, f43, f44⟩ := box5 (HS.blk 0)
      obtain ⟨z30, z31, z32, f30, f31, f32⟩ := box3 (HS.blk 1)
      obtain ⟨z20, z21, z22, z23, z24, f20, f21, f22, f23, f24⟩ := box5 (HS.blk 2)
      go_wp2
      have HF := HS.put5I 0 (.slice A0 ks.length c0) (.slice A1 ps.length c1) (.slice A2 ss.length c2) (.slice A3 ib.length c3) (.int .i64 sd)
      refine bodyPost_ret (results_ct rfl _ _ b4 27 #[.slice A0 ks.length c0, .slice A1 ps.length c1, .slice A2 ss.length c2, .slice A3 ib.length c3, .int .i64 sd] (0, 0) _ rfl (by exact (HF.blk 0).out) Tryz.underlying27 rfl (by kernel_rfl)) rfl ?_
      replace HS := HF
      replace HS := HS.tail
      replace HS := HS.tail
      replace HS := HS.tail
      exact ⟨rfl, HS⟩
    ·rw [if_neg a2] at h
     have ha2 : (a == 2) = false := beq_eq_false_iff_ne.2 a2
     by_cases a3 : a = 3
     ·rw [if_pos a3] at h
      subst a3
      clear a1 ha1 a2 ha2
      replace h := ifS h; obtain ⟨hs0, h⟩ := h
      obtain ⟨g2, q2, e⟩ := HS.addr 2 (hx := hs0)
      obtain rfl : A2 = some ⟨g2, 0, none⟩ := by injection e
      clear e
      have j0 : (0 : Int) ≤ 0 := Int.le_refl 0
      have j1 : (0 : Int) < (ss.length : Int) := by omega
      have pj1 : (0 < (ss.length : Int)) = True := eq_true j1
      have pj2 : (0 < ss.length) = True := eq_true hs0
      obtain ⟨AS, qS, HS, -, -⟩ := HS.fr2.lend 0 j0 j1
      have GS0 : ss.getD (0 : Int).toNat [] = ss.getD 0 [] := rfl
      rw [GS0] at HS
      generalize hS : ss.getD 0 [] = S at HS h GS0
      have GS := ak GS0; clear GS0 hS
      by_cases b1_ : b < (S.length : Int)
      ·rw [if_pos b1_] at h
       have hlb : decide (b < (S.length : Int)) = true := decide_eq_true b1_
       replace h := bS h; obtain ⟨⟨ks1, ps1, ss1, ib1, sd1⟩, T1, h⟩ := h
       obtain ⟨e1, e2, e3⟩ := spec_l17Come.keeps T1.out
       dsimp only at e1 e2 e3
       replace e1 := e1.symm; replace e2 := e2.symm; replace e3 := e3.symm
       subst e1 e2 e3
       obtain ⟨rfl, rfl⟩ := (Prod.mk.injEq _ _ _ _).mp (Option.some.inj h)
       clear h
       generalize hs_ : rdOf ByteArray.empty S b = s at T1
       go_enter Tryz.func61, Tryz.ntmps61
       go_upto_region 7 with (first | ((with_reducible refine gate_dst (N := 2) rfl ?_); refine boxev 2 #[.slice A0 ks.length c0, .slice A1 ps.length c1, .slice (some ⟨g2, 0, none⟩) ss.length c2, .slice A3 ib.length c3, .int .i64 sd] 27 ?_; intro b2 hg_ W_ ho_ hb_; replace HS := HS.box hg_ ho_ hb_; clear hg_ ho_ hb_; obtain ⟨z20, z21, z22, z23, z24, f20, f21, f22, f23, f24⟩ := box5 (HS.blk 0)) | ((with_reducible refine gate_dst (N := 3) rfl ?_); refine boxev 3 #[.int .i64 3, .int .i64 b, .string (⟨#[]⟩ : ByteArray)] 53 ?_; intro b3 hg_ W_ ho_ hb_; replace HS := HS.box hg_ ho_ hb_; clear hg_ ho_ hb_; clear z20 z21 z22 z23 z24 f20 f21 f22 f23 f24; obtain ⟨z30, z31, z32, f30, f31, f32⟩ := box3 (HS.blk 0)) | ((with_reducible refine gate_dst (N := 4) rfl ?_); refine boxev 4 #[.slice none 0 0, .slice none 0 0, .slice none 0 0, .slice none 0 0, .int .i64 0] 27 ?_; intro b4 hg_ W_ ho_ hb_; replace HS := HS.box hg_ ho_ hb_; clear hg_ ho_ hb_; clear z30 z31 z32 f30 f31 f32; obtain ⟨z40, z41, z42, z43, z44, f40, f41, f42, f43, f44⟩ := box5 (HS.blk 0); clear z40 z41 z42 z43 z44 f40 f41 f42 f43 f44; obtain ⟨z40, z41, z42, z43, z44, f40, f41, f42, f43, f44⟩ := box5 (HS.blk 0); obtain ⟨z30, z31, z32, f30, f31, f32⟩ := box3 (HS.blk 1); obtain ⟨z20, z21, z22, z23, z24, f20, f21, f22, f23, f24⟩ := box5 (HS.blk 2)))
       go_upto_region 7 with fail
       clear z40 z41 z42 z43 z44 f40 f41 f42 f43 f44 z30 z31 z32 f30 f31 f32 z20 z21 z22 z23 z24 f20 f21 f22 f23 f24
       obtain ⟨z40, z41, z42, z43, z44, f40, f41, f42, f43, f44⟩ := box5 (HS.blk 0)
       obtain ⟨z30, z31, z32, f30, f31, f32⟩ := box3 (HS.blk 1)
       obtain ⟨z20, z21, z22, z23, z24, f20, f21, f22, f23, f24⟩ := box5 (HS.blk 2)
       obtain ⟨hcgs, hfgs⟩ := HS.fr3.hole j0 j1
       refine start_ (n := 14) (S := fun w' => w'.cell? ⟨b4, 0, none⟩ = some (.slice none 0 0) ∧ w'.cell? ⟨b4, 1, none⟩ = some (.slice none 0 0) ∧ w'.cell? ⟨b4, 2, none⟩ = some (.slice none 0 0) ∧ w'.cell? ⟨b4, 3, none⟩ = some (.slice none 0 0) ∧ w'.cell? ⟨b4, 4, none⟩ = some (.int .i64 0) ∧ w'.cell? ⟨b3, 0, none⟩ = some (.int .i64 3) ∧ w'.cell? ⟨b3, 1, none⟩ = some (.int .i64 b) ∧ w'.cell? ⟨b3, 2, none⟩ = some (.string (⟨#[]⟩ : ByteArray)) ∧ w'.cell? ⟨b2, 0, none⟩ = some (.slice A0 ks.length c0) ∧ w'.cell? ⟨b2, 1, none⟩ = some (.slice A1 ps.length c1) ∧ w'.cell? ⟨b2, 2, none⟩ = some (.slice (some ⟨g2, 0, none⟩) ss.length c2) ∧ w'.cell? ⟨b2, 3, none⟩ = some (.slice A3 ib.length c3) ∧ w'.cell? ⟨b2, 4, none⟩ = some (.int .i64 sd) ∧ w'.cell? ⟨g2, 0, none⟩ = some (.slice AS S.length qS)) (ds := []) (bl 14 0) (by kernel_rfl) rfl rfl ⟨z40, z41, z42, z43, z44, z30, z31, z32, z20, z21, z22, z23, z24, hcgs⟩ (fun hHeld => ?_); refine with_tabW spec_l17Step.tab7 spec_l17Step.bits7 (fun HT_ HW_ => ?_)
       clear z40 z41 z42 z43 z44 f40 f41 f42 f43 f44 z30 z31 z32 f30 f31 f32 z20 z21 z22 z23 z24 f20 f21 f22 f23 f24 hcgs hfgs
       replace HS := HS.drew
       generalize World.drew _ = W9_ at HS hHeld ⊢
       refine pureA 0 (some 45) 14 1 HT_ ?_
       refine takeA 1 (some 46) 14 3 HT_ HW_ hHeld ?_ (hy := by rintro w' ⟨s0, s1, s2, s3, s4, s5, s6, s7, s8, s9, s10, s11, s12, s13⟩; go_simp; with_reducible rfl)
       refine pureA 2 (some 47) 14 7 HT_ ?_
       refine pureA 3 (some 48) 14 15 HT_ ?_
       try simp only [show ((3 : Int) == 3) = true from rfl]
       refine pureA 4 (some 49) 14 31 HT_ ?_
       refine takeA 5 (some 50) 14 63 HT_ HW_ hHeld ?_ (hy := by rintro w' ⟨s0, s1, s2, s3, s4, s5, s6, s7, s8, s9, s10, s11, s12, s13⟩; go_simp; with_reducible rfl)
       refine pureA 6 (some 51) 14 127 HT_ ?_
       refine takeA 7 (some 52) 14 255 HT_ HW_ hHeld ?_ (hy := by rintro w' ⟨s0, s1, s2, s3, s4, s5, s6, s7, s8, s9, s10, s11, s12, s13⟩; go_simp; with_reducible rfl)
       refine pureA 8 (some 53) 14 511 HT_ ?_
       refine takeA 9 (some 54) 14 1023 HT_ HW_ hHeld ?_ (hy := by rintro w' ⟨s0, s1, s2, s3, s4, s5, s6, s7, s8, s9, s10, s11, s12, s13⟩; go_simp; with_reducible rfl)
       refine pureA 10 (some 55) 14 2047 HT_ ?_
       refine pureA 11 (some 56) 14 4095 HT_ ?_
       refine pureA 12 (some 57) 14 8191 HT_ ?_
       refine pureA 13 (some 44) 14 16383 HT_ ?_
       refine done_ (done_of HT_.out (by kernel_rfl)) ?_
       clear HT_ HW_ hHeld
       obtain ⟨z40, z41, z42, z43, z44, f40, f41, f42, f43, f44⟩ := box5 (HS.blk 0)
       obtain ⟨z30, z31, z32, f30, f31, f32⟩ := box3 (HS.blk 1)
       obtain ⟨z20, z21, z22, z23, z24, f20, f21, f22, f23, f24⟩ := box5 (HS.blk 2)
       obtain ⟨gS, qS', e⟩ := HS.addrR 4 (hx := by omega)
       obtain rfl : AS = some ⟨gS, 0, none⟩ := by injection e
       clear e
       go_upto_region 8 with fail
       have pb0 : (0 ≤ b) = True := eq_true b0_
       have pb1 : (b < (S.length : Int)) = True := eq_true b1_
       go_upto_region 8 with fail
       clear z40 z41 z42 z43 z44 f40 f41 f42 f43 f44 z30 z31 z32 f30 f31 f32 z20 z21 z22 z23 z24 f20 f21 f22 f23 f24
       obtain ⟨z30, z31, z32, f30, f31, f32⟩ := box3 (HS.blk 1)
       obtain ⟨z20, z21, z22, z23, z24, f20, f21, f22, f23, f24⟩ := box5 (HS.blk 2)
       obtain ⟨hcgs, hfgs⟩ := HS.fr3.hole j0 j1
       have hxS := HS.cellS 4 (n := S.length) b b0_ b1_
       rw [hs_] at hxS
       refine start_ (n := 12) (S := fun w' => w'.cell? ⟨b3, 0, none⟩ = some (.int .i64 3) ∧ w'.cell? ⟨b3, 1, none⟩ = some (.int .i64 b) ∧ w'.cell? ⟨b3, 2, none⟩ = some (.string (⟨#[]⟩ : ByteArray)) ∧ w'.cell? ⟨b2, 0, none⟩ = some (.slice A0 ks.length c0) ∧ w'.cell? ⟨b2, 1, none⟩ = some (.slice A1 ps.length c1) ∧ w'.cell? ⟨b2, 2, none⟩ = some (.slice (some ⟨g2, 0, none⟩) ss.length c2) ∧ w'.cell? ⟨b2, 3, none⟩ = some (.slice A3 ib.length c3) ∧ w'.cell? ⟨b2, 4, none⟩ = some (.int .i64 sd) ∧ w'.cell? ⟨g2, 0, none⟩ = some (.slice (some ⟨gS, 0, none⟩) S.length qS) ∧ w'.cell? ⟨gS, b.toNat, none⟩ = some (.string s)) (ds := [9, 10]) (bl 12 0) (by kernel_rfl) rfl rfl ⟨z30, z31, z32, z20, z21, z22, z23, z24, hcgs, hxS⟩ (fun hHeld => ?_); refine with_tabW spec_l17Step.tab8 spec_l17Step.bits8 (fun HT_ HW_ => ?_)
       clear z30 z31 z32 f30 f31 f32 z20 z21 z22 z23 z24 f20 f21 f22 f23 f24 hcgs hfgs hxS
       replace HS := HS.drew
       generalize World.drew _ = W9_ at HS hHeld ⊢
       refine takeA 0 (some 58) 12 1 HT_ HW_ hHeld ?_ (hy := by rintro w' ⟨s0, s1, s2, s3, s4, s5, s6, s7, s8, s9⟩; go_simp; with_reducible rfl)
       refine pureA 1 (some 59) 12 3 HT_ ?_
       refine takeA 2 (some 60) 12 7 HT_ HW_ hHeld ?_ (hy := by rintro w' ⟨s0, s1, s2, s3, s4, s5, s6, s7, s8, s9⟩; go_simp; with_reducible rfl)
       refine pureA 3 (some 61) 12 15 HT_ ?_
       refine takeA 4 (some 62) 12 31 HT_ HW_ hHeld ?_ (hy := by rintro w' ⟨s0, s1, s2, s3, s4, s5, s6, s7, s8, s9⟩; go_simp; with_reducible rfl)
       refine pureA 5 (some 63) 12 63 HT_ ?_
       refine takeA 6 (some 64) 12 127 HT_ HW_ hHeld ?_ (hy := by rintro w' ⟨s0, s1, s2, s3, s4, s5, s6, s7, s8, s9⟩; go_simp; with_reducible rfl)
       refine pureA 7 (some 65) 12 255 HT_ ?_
       refine takeA 8 (some 66) 12 511 HT_ HW_ hHeld ?_ (hy := by rintro w' ⟨s0, s1, s2, s3, s4, s5, s6, s7, s8, s9⟩; go_simp; with_reducible rfl)
       replace HS := HS.fr4.fr4.back0 GS
       refine last_ (i := 9) (N := (some 67)) (bl 12 1023) rfl rfl (one_of HT_.out (by kernel_rfl)) (by decide) (fun K hK => ?_)
       clear hHeld
       refine goes_ Tryz.func89 (by kernel_rfl) rfl #[.agg #[.slice A0 ks.length c0, .slice A1 ps.length c1, .slice (some ⟨g2, 0, none⟩) ss.length c2, .slice A3 ib.length c3, .int .i64 sd], .int .i64 0, .string s] (by rfl) rfl rfl (by (try simp only [List.map_toArray, List.map_cons, List.map_nil]); first | done | rfl) ?_
       have HC_ := spec_l17Come.calls (n := ⟨ks, ps, ss, ib, sd⟩) (HS.fr6.fr1.fr6.fr6) T1.out
       refine HC_.mono ?_
       clear HC_
       rintro e W_ ⟨rfl, HS'_⟩
       refine ⟨_, rfl, ?_⟩
       clear HS
       have HS := HS'_
       clear HS'_
       dsimp only [netA, List.cons_append, List.nil_append] at HS
       refine hK.out _ _ ?_
       clear hK K
       refine norm_ (a' := ?_) ?_ ?_
       rotate_left
       ·show Act.put _ (some 67) _ = _
        simp only [Act.put, List.setIfInBounds_toArray, List.set_cons_zero, List.set_cons_succ, i64_w, i32_w]
        rfl
       refine last_ (i := 10) (N := none) (bl 12 2047) rfl rfl (one_of HT_.out (by kernel_rfl)) (by decide) (fun K hK => ?_)
       obtain ⟨z40, z41, z42, z43, z44, f40, f41, f42, f43, f44⟩ := box5 (HS.blk 4)
       refine skip_ (w1 := ?_) (by rfl) rfl ?_ ?_
       rotate_left
       ·go_simp
        rfl
       clear z40 z41 z42 z43 z44 f40 f41 f42 f43 f44
       replace HS := HS.put5I 4 (.slice A0 ks.length c0) (.slice A1 ps.length c1) (.slice (some ⟨g2, 0, none⟩) ss.length c2) (.slice A3 ib.length c3) (.int .i64 sd)
       refine hK.out _ _ ?_
       clear hK K
       obtain ⟨W5_, e5_, H5_⟩ := HS.gen
       rw [e5_]
       clear HS e5_
       have HS := H5_
       clear H5_
       refine pureA 11 (some 5) 12 4095 HT_ ?_
       refine done_ (done_of HT_.out (by kernel_rfl)) ?_
       clear HT_ HW_
       go_wp2
       refine bodyPost_ret (results_ct rfl _ _ b4 27 #[.slice A0 ks.length c0, .slice A1 ps.length c1, .slice (some ⟨g2, 0, none⟩) ss.length c2, .slice A3 ib.length c3, .int .i64 sd] (0, 0) _ rfl (by exact (HS.blk 4).out) Tryz.underlying27 rfl (by kernel_rfl)) rfl ?_
       replace HS := HS.fr4.tail
       replace HS := HS.fr4.tail
       replace HS := HS.fr4.tail
       exact ⟨rfl, HS⟩
      ·rw [if_neg b1_] at h
       have hlb : decide (b < (S.length : Int)) = false := decide_eq_false b1_
       obtain ⟨rfl, rfl⟩ := (Prod.mk.injEq _ _ _ _).mp (Option.some.inj h)
       clear h
       go_enter Tryz.func61, Tryz.ntmps61
       go_upto_region 7 with (first | ((with_reducible refine gate_dst (N := 2) rfl ?_); refine boxev 2 #[.slice A0 ks.length c0, .slice A1 ps.length c1, .slice (some ⟨g2, 0, none⟩) ss.length c2, .slice A3 ib.length c3, .int .i64 sd] 27 ?_; intro b2 hg_ W_ ho_ hb_; replace HS := HS.box hg_ ho_ hb_; clear hg_ ho_ hb_; obtain ⟨z20, z21, z22, z23, z24, f20, f21, f22, f23, f24⟩ := box5 (HS.blk 0)) | ((with_reducible refine gate_dst (N := 3) rfl ?_); refine boxev 3 #[.int .i64 3, .int .i64 b, .string (⟨#[]⟩ : ByteArray)] 53 ?_; intro b3 hg_ W_ ho_ hb_; replace HS := HS.box hg_ ho_ hb_; clear hg_ ho_ hb_; clear z20 z21 z22 z23 z24 f20 f21 f22 f23 f24; obtain ⟨z30, z31, z32, f30, f31, f32⟩ := box3 (HS.blk 0)) | ((with_reducible refine gate_dst (N := 4) rfl ?_); refine boxev 4 #[.slice none 0 0, .slice none 0 0, .slice none 0 0, .slice none 0 0, .int .i64 0] 27 ?_; intro b4 hg_ W_ ho_ hb_; replace HS := HS.box hg_ ho_ hb_; clear hg_ ho_ hb_; clear z30 z31 z32 f30 f31 f32; obtain ⟨z40, z41, z42, z43, z44, f40, f41, f42, f43, f44⟩ := box5 (HS.blk 0); clear z40 z41 z42 z43 z44 f40 f41 f42 f43 f44; obtain ⟨z40, z41, z42, z43, z44, f40, f41, f42, f43, f44⟩ := box5 (HS.blk 0); obtain ⟨z30, z31, z32, f30, f31, f32⟩ := box3 (HS.blk 1); obtain ⟨z20, z21, z22, z23, z24, f20, f21, f22, f23, f24⟩ := box5 (HS.blk 2)))
       go_upto_region 7 with fail
       clear z40 z41 z42 z43 z44 f40 f41 f42 f43 f44 z30 z31 z32 f30 f31 f32 z20 z21 z22 z23 z24 f20 f21 f22 f23 f24
       obtain ⟨z40, z41, z42, z43, z44, f40, f41, f42, f43, f44⟩ := box5 (HS.blk 0)
       obtain ⟨z30, z31, z32, f30, f31, f32⟩ := box3 (HS.blk 1)
       obtain ⟨z20, z21, z22, z23, z24, f20, f21, f22, f23, f24⟩ := box5 (HS.blk 2)
       obtain ⟨hcgs, hfgs⟩ := HS.fr3.hole j0 j1
       refine start_ (n := 14) (S := fun w' => w'.cell? ⟨b4, 0, none⟩ = some (.slice none 0 0) ∧ w'.cell? ⟨b4, 1, none⟩ = some (.slice none 0 0) ∧ w'.cell? ⟨b4, 2, none⟩ = some (.slice none 0 0) ∧ w'.cell? ⟨b4, 3, none⟩ = some (.slice none 0 0) ∧ w'.cell? ⟨b4, 4, none⟩ = some (.int .i64 0) ∧ w'.cell? ⟨b3, 0, none⟩ = some (.int .i64 3) ∧ w'.cell? ⟨b3, 1, none⟩ = some (.int .i64 b) ∧ w'.cell? ⟨b3, 2, none⟩ = some (.string (⟨#[]⟩ : ByteArray)) ∧ w'.cell? ⟨b2, 0, none⟩ = some (.slice A0 ks.length c0) ∧ w'.cell? ⟨b2, 1, none⟩ = some (.slice A1 ps.length c1) ∧ w'.cell? ⟨b2, 2, none⟩ = some (.slice (some ⟨g2, 0, none⟩) ss.length c2) ∧ w'.cell? ⟨b2, 3, none⟩ = some (.slice A3 ib.length c3) ∧ w'.cell? ⟨b2, 4, none⟩ = some (.int .i64 sd) ∧ w'.cell? ⟨g2, 0, none⟩ = some (.slice AS S.length qS)) (ds := []) (bl 14 0) (by kernel_rfl) rfl rfl ⟨z40, z41, z42, z43, z44, z30, z31, z32, z20, z21, z22, z23, z24, hcgs⟩ (fun hHeld => ?_); refine with_tabW spec_l17Step.tab7 spec_l17Step.bits7 (fun HT_ HW_ => ?_)
       clear z40 z41 z42 z43 z44 f40 f41 f42 f43 f44 z30 z31 z32 f30 f31 f32 z20 z21 z22 z23 z24 f20 f21 f22 f23 f24 hcgs hfgs
       replace HS := HS.drew
       generalize World.drew _ = W9_ at HS hHeld ⊢
       refine pureA 0 (some 45) 14 1 HT_ ?_
       refine takeA 1 (some 46) 14 3 HT_ HW_ hHeld ?_ (hy := by rintro w' ⟨s0, s1, s2, s3, s4, s5, s6, s7, s8, s9, s10, s11, s12, s13⟩; go_simp; with_reducible rfl)
       refine pureA 2 (some 47) 14 7 HT_ ?_
       refine pureA 3 (some 48) 14 15 HT_ ?_
       try simp only [show ((3 : Int) == 3) = true from rfl]
       refine pureA 4 (some 49) 14 31 HT_ ?_
       refine takeA 5 (some 50) 14 63 HT_ HW_ hHeld ?_ (hy := by rintro w' ⟨s0, s1, s2, s3, s4, s5, s6, s7, s8, s9, s10, s11, s12, s13⟩; go_simp; with_reducible rfl)
       refine pureA 6 (some 51) 14 127 HT_ ?_
       refine takeA 7 (some 52) 14 255 HT_ HW_ hHeld ?_ (hy := by rintro w' ⟨s0, s1, s2, s3, s4, s5, s6, s7, s8, s9, s10, s11, s12, s13⟩; go_simp; with_reducible rfl)
       refine pureA 8 (some 53) 14 511 HT_ ?_
       refine takeA 9 (some 54) 14 1023 HT_ HW_ hHeld ?_ (hy := by rintro w' ⟨s0, s1, s2, s3, s4, s5, s6, s7, s8, s9, s10, s11, s12, s13⟩; go_simp; with_reducible rfl)
       refine pureA 10 (some 55) 14 2047 HT_ ?_
       refine pureA 11 (some 56) 14 4095 HT_ ?_
       refine pureA 12 (some 57) 14 8191 HT_ ?_
       refine pureA 13 (some 44) 14 16383 HT_ ?_
       refine done_ (done_of HT_.out (by kernel_rfl)) ?_
       clear HT_ HW_ hHeld
       obtain ⟨z40, z41, z42, z43, z44, f40, f41, f42, f43, f44⟩ := box5 (HS.blk 0)
       obtain ⟨z30, z31, z32, f30, f31, f32⟩ := box3 (HS.blk 1)
       obtain ⟨z20, z21, z22, z23, z24, f20, f21, f22, f23, f24⟩ := box5 (HS.blk 2)
       go_wp2
       replace HS := HS.fr4.fr4.back0 GS
       have HF := HS.put5I 1 (.slice A0 ks.length c0) (.slice A1 ps.length c1) (.slice (some ⟨g2, 0, none⟩) ss.length c2) (.slice A3 ib.length c3) (.int .i64 sd)
       refine bodyPost_ret (results_ct rfl _ _ b4 27 #[.slice A0 ks.length c0, .slice A1 ps.length c1, .slice (some ⟨g2, 0, none⟩) ss.length c2, .slice A3 ib.length c3, .int .i64 sd] (0, 0) _ rfl (by exact (HF.blk 1).out) Tryz.underlying27 rfl (by kernel_rfl)) rfl ?_
       replace HS := HF
       replace HS := HS.fr1.tail
       replace HS := HS.fr1.tail
       replace HS := HS.fr1.tail
       exact ⟨rfl, HS.fr3.fr1.fr3.fr3⟩
     ·rw [if_neg a3] at h
      have ha3 : (a == 3) = false := beq_eq_false_iff_ne.2 a3
      clear a1 a2 a3
      obtain ⟨rfl, rfl⟩ := (Prod.mk.injEq _ _ _ _).mp (Option.some.inj h)
      clear h
      go_enter Tryz.func61, Tryz.ntmps61
      go_upto_region 7 with (first | ((with_reducible refine gate_dst (N := 2) rfl ?_); refine boxev 2 #[.slice A0 ks.length c0, .slice A1 ps.length c1, .slice A2 ss.length c2, .slice A3 ib.length c3, .int .i64 sd] 27 ?_; intro b2 hg_ W_ ho_ hb_; replace HS := HS.box hg_ ho_ hb_; clear hg_ ho_ hb_; obtain ⟨z20, z21, z22, z23, z24, f20, f21, f22, f23, f24⟩ := box5 (HS.blk 0)) | ((with_reducible refine gate_dst (N := 3) rfl ?_); refine boxev 3 #[.int .i64 a, .int .i64 b, .string (⟨#[]⟩ : ByteArray)] 53 ?_; intro b3 hg_ W_ ho_ hb_; replace HS := HS.box hg_ ho_ hb_; clear hg_ ho_ hb_; clear z20 z21 z22 z23 z24 f20 f21 f22 f23 f24; obtain ⟨z30, z31, z32, f30, f31, f32⟩ := box3 (HS.blk 0)) | ((with_reducible refine gate_dst (N := 4) rfl ?_); refine boxev 4 #[.slice none 0 0, .slice none 0 0, .slice none 0 0, .slice none 0 0, .int .i64 0] 27 ?_; intro b4 hg_ W_ ho_ hb_; replace HS := HS.box hg_ ho_ hb_; clear hg_ ho_ hb_; clear z30 z31 z32 f30 f31 f32; obtain ⟨z40, z41, z42, z43, z44, f40, f41, f42, f43, f44⟩ := box5 (HS.blk 0); clear z40 z41 z42 z43 z44 f40 f41 f42 f43 f44; obtain ⟨z40, z41, z42, z43, z44, f40, f41, f42, f43, f44⟩ := box5 (HS.blk 0); obtain ⟨z30, z31, z32, f30, f31, f32⟩ := box3 (HS.blk 1); obtain ⟨z20, z21, z22, z23, z24, f20, f21, f22, f23, f24⟩ := box5 (HS.blk 2)))
      go_upto_region 7 with fail
      clear z40 z41 z42 z43 z44 f40 f41 f42 f43 f44 z30 z31 z32 f30 f31 f32 z20 z21 z22 z23 z24 f20 f21 f22 f23 f24
      obtain ⟨z40, z41, z42, z43, z44, f40, f41, f42, f43, f44⟩ := box5 (HS.blk 0)
      obtain ⟨z30, z31, z32, f30, f31, f32⟩ := box3 (HS.blk 1)
      obtain ⟨z20, z21, z22, z23, z24, f20, f21, f22, f23, f24⟩ := box5 (HS.blk 2)
      refine start_ (n := 14) (S := fun w' => w'.cell? ⟨b4, 0, none⟩ = some (.slice none 0 0) ∧ w'.cell? ⟨b4, 1, none⟩ = some (.slice none 0 0) ∧ w'.cell? ⟨b4, 2, none⟩ = some (.slice none 0 0) ∧ w'.cell? ⟨b4, 3, none⟩ = some (.slice none 0 0) ∧ w'.cell? ⟨b4, 4, none⟩ = some (.int .i64 0) ∧ w'.cell? ⟨b3, 0, none⟩ = some (.int .i64 a) ∧ w'.cell? ⟨b3, 1, none⟩ = some (.int .i64 b) ∧ w'.cell? ⟨b3, 2, none⟩ = some (.string (⟨#[]⟩ : ByteArray)) ∧ w'.cell? ⟨b2, 0, none⟩ = some (.slice A0 ks.length c0) ∧ w'.cell? ⟨b2, 1, none⟩ = some (.slice A1 ps.length c1) ∧ w'.cell? ⟨b2, 2, none⟩ = some (.slice A2 ss.length c2) ∧ w'.cell? ⟨b2, 3, none⟩ = some (.slice A3 ib.length c3) ∧ w'.cell? ⟨b2, 4, none⟩ = some (.int .i64 sd)) (ds := []) (bl 14 0) (by kernel_rfl) rfl rfl ⟨z40, z41, z42, z43, z44, z30, z31, z32, z20, z21, z22, z23, z24⟩ (fun hHeld => ?_); refine with_tabW spec_l17Step.tab7 spec_l17Step.bits7 (fun HT_ HW_ => ?_)
      clear z40 z41 z42 z43 z44 f40 f41 f42 f43 f44 z30 z31 z32 f30 f31 f32 z20 z21 z22 z23 z24 f20 f21 f22 f23 f24
      replace HS := HS.drew
      generalize World.drew _ = W9_ at HS hHeld ⊢
      refine pureA 0 (some 45) 14 1 HT_ ?_
      refine takeA 1 (some 46) 14 3 HT_ HW_ hHeld ?_ (hy := by rintro w' ⟨s0, s1, s2, s3, s4, s5, s6, s7, s8, s9, s10, s11, s12⟩; go_simp; with_reducible rfl)
      refine pureA 2 (some 47) 14 7 HT_ ?_
      refine pureA 3 (some 48) 14 15 HT_ ?_
      try simp only [ha3]
      refine pureB 4 (some 49) 14 31 HT_ ?_
      refine pureB 5 (some 50) 14 63 HT_ ?_
      refine pureB 6 (some 51) 14 127 HT_ ?_
      refine pureB 7 (some 52) 14 255 HT_ ?_
      refine pureB 8 (some 53) 14 511 HT_ ?_
      refine pureB 9 (some 54) 14 1023 HT_ ?_
      refine pureB 10 (some 55) 14 2047 HT_ ?_
      refine pureB 11 (some 56) 14 4095 HT_ ?_
      refine pureA 12 (some 57) 14 8191 HT_ ?_
      refine pureA 13 (some 44) 14 16383 HT_ ?_
      refine done_ (done_of HT_.out (by kernel_rfl)) ?_
      clear HT_ HW_ hHeld
      obtain ⟨z40, z41, z42, z43, z44, f40, f41, f42, f43, f44⟩ := box5 (HS.blk 0)
      obtain ⟨z30, z31, z32, f30, f31, f32⟩ := box3 (HS.blk 1)
      obtain ⟨z20, z21, z22, z23, z24, f20, f21, f22, f23, f24⟩ := box5 (HS.blk 2)
      go_wp2
      have HF := HS.put5I 0 (.slice A0 ks.length c0) (.slice A1 ps.length c1) (.slice A2 ss.length c2) (.slice A3 ib.length c3) (.int .i64 sd)
      refine bodyPost_ret (results_ct rfl _ _ b4 27 #[.slice A0 ks.length c0, .slice A1 ps.length c1, .slice A2 ss.length c2, .slice A3 ib.length c3, .int .i64 sd] (0, 0) _ rfl (by exact (HF.blk 0).out) Tryz.underlying27 rfl (by kernel_rfl)) rfl ?_
      replace HS := HF
      replace HS := HS.tail
      replace HS := HS.tail
      replace HS := HS.tail
      exact ⟨rfl, HS⟩
  ·rw [if_neg hx] at h
   have hxe := nw_nonempty hx
   clear hx a1
   obtain ⟨rfl, rfl⟩ := (Prod.mk.injEq _ _ _ _).mp (Option.some.inj h)
   clear h
   go_enter Tryz.func61, Tryz.ntmps61
   go_wp2_with (first | ((with_reducible refine gate_dst (N := 2) rfl ?_); refine boxev 2 #[.slice A0 ks.length c0, .slice A1 ps.length c1, .slice A2 ss.length c2, .slice A3 ib.length c3, .int .i64 sd] 27 ?_; intro b2 hg_ W_ ho_ hb_; replace HS := HS.box hg_ ho_ hb_; clear hg_ ho_ hb_; obtain ⟨z20, z21, z22, z23, z24, f20, f21, f22, f23, f24⟩ := box5 (HS.blk 0)) | ((with_reducible refine gate_dst (N := 3) rfl ?_); refine boxev 3 #[.int .i64 a, .int .i64 b, .string x] 53 ?_; intro b3 hg_ W_ ho_ hb_; replace HS := HS.box hg_ ho_ hb_; clear hg_ ho_ hb_; clear z20 z21 z22 z23 z24 f20 f21 f22 f23 f24; obtain ⟨z30, z31, z32, f30, f31, f32⟩ := box3 (HS.blk 0)) | ((with_reducible refine gate_dst (N := 4) rfl ?_); refine boxev 4 #[.slice none 0 0, .slice none 0 0, .slice none 0 0, .slice none 0 0, .int .i64 0] 27 ?_; intro b4 hg_ W_ ho_ hb_; replace HS := HS.box hg_ ho_ hb_; clear hg_ ho_ hb_; clear z30 z31 z32 f30 f31 f32; obtain ⟨z40, z41, z42, z43, z44, f40, f41, f42, f43, f44⟩ := box5 (HS.blk 0); clear z40 z41 z42 z43 z44 f40 f41 f42 f43 f44; obtain ⟨z40, z41, z42, z43, z44, f40, f41, f42, f43, f44⟩ := box5 (HS.blk 0); obtain ⟨z30, z31, z32, f30, f31, f32⟩ := box3 (HS.blk 1); obtain ⟨z20, z21, z22, z23, z24, f20, f21, f22, f23, f24⟩ := box5 (HS.blk 2)))
   have HF := HS.put5I 0 (.slice A0 ks.length c0) (.slice A1 ps.length c1) (.slice A2 ss.length c2) (.slice A3 ib.length c3) (.int .i64 sd)
   refine bodyPost_ret (results_ct rfl _ _ b4 27 #[.slice A0 ks.length c0, .slice A1 ps.length c1, .slice A2 ss.length c2, .slice A3 ib.length c3, .int .i64 sd] (0, 0) _ rfl (by exact (HF.blk 0).out) Tryz.underlying27 rfl (by kernel_rfl)) rfl ?_
   replace HS := HF
   replace HS := HS.tail
   replace HS := HS.tail
   replace HS := HS.tail
   exact ⟨rfl, HS⟩

/-! ### new nets, as made -/
theorem nw_made {w : World} {r1 : List Int} {r2 r3 r4 : List (List ByteArray)} {b : Bool} {e : Ending} {w' : World} (h : NnPost w r1 r2 r3 r4 b e w') : MadeNet w ⟨r1, r2, r3, r4, 0⟩ b e w' := by
  obtain ⟨v0, v1, v2, v3, g1, g2, g3, he, h0, h1, h2, h3, hn, hb⟩ := h
  exact ⟨v0, v1, v2, v3, he, made_of h0 h1 h2 h3 hn, hb⟩
theorem nw_spec {k : Nat} {A0 : Option Addr} {c0 : Nat} {l0 : List Int} {r1 : List Int} {r2 r3 r4 : List (List ByteArray)} {r5 : Int} {r6 : Bool} {w : World} (hr0 : KI.C w A0 l0.length l0) (hc0 : l0.length ≤ c0) (h : spec_NewNet.f k l0 = some (r1, r2, r3, r4, r5, r6)) :
    Calls Tryz.prog 49 #[.slice A0 l0.length c0] w (MadeNet w ⟨r1, r2, r3, r4, r5⟩ r6) := by
 unfold spec_NewNet.f at h
 obtain ⟨hn, h⟩ := ifS h
 obtain ⟨r, A1, h⟩ := bS h
 have hc := spec_NewNet.calls0 k A0 c0 l0 r w hr0 hc0 hn A1.out
 have h := Option.some.inj h
 cases r with
 | false =>
  obtain ⟨rfl, rfl, rfl, rfl, rfl, rfl⟩ : [] = r1 ∧ [] = r2 ∧ [] = r3 ∧ [] = r4 ∧ 0 = r5 ∧ false = r6 := by simpa using h
  exact hc.mono fun e w' he => nw_made he
 | true =>
  obtain ⟨rfl, rfl, rfl, rfl, rfl, rfl⟩ : l0 = r1 ∧ List.replicate l0.length [] = r2 ∧ List.replicate l0.length [] = r3 ∧ List.replicate 4 [] = r4 ∧ 0 = r5 ∧ true = r6 := by simpa using h
  exact hc.mono fun e w' he => nw_made he
/-- What plays make. -/
def MadePlay (w : World) (n : Nt) (d : List Bool) (b : Bool) (e : Ending) (w' : World) : Prop := ∃ v0 v1 v2 v3 v4 : Value, e = .returned (.tuple #[.agg #[v0, v1, v2, v3, .int .i64 n.sd], v4, .bool b]) ∧ (∃ c, SepAt c w.heap.size w' 0 (netA v0 v1 v2 v3 n ++ [rA Kd.bool 4 v4 d])) ∧ Below w.heap.size w w'
theorem nw_played {w W : World} {L : List SA} {v0 v1 v2 v3 v4 : Value} {n : Nt} {d : List Bool} (h : Sep w W (netA v0 v1 v2 v3 n ++ rA Kd.bool 4 v4 d :: L)) : ∃ c, SepAt c w.heap.size W 0 (netA v0 v1 v2 v3 n ++ [rA Kd.bool 4 v4 d]) := by
  obtain ⟨_, c, h⟩ := h
  have h' : SepAt c w.heap.size W 0 ((netA v0 v1 v2 v3 n ++ [rA Kd.bool 4 v4 d]) ++ L) := by rw [List.append_assoc]; exact h
  exact ⟨c, SepAt.left _ h'⟩
theorem nw_unplayed {w W : World} {L : List SA} (h : Sep w W L) : ∃ c, SepAt c w.heap.size W 0 (netA (.slice none 0 0) (.slice none 0 0) (.slice none 0 0) (.slice none 0 0) ⟨[], [], [], [], 0⟩ ++ [rA Kd.bool 4 (.slice none 0 0) []]) :=
  nw_played (((((h.nilrow Kd.bool 4).nilS KT 62).nilS KT 62).nilS KT 62).nilrow KI 3)
theorem nw_infoB : (Tryz.prog.info? 4).map (fun i => (i.zero, i.size, i.bytes)) = some (some (.bool false), 1, 1) := by kernel_rfl
theorem nw_keepc {w w1 : World} {a : Addr} {v : Value} (hb : Below w.heap.size w w1) (h : w.cell? a = some v) : w1.cell? a = some v := (hb.cell (World.block_lt_of_cell? w _ h)).trans h
theorem nw_drop {l : List S53} {j : Nat} (h : j < l.length) : l.drop j = rd_T53 l (j : Int) :: l.drop (j + 1) := by
  rw [List.drop_eq_getElem_cons h]
  simp [rd_T53, List.getD_eq_getElem?_getD, List.getElem?_eq_getElem h]
/-! ### spec_PlayNet: function 16 -/
def spec_PlayNet.T8 : Bool × List (List Nat × List Nat) := (true, [([], []), ([0], [0]), ([], []), ([1, 2, 1], [1, 2]), ([3], [3]), ([4], [4]), ([4], [4]), ([], []), ([7, 5, 3, 0, 1, 2, 3, 4, 5, 7], [5, 7]), ([6, 8, 0, 1, 2, 3, 4, 5, 6, 7, 8], [6])])
def spec_PlayNet.B8 : List Nat := [0, 1, 0, 7, 15, 31, 31, 0, 191, 511]
theorem spec_PlayNet.tab8 : rtab .any (opsOf Tryz.f16 8) = spec_PlayNet.T8 := by kernel_rfl
theorem spec_PlayNet.bits8 : waitsOk spec_PlayNet.T8.2 spec_PlayNet.B8 = true := by kernel_rfl
def spec_PlayNet.l0 (k : Nat) : List S53 → Nt → List Bool → Option (Nt × List Bool)
 | [], n, d => some (n, d)
 | s :: r, n, d => (spec_l17Own.f k n).bind fun n1 => (spec_l17Step.f k n1 s.f0 s.f1 s.f2).bind fun (n2, q) => spec_PlayNet.l0 k r (if q = true then n2 else n) (d ++ [q])
def spec_PlayNet.f (k : Nat) (ks : List Int) (l : List S53) : Option (Nt × List Bool × Bool) := (spec_NewNet.f k ks).bind fun (r1, r2, r3, r4, r5, r6) => if r6 = false then some (⟨[], [], [], [], 0⟩, [], false) else if 60 < (l.length : Int) then some (⟨[], [], [], [], 0⟩, [], false) else (spec_PlayNet.l0 k l ⟨r1, r2, r3, r4, r5⟩ []).bind fun (n, d) => (spec_l17Own.f k n).bind fun n3 => some (n3, d, true)
set_option maxHeartbeats 16000000 in
set_option maxRecDepth 100000 in
theorem spec_PlayNet.calls {k : Nat} {A0 A1 : Option Addr} {c0 c1 : Nat} {ks : List Int} {l : List S53} {m : Nt} {md : List Bool} {r : Bool} {w : World} (hr0 : KI.C w A0 ks.length ks) (hc0 : ks.length ≤ c0) (hr1 : Kd.C k53 w A1 l.length l) (hc1 : l.length ≤ c1) (h : spec_PlayNet.f k ks l = some (m, md, r)) :
    Calls Tryz.prog 16 #[.slice A0 ks.length c0, .slice A1 l.length c1] w (MadePlay w m md r) := by
 have hu27 := Tryz.underlying27
 have hu53 := Tryz.underlying53
 have HR0 := ak hr0; have HC0 := ak hc0; have HR1 := ak hr1; have HC1 := ak hc1
 clear hr0 hc0 hr1 hc1
 unfold spec_PlayNet.f at h
 have HS := Sep.nil w
 replace h := bS h; obtain ⟨⟨r1, r2, r3, r4, r5, r6⟩, T0, h⟩ := h
 dsimp only at h
 cases r6 with
 | false =>
  rw [if_pos rfl] at h
  obtain ⟨h1, h2⟩ := (Prod.mk.injEq _ _ _ _).mp (Option.some.inj h)
  obtain ⟨h2, h3⟩ := (Prod.mk.injEq _ _ _ _).mp h2
  clear h
  subst h1 h2 h3
  go_enter Tryz.func16, Tryz.ntmps16
  go_upto_region 2 with (first | ((with_reducible refine gate_dst (N := 4) rfl ?_); refine boxev 4 #[.slice none 0 0, .slice none 0 0, .slice none 0 0, .slice none 0 0, .int .i64 0] 27 ?_; intro b4 hg_ W_ ho_ hb_; replace HS := HS.box hg_ ho_ hb_; clear hg_ ho_ hb_; obtain ⟨z40, z41, z42, z43, z44, f40, f41, f42, f43, f44⟩ := box5 (HS.blk 0)) | (go_at_call 49; have HC_ := nw_spec (Kd.C_below HR0.out HS.base) HC0.out T0.out; refine HC_.mono ?_; clear HC_; rintro e W_ ⟨e0, e1, e2, e3, rfl, hc_, hb_⟩; replace HS := HS.news hb_ hc_; clear hc_ hb_; dsimp only [netA, List.cons_append, List.nil_append] at HS; obtain ⟨B0, d0, rfl⟩ := HS.slR 0; obtain ⟨B1, d1, rfl⟩ := HS.slS 1; obtain ⟨B2, d2, rfl⟩ := HS.slS 2; obtain ⟨B3, d3, rfl⟩ := HS.slS 3; clear z40 z41 z42 z43 z44 f40 f41 f42 f43 f44; obtain ⟨z40, z41, z42, z43, z44, f40, f41, f42, f43, f44⟩ := box5 (HS.blk 4)) | ((with_reducible refine gate_dst (N := 7) rfl ?_); refine boxev 7 #[.slice none 0 0, .slice none 0 0, .slice none 0 0, .slice none 0 0, .int .i64 0] 27 ?_; intro b7 hg_ W_ ho_ hb_; replace HS := HS.box hg_ ho_ hb_; clear hg_ ho_ hb_; clear z40 z41 z42 z43 z44 f40 f41 f42 f43 f44; obtain ⟨z70, z71, z72, z73, z74, f70, f71, f72, f73, f74⟩ := box5 (HS.blk 0); clear z70 z71 z72 z73 z74 f70 f71 f72 f73 f74; obtain ⟨z70, z71, z72, z73, z74, f70, f71, f72, f73, f74⟩ := box5 (HS.blk 0)))
  clear z70 z71 z72 z73 z74 f70 f71 f72 f73 f74
  obtain ⟨W5_, e5_, H5_⟩ := (((((HS.putI 0 0 (.slice B0 r1.length d0) #[.slice B0 r1.length d0, .slice none 0 0, .slice none 0 0, .slice none 0 0, .int .i64 0]).putI 0 1 (.slice B1 r2.length d1) #[.slice B0 r1.length d0, .slice B1 r2.length d1, .slice none 0 0, .slice none 0 0, .int .i64 0]).putI 0 2 (.slice B2 r3.length d2) #[.slice B0 r1.length d0, .slice B1 r2.length d1, .slice B2 r3.length d2, .slice none 0 0, .int .i64 0]).putI 0 3 (.slice B3 r4.length d3) #[.slice B0 r1.length d0, .slice B1 r2.length d1, .slice B2 r3.length d2, .slice B3 r4.length d3, .int .i64 0]).putI 0 4 (.int .i64 r5) #[.slice B0 r1.length d0, .slice B1 r2.length d1, .slice B2 r3.length d2, .slice B3 r4.length d3, .int .i64 r5]).gen
  rw [e5_]
  clear HS e5_
  have HS := H5_
  clear H5_
  obtain ⟨z70, z71, z72, z73, z74, f70, f71, f72, f73, f74⟩ := box5 (HS.blk 0)
  obtain ⟨z40, z41, z42, z43, z44, f40, f41, f42, f43, f44⟩ := box5 (HS.blk 5)
  go_wp2
  have HF := HS.put5I 5 (.slice none 0 0) (.slice none 0 0) (.slice none 0 0) (.slice none 0 0) (.int .i64 0)
  refine bodyPost_ret (results_ctt rfl _ _ b4 27 #[.slice none 0 0, .slice none 0 0, .slice none 0 0, .slice none 0 0, .int .i64 0] (0, 0) _ rfl (by exact (HF.blk 5).out) Tryz.underlying27 rfl (by kernel_rfl)) rfl ?_
  exact ⟨_, _, _, _, _, rfl, nw_unplayed HF, HF.base⟩
 | true =>
  rw [if_neg (by decide)] at h
  by_cases c1_ : 60 < (l.length : Int)
  ·rw [if_pos c1_] at h
   have cb1 : decide (60 < (l.length : Int)) = true := decide_eq_true c1_
   clear c1_
   obtain ⟨h1, h2⟩ := (Prod.mk.injEq _ _ _ _).mp (Option.some.inj h)
   obtain ⟨h2, h3⟩ := (Prod.mk.injEq _ _ _ _).mp h2
   clear h
   subst h1 h2 h3
   go_enter Tryz.func16, Tryz.ntmps16
   go_upto_region 2 with (first | ((with_reducible refine gate_dst (N := 4) rfl ?_); refine boxev 4 #[.slice none 0 0, .slice none 0 0, .slice none 0 0, .slice none 0 0, .int .i64 0] 27 ?_; intro b4 hg_ W_ ho_ hb_; replace HS := HS.box hg_ ho_ hb_; clear hg_ ho_ hb_; obtain ⟨z40, z41, z42, z43, z44, f40, f41, f42, f43, f44⟩ := box5 (HS.blk 0)) | (go_at_call 49; have HC_ := nw_spec (Kd.C_below HR0.out HS.base) HC0.out T0.out; refine HC_.mono ?_; clear HC_; rintro e W_ ⟨e0, e1, e2, e3, rfl, hc_, hb_⟩; replace HS := HS.news hb_ hc_; clear hc_ hb_; dsimp only [netA, List.cons_append, List.nil_append] at HS; obtain ⟨B0, d0, rfl⟩ := HS.slR 0; obtain ⟨B1, d1, rfl⟩ := HS.slS 1; obtain ⟨B2, d2, rfl⟩ := HS.slS 2; obtain ⟨B3, d3, rfl⟩ := HS.slS 3; clear z40 z41 z42 z43 z44 f40 f41 f42 f43 f44; obtain ⟨z40, z41, z42, z43, z44, f40, f41, f42, f43, f44⟩ := box5 (HS.blk 4)) | ((with_reducible refine gate_dst (N := 7) rfl ?_); refine boxev 7 #[.slice none 0 0, .slice none 0 0, .slice none 0 0, .slice none 0 0, .int .i64 0] 27 ?_; intro b7 hg_ W_ ho_ hb_; replace HS := HS.box hg_ ho_ hb_; clear hg_ ho_ hb_; clear z40 z41 z42 z43 z44 f40 f41 f42 f43 f44; obtain ⟨z70, z71, z72, z73, z74, f70, f71, f72, f73, f74⟩ := box5 (HS.blk 0); clear z70 z71 z72 z73 z74 f70 f71 f72 f73 f74; obtain ⟨z70, z71, z72, z73, z74, f70, f71, f72, f73, f74⟩ := box5 (HS.blk 0)))
   clear z70 z71 z72 z73 z74 f70 f71 f72 f73 f74
   obtain ⟨W5_, e5_, H5_⟩ := (((((HS.putI 0 0 (.slice B0 r1.length d0) #[.slice B0 r1.length d0, .slice none 0 0, .slice none 0 0, .slice none 0 0, .int .i64 0]).putI 0 1 (.slice B1 r2.length d1) #[.slice B0 r1.length d0, .slice B1 r2.length d1, .slice none 0 0, .slice none 0 0, .int .i64 0]).putI 0 2 (.slice B2 r3.length d2) #[.slice B0 r1.length d0, .slice B1 r2.length d1, .slice B2 r3.length d2, .slice none 0 0, .int .i64 0]).putI 0 3 (.slice B3 r4.length d3) #[.slice B0 r1.length d0, .slice B1 r2.length d1, .slice B2 r3.length d2, .slice B3 r4.length d3, .int .i64 0]).putI 0 4 (.int .i64 r5) #[.slice B0 r1.length d0, .slice B1 r2.length d1, .slice B2 r3.length d2, .slice B3 r4.length d3, .int .i64 r5]).gen
   rw [e5_]
   clear HS e5_
   have HS := H5_
   clear H5_
   obtain ⟨z70, z71, z72, z73, z74, f70, f71, f72, f73, f74⟩ := box5 (HS.blk 0)
   obtain ⟨z40, z41, z42, z43, z44, f40, f41, f42, f43, f44⟩ := box5 (HS.blk 5)
   go_wp2
   have HF := HS.put5I 5 (.slice none 0 0) (.slice none 0 0) (.slice none 0 0) (.slice none 0 0) (.int .i64 0)
   refine bodyPost_ret (results_ctt rfl _ _ b4 27 #[.slice none 0 0, .slice none 0 0, .slice none 0 0, .slice none 0 0, .int .i64 0] (0, 0) _ rfl (by exact (HF.blk 5).out) Tryz.underlying27 rfl (by kernel_rfl)) rfl ?_
   exact ⟨_, _, _, _, _, rfl, nw_unplayed HF, HF.base⟩
  ·rw [if_neg c1_] at h
   have cb1 : decide (60 < (l.length : Int)) = false := decide_eq_false c1_
   have LL := ak (show l.length ≤ 60 by omega)
   clear c1_
   replace h := bS h; obtain ⟨⟨n2, dd⟩, T1, h⟩ := h
   dsimp only at h
   replace h := bS h; obtain ⟨n3, T9, h⟩ := h
   obtain ⟨h1, h2⟩ := (Prod.mk.injEq _ _ _ _).mp (Option.some.inj h)
   obtain ⟨h2, h3⟩ := (Prod.mk.injEq _ _ _ _).mp h2
   clear h
   subst h1 h2 h3
   have H' := T1; clear T1
   go_enter Tryz.func16, Tryz.ntmps16
   go_upto_region 2 with (first | ((with_reducible refine gate_dst (N := 4) rfl ?_); refine boxev 4 #[.slice none 0 0, .slice none 0 0, .slice none 0 0, .slice none 0 0, .int .i64 0] 27 ?_; intro b4 hg_ W_ ho_ hb_; replace HS := HS.box hg_ ho_ hb_; clear hg_ ho_ hb_; obtain ⟨z40, z41, z42, z43, z44, f40, f41, f42, f43, f44⟩ := box5 (HS.blk 0)) | (go_at_call 49; have HC_ := nw_spec (Kd.C_below HR0.out HS.base) HC0.out T0.out; refine HC_.mono ?_; clear HC_; rintro e W_ ⟨e0, e1, e2, e3, rfl, hc_, hb_⟩; replace HS := HS.news hb_ hc_; clear hc_ hb_; dsimp only [netA, List.cons_append, List.nil_append] at HS; obtain ⟨B0, d0, rfl⟩ := HS.slR 0; obtain ⟨B1, d1, rfl⟩ := HS.slS 1; obtain ⟨B2, d2, rfl⟩ := HS.slS 2; obtain ⟨B3, d3, rfl⟩ := HS.slS 3; clear z40 z41 z42 z43 z44 f40 f41 f42 f43 f44; obtain ⟨z40, z41, z42, z43, z44, f40, f41, f42, f43, f44⟩ := box5 (HS.blk 4)) | ((with_reducible refine gate_dst (N := 7) rfl ?_); refine boxev 7 #[.slice none 0 0, .slice none 0 0, .slice none 0 0, .slice none 0 0, .int .i64 0] 27 ?_; intro b7 hg_ W_ ho_ hb_; replace HS := HS.box hg_ ho_ hb_; clear hg_ ho_ hb_; clear z40 z41 z42 z43 z44 f40 f41 f42 f43 f44; obtain ⟨z70, z71, z72, z73, z74, f70, f71, f72, f73, f74⟩ := box5 (HS.blk 0); clear z70 z71 z72 z73 z74 f70 f71 f72 f73 f74; obtain ⟨z70, z71, z72, z73, z74, f70, f71, f72, f73, f74⟩ := box5 (HS.blk 0)))
   clear z70 z71 z72 z73 z74 f70 f71 f72 f73 f74
   obtain ⟨W5_, e5_, H5_⟩ := (((((HS.putI 0 0 (.slice B0 r1.length d0) #[.slice B0 r1.length d0, .slice none 0 0, .slice none 0 0, .slice none 0 0, .int .i64 0]).putI 0 1 (.slice B1 r2.length d1) #[.slice B0 r1.length d0, .slice B1 r2.length d1, .slice none 0 0, .slice none 0 0, .int .i64 0]).putI 0 2 (.slice B2 r3.length d2) #[.slice B0 r1.length d0, .slice B1 r2.length d1, .slice B2 r3.length d2, .slice none 0 0, .int .i64 0]).putI 0 3 (.slice B3 r4.length d3) #[.slice B0 r1.length d0, .slice B1 r2.length d1, .slice B2 r3.length d2, .slice B3 r4.length d3, .int .i64 0]).putI 0 4 (.int .i64 r5) #[.slice B0 r1.length d0, .slice B1 r2.length d1, .slice B2 r3.length d2, .slice B3 r4.length d3, .int .i64 r5]).gen
   rw [e5_]
   clear HS e5_
   have HS := H5_
   clear H5_
   obtain ⟨z70, z71, z72, z73, z74, f70, f71, f72, f73, f74⟩ := box5 (HS.blk 0)
   obtain ⟨z40, z41, z42, z43, z44, f40, f41, f42, f43, f44⟩ := box5 (HS.blk 5)
   go_wp2
   clear z70 z71 z72 z73 z74 f70 f71 f72 f73 f74 z40 z41 z42 z43 z44 f40 f41 f42 f43 f44
   replace HS := HS.nilrow Kd.bool 4
   go_loopg [9, 29] l.length (fun kq v9 v29 w' => ∃ (j : Nat) (n : Nt) (d : List Bool) (e0 e1 e2 e3 : Value), v29 = .int .i64 (j : Int) ∧ Aside0 (spec_PlayNet.l0 k (l.drop j) n d = some (n2, dd)) ∧ j ≤ l.length ∧ l.length - j ≤ kq ∧ d.length = j ∧ Sep w w' (rA Kd.bool 4 v9 d :: bA b7 #[e0, e1, e2, e3, .int .i64 n.sd] 27 :: bA b4 #[.slice none 0 0, .slice none 0 0, .slice none 0 0, .slice none 0 0, .int .i64 0] 27 :: rA KI 3 e0 n.ks :: sA KT 62 e1 n.ps :: sA KT 62 e2 n.ss :: sA KT 62 e3 n.ib :: []))
   case atStart => exact ⟨0, ⟨r1, r2, r3, r4, r5⟩, [], _, _, _, _, rfl, H', Nat.zero_le _, Nat.le_refl _, rfl, HS.fr5.fr5.fr5.fr5.fr6.fr6.fr6⟩
   case round =>
    clear HS H'
    obtain ⟨j, n, d, e0, e1, e2, e3, rfl, HA, j1, j2, hdl, HS⟩ := hrel
    have h := HA.out; clear HA
    have HD := ak hdl; clear hdl
    obtain ⟨E0, f0, rfl⟩ := HS.slR 3
    obtain ⟨E1, f1, rfl⟩ := HS.slS 4
    obtain ⟨E2, f2, rfl⟩ := HS.slS 5
    obtain ⟨E3, f3, rfl⟩ := HS.slS 6
    obtain ⟨A9, c9, rfl⟩ := HS.slR 0
    by_cases hj : j < l.length
    ·have hjb : decide ((j : Int) < (l.length : Int)) = true := decide_eq_true (by omega)
     rw [nw_drop hj] at h
     obtain ⟨ad, e, hx0, hx1, hx2⟩ := at_T53 (Kd.C_below HR1.out HS.base) (j : Int) (by omega) (by omega)
     cases e
     rw [Int.toNat_natCast] at hx0 hx1 hx2
     generalize rd_T53 l (j : Int) = s at h hx0 hx1 hx2
     obtain ⟨sa, sb, sx⟩ := s
     dsimp only at hx0 hx1 hx2
     have pj0 : (0 ≤ (j : Int)) = True := eq_true (by omega)
     have pj1 : ((j : Int) < (l.length : Int)) = True := eq_true (by omega)
     simp only [spec_PlayNet.l0] at h
     go_upto_region 8 with (first | ((with_reducible refine gate_dst (N := 11) rfl ?_); refine boxev 11 #[.int .i64 0, .int .i64 0, .string (⟨#[]⟩ : ByteArray)] 53 ?_; intro b11 hg_ W_ ho_ hb_; replace HS := HS.box hg_ ho_ hb_; replace hx0 := nw_keepc hb_ hx0; replace hx1 := nw_keepc hb_ hx1; replace hx2 := nw_keepc hb_ hx2; clear hg_ ho_ hb_; obtain ⟨z110, z111, z112, f110, f111, f112⟩ := box3 (HS.blk 0)))
     clear z110 z111 z112 f110 f111 f112
     obtain ⟨W5_, e5_, H5_⟩ := (((HS.putI 0 0 (.int .i64 sa) #[.int .i64 sa, .int .i64 0, .string (⟨#[]⟩ : ByteArray)]).putI 0 1 (.int .i64 sb) #[.int .i64 sa, .int .i64 sb, .string (⟨#[]⟩ : ByteArray)]).putI 0 2 (.string sx) #[.int .i64 sa, .int .i64 sb, .string sx]).gen
     rw [e5_]
     clear HS e5_
     have HS := H5_
     clear H5_
     clear hx0 hx1 hx2
     replace h := bS h; obtain ⟨n1, T1, h⟩ := h
     replace h := bS h; obtain ⟨⟨n4, q⟩, T2, h⟩ := h
     dsimp only at h T2
     go_upto_region 8 with fail
     obtain ⟨z70, z71, z72, z73, z74, f70, f71, f72, f73, f74⟩ := box5 (HS.blk 2)
     obtain ⟨z110, z111, z112, f110, f111, f112⟩ := box3 (HS.blk 0)
     refine start_ (n := 10) (S := fun w' => w'.cell? ⟨b7, 0, none⟩ = some (.slice E0 n.ks.length f0) ∧ w'.cell? ⟨b7, 1, none⟩ = some (.slice E1 n.ps.length f1) ∧ w'.cell? ⟨b7, 2, none⟩ = some (.slice E2 n.ss.length f2) ∧ w'.cell? ⟨b7, 3, none⟩ = some (.slice E3 n.ib.length f3) ∧ w'.cell? ⟨b7, 4, none⟩ = some (.int .i64 n.sd) ∧ w'.cell? ⟨b11, 0, none⟩ = some (.int .i64 sa) ∧ w'.cell? ⟨b11, 1, none⟩ = some (.int .i64 sb) ∧ w'.cell? ⟨b11, 2, none⟩ = some (.string sx)) (ds := []) (bl 10 0) (by kernel_rfl) rfl rfl ⟨z70, z71, z72, z73, z74, z110, z111, z112⟩ (fun hHeld => ?_); refine with_tabW spec_PlayNet.tab8 spec_PlayNet.bits8 (fun HT_ HW_ => ?_)
     clear z70 z71 z72 z73 z74 f70 f71 f72 f73 f74 z110 z111 z112 f110 f111 f112
     replace HS := HS.drew
     generalize World.drew _ = W9_ at HS hHeld ⊢
     refine takeA 0 (some 34) 10 1 HT_ HW_ hHeld ?_ (hy := by rintro w' ⟨s0, s1, s2, s3, s4, s5, s6, s7⟩; go_simp; with_reducible rfl)
     refine takeA 2 (some 36) 10 5 HT_ HW_ hHeld ?_ (hy := by rintro w' ⟨s0, s1, s2, s3, s4, s5, s6, s7⟩; go_simp; with_reducible rfl)
     refine join_ (σ := Value × Value × Value × Value × Nat) 2 (bl 10 255) (fun s_ => [(35, .agg #[s_.1, s_.2.1, s_.2.2.1, s_.2.2.2.1, .int .i64 n1.sd]), (37, .tuple #[.agg #[s_.1, s_.2.1, s_.2.2.1, s_.2.2.2.1, .int .i64 n4.sd], .bool q]), (33, .tuple #[.agg #[s_.1, s_.2.1, s_.2.2.1, s_.2.2.2.1, .int .i64 n4.sd], .bool q]), (38, .agg #[s_.1, s_.2.1, s_.2.2.1, s_.2.2.2.1, .int .i64 n4.sd]), (39, .bool q), (12, .pointer (some ⟨s_.2.2.2.2, 0, none⟩))]) (fun s_ w' => Sep w w' (bA s_.2.2.2.2 #[.slice none 0 0, .slice none 0 0, .slice none 0 0, .slice none 0 0, .int .i64 0] 27 :: rA KI 3 s_.1 n4.ks :: sA KT 62 s_.2.1 n4.ps :: sA KT 62 s_.2.2.1 n4.ss :: sA KT 62 s_.2.2.2.1 n4.ib :: bA b11 #[.int .i64 sa, .int .i64 sb, .string sx] 53 :: rA Kd.bool 4 (.slice A9 d.length c9) d :: bA b7 #[.slice E0 n.ks.length f0, .slice E1 n.ps.length f1, .slice E2 n.ss.length f2, .slice E3 n.ib.length f3, .int .i64 n.sd] 27 :: bA b4 #[.slice none 0 0, .slice none 0 0, .slice none 0 0, .slice none 0 0, .int .i64 0] 27 :: rA KI 3 (.slice E0 n.ks.length f0) n.ks :: sA KT 62 (.slice E1 n.ps.length f1) n.ps :: sA KT 62 (.slice E2 n.ss.length f2) n.ss :: sA KT 62 (.slice E3 n.ib.length f3) n.ib :: [])) ?_ ?_
     rotate_left
     ·intro hCont
      refine two_ (i := 1) (j := 7) (Ni := some 35) (Nj := some 12) (bl 10 7) (bl 10 133) rfl rfl rfl rfl (by kernel_rfl) (by decide) (by decide) (fun K hK => ?_) (fun K hK => ?_)
      ·skip
       refine goes_ Tryz.func52 (by kernel_rfl) rfl #[.agg #[.slice E0 n.ks.length f0, .slice E1 n.ps.length f1, .slice E2 n.ss.length f2, .slice E3 n.ib.length f3, .int .i64 n.sd]] (by rfl) rfl rfl (by (try simp only [List.map_toArray, List.map_cons, List.map_nil]); first | done | rfl) ?_
       have HC_ := spec_l17Own.calls (n := n) (sepNc HS 4) T1.out
       refine HC_.mono ?_
       clear HC_ hHeld
       rintro e W_ ⟨u0, u1, u2, u3, rfl, hc_, hb_⟩
       refine ⟨_, rfl, ?_⟩
       replace HS := HS.news hb_ hc_
       clear hc_ hb_
       dsimp only [netA, List.cons_append, List.nil_append] at HS
       obtain ⟨z70, z71, z72, z73, z74, f70, f71, f72, f73, f74⟩ := box5 (HS.blk 6)
       obtain ⟨z110, z111, z112, f110, f111, f112⟩ := box3 (HS.blk 4)
       refine hK.out _ _ ⟨z70, z71, z72, z73, z74, z110, z111, z112⟩ (fun hHeld => ?_)
       clear hK K z70 z71 z72 z73 z74 f70 f71 f72 f73 f74 z110 z111 z112 f110 f111 f112
       refine norm_ (a' := ?_) ?_ ?_
       rotate_left
       ·show Act.put _ (some 35) _ = _
        simp only [Act.put, List.setIfInBounds_toArray, List.set_cons_zero, List.set_cons_succ, i64_w, i32_w]
        rfl
       refine two_ (i := 3) (j := 7) (Ni := some 37) (Nj := some 12) (bl 10 15) (bl 10 135) rfl rfl rfl rfl (by kernel_rfl) (by decide) (by decide) (fun K hK => ?_) (fun K hK => ?_)
       ·skip
        refine goes_ Tryz.func61 (by kernel_rfl) rfl #[.agg #[u0, u1, u2, u3, .int .i64 n1.sd], .agg #[.int .i64 sa, .int .i64 sb, .string sx]] (by rfl) rfl rfl (by (try simp only [List.map_toArray, List.map_cons, List.map_nil]); first | done | rfl) ?_
        have HC_ := spec_l17Step.calls (n := n1) (HS) T2.out
        refine HC_.mono ?_
        clear HC_ hHeld
        rintro e W_ ⟨rfl, HS'_⟩
        refine ⟨_, rfl, ?_⟩
        clear HS
        have HS := HS'_
        clear HS'_
        dsimp only [netA, List.cons_append, List.nil_append] at HS
        obtain ⟨z70, z71, z72, z73, z74, f70, f71, f72, f73, f74⟩ := box5 (HS.blk 6)
        obtain ⟨z110, z111, z112, f110, f111, f112⟩ := box3 (HS.blk 4)
        refine hK.out _ _ ⟨z70, z71, z72, z73, z74, z110, z111, z112⟩ (fun hHeld => ?_)
        clear hK K z70 z71 z72 z73 z74 f70 f71 f72 f73 f74 z110 z111 z112 f110 f111 f112
        refine norm_ (a' := ?_) ?_ ?_
        rotate_left
        ·show Act.put _ (some 37) _ = _
         simp only [Act.put, List.setIfInBounds_toArray, List.set_cons_zero, List.set_cons_succ, i64_w, i32_w]
         rfl
        refine pureA 4 (some 33) 10 31 HT_ ?_
        refine pureA 5 (some 38) 10 63 HT_ ?_
        refine pureA 6 (some 39) 10 127 HT_ ?_
        refine oneA 7 (some 12) 10 255 HT_ (fun K hK => ?_)
        clear hHeld
        refine box_step ?hg (N := 12) ?hd (cs := #[.slice none 0 0, .slice none 0 0, .slice none 0 0, .slice none 0 0, .int .i64 0]) (t := 27) ?hr ?_; (case hd => rfl); (case hg => rfl); (case hr => first | (go_simp; done) | (go_simp; rfl))
        intro b12 hg_ W_ ho_ hb_
        replace HS := HS.box hg_ ho_ hb_
        clear hg_ ho_ hb_
        obtain ⟨z70, z71, z72, z73, z74, f70, f71, f72, f73, f74⟩ := box5 (HS.blk 7)
        obtain ⟨z110, z111, z112, f110, f111, f112⟩ := box3 (HS.blk 5)
        refine hK.out _ _ ⟨z70, z71, z72, z73, z74, z110, z111, z112⟩ (fun hHeld => ?_)
        clear hK K z70 z71 z72 z73 z74 f70 f71 f72 f73 f74 z110 z111 z112 f110 f111 f112
        refine norm_ (a' := ?_) ?_ ?_
        rotate_left
        ·show Act.put _ (some 12) _ = _
         simp only [Act.put, List.setIfInBounds_toArray, List.set_cons_zero, List.set_cons_succ, i64_w, i32_w]
         rfl
        exact norm_ (by simp only [putAll, Act.put, List.setIfInBounds_toArray, List.set_cons_zero, List.set_cons_succ]) (hCont (u0, u1, u2, u3, b12) _ (HS))
       ·skip
        clear hHeld
        refine box_step ?hg (N := 12) ?hd (cs := #[.slice none 0 0, .slice none 0 0, .slice none 0 0, .slice none 0 0, .int .i64 0]) (t := 27) ?hr ?_; (case hd => rfl); (case hg => rfl); (case hr => first | (go_simp; done) | (go_simp; rfl))
        intro b12 hg_ W_ ho_ hb_
        replace HS := HS.box hg_ ho_ hb_
        clear hg_ ho_ hb_
        obtain ⟨z70, z71, z72, z73, z74, f70, f71, f72, f73, f74⟩ := box5 (HS.blk 7)
        obtain ⟨z110, z111, z112, f110, f111, f112⟩ := box3 (HS.blk 5)
        refine hK.out _ _ ⟨z70, z71, z72, z73, z74, z110, z111, z112⟩ (fun hHeld => ?_)
        clear hK K z70 z71 z72 z73 z74 f70 f71 f72 f73 f74 z110 z111 z112 f110 f111 f112
        refine norm_ (a' := ?_) ?_ ?_
        rotate_left
        ·show Act.put _ (some 12) _ = _
         simp only [Act.put, List.setIfInBounds_toArray, List.set_cons_zero, List.set_cons_succ, i64_w, i32_w]
         rfl
        refine oneA 3 (some 37) 10 143 HT_ (fun K hK => ?_)
        refine goes_ Tryz.func61 (by kernel_rfl) rfl #[.agg #[u0, u1, u2, u3, .int .i64 n1.sd], .agg #[.int .i64 sa, .int .i64 sb, .string sx]] (by rfl) rfl rfl (by (try simp only [List.map_toArray, List.map_cons, List.map_nil]); first | done | rfl) ?_
        have HC_ := spec_l17Step.calls (n := n1) (HS.fr4.fr4.fr4.fr4) T2.out
        refine HC_.mono ?_
        clear HC_ hHeld
        rintro e W_ ⟨rfl, HS'_⟩
        refine ⟨_, rfl, ?_⟩
        clear HS
        have HS := HS'_
        clear HS'_
        dsimp only [netA, List.cons_append, List.nil_append] at HS
        obtain ⟨z70, z71, z72, z73, z74, f70, f71, f72, f73, f74⟩ := box5 (HS.blk 7)
        obtain ⟨z110, z111, z112, f110, f111, f112⟩ := box3 (HS.blk 5)
        refine hK.out _ _ ⟨z70, z71, z72, z73, z74, z110, z111, z112⟩ (fun hHeld => ?_)
        clear hK K z70 z71 z72 z73 z74 f70 f71 f72 f73 f74 z110 z111 z112 f110 f111 f112
        refine norm_ (a' := ?_) ?_ ?_
        rotate_left
        ·show Act.put _ (some 37) _ = _
         simp only [Act.put, List.setIfInBounds_toArray, List.set_cons_zero, List.set_cons_succ, i64_w, i32_w]
         rfl
        refine pureA 4 (some 33) 10 159 HT_ ?_
        refine pureA 5 (some 38) 10 191 HT_ ?_
        refine pureA 6 (some 39) 10 255 HT_ ?_
        exact norm_ (by simp only [putAll, Act.put, List.setIfInBounds_toArray, List.set_cons_zero, List.set_cons_succ]) (hCont (u0, u1, u2, u3, b12) _ (HS.fr12.fr12.fr12.fr12.fr12.fr12.fr12.fr12.fr11.fr11.fr11.fr11.fr12))
      ·skip
       clear hHeld
       refine box_step ?hg (N := 12) ?hd (cs := #[.slice none 0 0, .slice none 0 0, .slice none 0 0, .slice none 0 0, .int .i64 0]) (t := 27) ?hr ?_; (case hd => rfl); (case hg => rfl); (case hr => first | (go_simp; done) | (go_simp; rfl))
       intro b12 hg_ W_ ho_ hb_
       replace HS := HS.box hg_ ho_ hb_
       clear hg_ ho_ hb_
       obtain ⟨z70, z71, z72, z73, z74, f70, f71, f72, f73, f74⟩ := box5 (HS.blk 3)
       obtain ⟨z110, z111, z112, f110, f111, f112⟩ := box3 (HS.blk 1)
       refine hK.out _ _ ⟨z70, z71, z72, z73, z74, z110, z111, z112⟩ (fun hHeld => ?_)
       clear hK K z70 z71 z72 z73 z74 f70 f71 f72 f73 f74 z110 z111 z112 f110 f111 f112
       refine norm_ (a' := ?_) ?_ ?_
       rotate_left
       ·show Act.put _ (some 12) _ = _
        simp only [Act.put, List.setIfInBounds_toArray, List.set_cons_zero, List.set_cons_succ, i64_w, i32_w]
        rfl
       refine oneA 1 (some 35) 10 135 HT_ (fun K hK => ?_)
       refine goes_ Tryz.func52 (by kernel_rfl) rfl #[.agg #[.slice E0 n.ks.length f0, .slice E1 n.ps.length f1, .slice E2 n.ss.length f2, .slice E3 n.ib.length f3, .int .i64 n.sd]] (by rfl) rfl rfl (by (try simp only [List.map_toArray, List.map_cons, List.map_nil]); first | done | rfl) ?_
       have HC_ := spec_l17Own.calls (n := n) (sepNc HS 5) T1.out
       refine HC_.mono ?_
       clear HC_ hHeld
       rintro e W_ ⟨u0, u1, u2, u3, rfl, hc_, hb_⟩
       refine ⟨_, rfl, ?_⟩
       replace HS := HS.news hb_ hc_
       clear hc_ hb_
       dsimp only [netA, List.cons_append, List.nil_append] at HS
       obtain ⟨z70, z71, z72, z73, z74, f70, f71, f72, f73, f74⟩ := box5 (HS.blk 7)
       obtain ⟨z110, z111, z112, f110, f111, f112⟩ := box3 (HS.blk 5)
       refine hK.out _ _ ⟨z70, z71, z72, z73, z74, z110, z111, z112⟩ (fun hHeld => ?_)
       clear hK K z70 z71 z72 z73 z74 f70 f71 f72 f73 f74 z110 z111 z112 f110 f111 f112
       refine norm_ (a' := ?_) ?_ ?_
       rotate_left
       ·show Act.put _ (some 35) _ = _
        simp only [Act.put, List.setIfInBounds_toArray, List.set_cons_zero, List.set_cons_succ, i64_w, i32_w]
        rfl
       refine oneA 3 (some 37) 10 143 HT_ (fun K hK => ?_)
       refine goes_ Tryz.func61 (by kernel_rfl) rfl #[.agg #[u0, u1, u2, u3, .int .i64 n1.sd], .agg #[.int .i64 sa, .int .i64 sb, .string sx]] (by rfl) rfl rfl (by (try simp only [List.map_toArray, List.map_cons, List.map_nil]); first | done | rfl) ?_
       have HC_ := spec_l17Step.calls (n := n1) (HS) T2.out
       refine HC_.mono ?_
       clear HC_ hHeld
       rintro e W_ ⟨rfl, HS'_⟩
       refine ⟨_, rfl, ?_⟩
       clear HS
       have HS := HS'_
       clear HS'_
       dsimp only [netA, List.cons_append, List.nil_append] at HS
       obtain ⟨z70, z71, z72, z73, z74, f70, f71, f72, f73, f74⟩ := box5 (HS.blk 7)
       obtain ⟨z110, z111, z112, f110, f111, f112⟩ := box3 (HS.blk 5)
       refine hK.out _ _ ⟨z70, z71, z72, z73, z74, z110, z111, z112⟩ (fun hHeld => ?_)
       clear hK K z70 z71 z72 z73 z74 f70 f71 f72 f73 f74 z110 z111 z112 f110 f111 f112
       refine norm_ (a' := ?_) ?_ ?_
       rotate_left
       ·show Act.put _ (some 37) _ = _
        simp only [Act.put, List.setIfInBounds_toArray, List.set_cons_zero, List.set_cons_succ, i64_w, i32_w]
        rfl
       refine pureA 4 (some 33) 10 159 HT_ ?_
       refine pureA 5 (some 38) 10 191 HT_ ?_
       refine pureA 6 (some 39) 10 255 HT_ ?_
       exact norm_ (by simp only [putAll, Act.put, List.setIfInBounds_toArray, List.set_cons_zero, List.set_cons_succ]) (hCont (u0, u1, u2, u3, b12) _ (HS.fr12.fr12.fr12.fr12.fr12.fr12.fr12.fr12.fr11.fr11.fr11.fr11.fr12))
     clear HS hHeld
     intro s_ W_ HS
     obtain ⟨u0, u1, u2, u3, b12⟩ := s_
     dsimp only at HS
     have hHeld := True.intro
     obtain ⟨B0', d0', rfl⟩ := HS.slR 1
     obtain ⟨B1', d1', rfl⟩ := HS.slS 2
     obtain ⟨B2', d2', rfl⟩ := HS.slS 3
     obtain ⟨B3', d3', rfl⟩ := HS.slS 4
     refine norm_ (a' := ?_) ?_ ?_
     rotate_left
     ·show putAll _ _ = _
      simp only [putAll, Act.put, List.setIfInBounds_toArray, List.set_cons_zero, List.set_cons_succ, i64_w, i32_w]
      rfl
     refine oneA 8 none 10 511 HT_ (fun K hK => ?_)
     clear hHeld
     obtain ⟨z120, z121, z122, z123, z124, f120, f121, f122, f123, f124⟩ := box5 (HS.blk 0)
     refine skip_ (w1 := ?_) (by rfl) rfl ?_ ?_
     rotate_left
     ·go_simp
      rfl
     replace HS := (((((HS.putI 0 0 (.slice B0' n4.ks.length d0') #[.slice B0' n4.ks.length d0', .slice none 0 0, .slice none 0 0, .slice none 0 0, .int .i64 0]).putI 0 1 (.slice B1' n4.ps.length d1') #[.slice B0' n4.ks.length d0', .slice B1' n4.ps.length d1', .slice none 0 0, .slice none 0 0, .int .i64 0]).putI 0 2 (.slice B2' n4.ss.length d2') #[.slice B0' n4.ks.length d0', .slice B1' n4.ps.length d1', .slice B2' n4.ss.length d2', .slice none 0 0, .int .i64 0]).putI 0 3 (.slice B3' n4.ib.length d3') #[.slice B0' n4.ks.length d0', .slice B1' n4.ps.length d1', .slice B2' n4.ss.length d2', .slice B3' n4.ib.length d3', .int .i64 0]).putI 0 4 (.int .i64 n4.sd) #[.slice B0' n4.ks.length d0', .slice B1' n4.ps.length d1', .slice B2' n4.ss.length d2', .slice B3' n4.ib.length d3', .int .i64 n4.sd])
     clear z120 z121 z122 z123 z124 f120 f121 f122 f123 f124
     obtain ⟨z70, z71, z72, z73, z74, f70, f71, f72, f73, f74⟩ := box5 (HS.blk 7)
     obtain ⟨z110, z111, z112, f110, f111, f112⟩ := box3 (HS.blk 5)
     refine hK.out _ _ ⟨z70, z71, z72, z73, z74, z110, z111, z112⟩ (fun hHeld => ?_)
     clear hK K z70 z71 z72 z73 z74 f70 f71 f72 f73 f74 z110 z111 z112 f110 f111 f112
     refine pureA 9 (some 13) 10 1023 HT_ ?_
     refine done_ (done_of HT_.out (by kernel_rfl)) ?_
     clear HT_ HW_ hHeld
     obtain ⟨z120, z121, z122, z123, z124, f120, f121, f122, f123, f124⟩ := box5 (HS.blk 0)
     obtain ⟨z70, z71, z72, z73, z74, f70, f71, f72, f73, f74⟩ := box5 (HS.blk 7)
     cases q with
     | false =>
      rw [if_neg (by decide)] at h
      go_wp2_with (first | ((with_reducible refine gate_dst (N := 44) rfl ?_); refine Kd.R_lit Kd.bool _ 4 ?hg (N := 44) ?hd (xs := ([false] : List Bool)) (inner := [.bool false]) (ok := fun _ => True) (okp := fun _ => True) ?hr ?hp (fun _ hk => hk) trivial (Below.refl _ _) (Nat.le_refl _) (by simp) ?_; (case hd => rfl); (case hg => rfl); (case hr => first | (go_simp; done) | (go_simp; rfl)); (case hp => exact (Reps.one (show Kd.M Kd.bool _ _ _ false [.bool false] from rfl) (Reps.none _ _))); intro vone W_ ho_ hb_ _ _; replace HS := HS.new (A := rA Kd.bool 4 vone ([false])) hb_ ho_; clear ho_ hb_; obtain ⟨A8, c8, rfl⟩ := HS.slR 0; clear z120 z121 z122 z123 z124 f120 f121 f122 f123 f124 z70 z71 z72 z73 z74 f70 f71 f72 f73 f74; obtain ⟨z70, z71, z72, z73, z74, f70, f71, f72, f73, f74⟩ := box5 (HS.blk 8)) | ((with_reducible refine gate_builtin (b := .append) (xs := #[.tmp 42, .tmp 44]) rfl ?_); at_builtin; have HU := (HS.rdR 0).2.2; replace HS := HS.fr7; refine Sep.appendW Kd.bool rfl (.tmp 42) (.tmp 44) 36 4 (.bool false) 1 rfl Tryz.underlying36 nw_infoB rfl (by decide) (by omega) (.slice A9 d.length c9) d [false] A8 1 c8 rfl rfl HS HU (fun _ _ _ _ h => h) (by have := LL.out; have := HD.out; omega) ?_; clear HS HU; intro v9' W_ HS; clear z70 z71 z72 z73 z74 f70 f71 f72 f73 f74; obtain ⟨z70, z71, z72, z73, z74, f70, f71, f72, f73, f74⟩ := box5 (HS.blk 8)))
      replace HS := HS.fr1.tail
      replace HS := HS.fr1.tail
      replace HS := HS.fr1.tail
      replace HS := HS.fr1.tail
      replace HS := HS.fr1.tail
      replace HS := HS.fr1.tail
      replace HS := HS.fr1.tail
      go_roundg (l.length - (j + 1))
      case measure => omega
      case rel => exact ⟨j + 1, _, _, _, _, _, _, nw_next hj (Nat.le_trans LL.out (by decide)), ⟨h⟩, hj, Nat.le_refl _, by rw [List.length_append, HD.out]; rfl, HS⟩
     | true =>
      rw [if_pos rfl] at h
      go_upto_region 11 with fail
      clear z120 z121 z122 z123 z124 f120 f121 f122 f123 f124 z70 z71 z72 z73 z74 f70 f71 f72 f73 f74
      obtain ⟨W5_, e5_, H5_⟩ := (((((HS.putI 7 0 (.slice B0' n4.ks.length d0') #[.slice B0' n4.ks.length d0', .slice E1 n.ps.length f1, .slice E2 n.ss.length f2, .slice E3 n.ib.length f3, .int .i64 n.sd]).putI 7 1 (.slice B1' n4.ps.length d1') #[.slice B0' n4.ks.length d0', .slice B1' n4.ps.length d1', .slice E2 n.ss.length f2, .slice E3 n.ib.length f3, .int .i64 n.sd]).putI 7 2 (.slice B2' n4.ss.length d2') #[.slice B0' n4.ks.length d0', .slice B1' n4.ps.length d1', .slice B2' n4.ss.length d2', .slice E3 n.ib.length f3, .int .i64 n.sd]).putI 7 3 (.slice B3' n4.ib.length d3') #[.slice B0' n4.ks.length d0', .slice B1' n4.ps.length d1', .slice B2' n4.ss.length d2', .slice B3' n4.ib.length d3', .int .i64 n.sd]).putI 7 4 (.int .i64 n4.sd) #[.slice B0' n4.ks.length d0', .slice B1' n4.ps.length d1', .slice B2' n4.ss.length d2', .slice B3' n4.ib.length d3', .int .i64 n4.sd]).gen
      rw [e5_]
      clear HS e5_
      have HS := H5_
      clear H5_
      obtain ⟨z70, z71, z72, z73, z74, f70, f71, f72, f73, f74⟩ := box5 (HS.blk 7)
      go_wp2_with (first | ((with_reducible refine gate_dst (N := 44) rfl ?_); refine Kd.R_lit Kd.bool _ 4 ?hg (N := 44) ?hd (xs := ([true] : List Bool)) (inner := [.bool true]) (ok := fun _ => True) (okp := fun _ => True) ?hr ?hp (fun _ hk => hk) trivial (Below.refl _ _) (Nat.le_refl _) (by simp) ?_; (case hd => rfl); (case hg => rfl); (case hr => first | (go_simp; done) | (go_simp; rfl)); (case hp => exact (Reps.one (show Kd.M Kd.bool _ _ _ true [.bool true] from rfl) (Reps.none _ _))); intro vone W_ ho_ hb_ _ _; replace HS := HS.new (A := rA Kd.bool 4 vone ([true])) hb_ ho_; clear ho_ hb_; obtain ⟨A8, c8, rfl⟩ := HS.slR 0; clear z70 z71 z72 z73 z74 f70 f71 f72 f73 f74; obtain ⟨z70, z71, z72, z73, z74, f70, f71, f72, f73, f74⟩ := box5 (HS.blk 8)) | ((with_reducible refine gate_builtin (b := .append) (xs := #[.tmp 42, .tmp 44]) rfl ?_); at_builtin; have HU := (HS.rdR 0).2.2; replace HS := HS.fr7; refine Sep.appendW Kd.bool rfl (.tmp 42) (.tmp 44) 36 4 (.bool false) 1 rfl Tryz.underlying36 nw_infoB rfl (by decide) (by omega) (.slice A9 d.length c9) d [true] A8 1 c8 rfl rfl HS HU (fun _ _ _ _ h => h) (by have := LL.out; have := HD.out; omega) ?_; clear HS HU; intro v9' W_ HS; clear z70 z71 z72 z73 z74 f70 f71 f72 f73 f74; obtain ⟨z70, z71, z72, z73, z74, f70, f71, f72, f73, f74⟩ := box5 (HS.blk 8)))
      replace HS := HS.fr1.tail
      replace HS := HS.fr1.tail
      replace HS := HS.fr5.tail
      replace HS := HS.fr7.tail
      replace HS := HS.fr7.tail
      replace HS := HS.fr7.tail
      replace HS := HS.fr7.tail
      go_roundg (l.length - (j + 1))
      case measure => omega
      case rel => exact ⟨j + 1, _, _, _, _, _, _, nw_next hj (Nat.le_trans LL.out (by decide)), ⟨h⟩, hj, Nat.le_refl _, by rw [List.length_append, HD.out]; rfl, HS.fr4.fr4.fr4.fr4.fr6.fr6.fr6⟩
    ·rw [List.drop_eq_nil_of_le (by omega)] at h
     simp only [spec_PlayNet.l0] at h
     obtain ⟨rfl, rfl⟩ := (Prod.mk.injEq _ _ _ _).mp (Option.some.inj h)
     clear h
     have hjb : decide ((j : Int) < (l.length : Int)) = false := decide_eq_false (by omega)
     obtain ⟨z70, z71, z72, z73, z74, f70, f71, f72, f73, f74⟩ := box5 (HS.blk 1)
     obtain ⟨z40, z41, z42, z43, z44, f40, f41, f42, f43, f44⟩ := box5 (HS.blk 2)
     go_wp2_with (first | (go_at_call 52; have HC_ := spec_l17Own.calls (n := n) (sepNc HS 3) T9.out; refine HC_.mono ?_; clear HC_; rintro e W_ ⟨z0, z1, z2, z3, rfl, hc_, hb_⟩; replace HS := HS.news hb_ hc_; clear hc_ hb_; dsimp only [netA, List.cons_append, List.nil_append] at HS; obtain ⟨B0', d0', rfl⟩ := HS.slR 0; obtain ⟨B1', d1', rfl⟩ := HS.slS 1; obtain ⟨B2', d2', rfl⟩ := HS.slS 2; obtain ⟨B3', d3', rfl⟩ := HS.slS 3; clear z70 z71 z72 z73 z74 f70 f71 f72 f73 f74 z40 z41 z42 z43 z44 f40 f41 f42 f43 f44; obtain ⟨z70, z71, z72, z73, z74, f70, f71, f72, f73, f74⟩ := box5 (HS.blk 5); obtain ⟨z40, z41, z42, z43, z44, f40, f41, f42, f43, f44⟩ := box5 (HS.blk 6)))
     have HF := HS.put5I 6 (.slice B0' n3.ks.length d0') (.slice B1' n3.ps.length d1') (.slice B2' n3.ss.length d2') (.slice B3' n3.ib.length d3') (.int .i64 n3.sd)
     refine bodyPost_ret (results_ctt rfl _ _ b4 27 #[.slice B0' n3.ks.length d0', .slice B1' n3.ps.length d1', .slice B2' n3.ss.length d2', .slice B3' n3.ib.length d3', .int .i64 n3.sd] (0, 0) _ rfl (by exact (HF.blk 6).out) Tryz.underlying27 rfl (by kernel_rfl)) rfl ?_
     replace HS := HF
     have HF := HS
     exact ⟨_, _, _, _, _, rfl, nw_played HF, HF.base⟩

/-! ### laws_toIntS: function 17 -/
def laws_toIntS.l0 : Nat → List Int → List Int → Int → Option (List Int)
  | 0, _, _, _ => none
  | k + 1, x0, x3, x4 => if x4 < (x0.length : Int) then (if 0 ≤ x4 then (if x4 < (x3.length : Int) then (laws_toIntS.l0 k x0 (x3.set (x4 : Int).toNat (rd x0 x4)) (wrap64 (x4 + 1))) else (none)) else (none)) else (some x3)
def laws_toIntS.f (k : Nat) (l0 : List Int) : Option (List Int) := if 0 ≤ (l0.length : Int) then (if ((l0.length : Int) : Int).toNat ≤ 35184372088832 then (laws_toIntS.l0 k l0 (List.replicate ((l0.length : Int) : Int).toNat 0) 0) else (none)) else (none)
theorem laws_toIntS.mono_l : ∀ k, (∀ y0 y1 y2, LeO (laws_toIntS.l0 k y0 y1 y2) (laws_toIntS.l0 (k + 1) y0 y1 y2))
 | 0 => fun _ _ _ r h => by simp [laws_toIntS.l0] at h
 | k + 1 => by
  have ih0 := laws_toIntS.mono_l k
  ·intro y0 y1 y2
   unfold laws_toIntS.l0
   repeat' (first | (with_reducible first | exact ih0 _ _ _ | exact LeO.refl _ | exact LeO.none _ | refine LeO.ite ?_ ?_ | refine LeO.bind ?_ (fun _ => ?_)) | exact ih0 _ _ _ | exact LeO.none _ | refine LeO.ite ?_ ?_ | refine LeO.bind ?_ (fun _ => ?_))
theorem laws_toIntS.mono : ∀ a0 k, LeO (laws_toIntS.f k a0) (laws_toIntS.f (k + 1) a0) := by
 intro a0 k
 have ih0 := laws_toIntS.mono_l k
 unfold laws_toIntS.f
 repeat' (first | (with_reducible first | exact ih0 _ _ _ | exact LeO.refl _ | exact LeO.none _ | refine LeO.ite ?_ ?_ | refine LeO.bind ?_ (fun _ => ?_)) | exact ih0 _ _ _ | exact LeO.none _ | refine LeO.ite ?_ ?_ | refine LeO.bind ?_ (fun _ => ?_))
set_option maxHeartbeats 8000000 in
set_option maxRecDepth 100000 in
theorem laws_toIntS.calls (k : Nat) (A0 : Option Addr) (c0 : Nat) (l0 : List Int) (r : List Int) (w : World) (hr0 : Kd.C (Kd.int .i64) w A0 l0.length l0) (hc0 : l0.length ≤ c0) (h : laws_toIntS.f k l0 = some r) :
  Calls Tryz.prog 17 #[.slice A0 l0.length c0] w fun e w' => ∃ v0_ : Value, e = .returned (v0_) ∧ Kd.R (Kd.int .i64) 3 w' w.heap.size (fun _ => True) v0_ r ∧ Below w.heap.size w w' := by
 have HR0 := Aside0.mk hr0; have HC0 := Aside0.mk hc0; clear hr0 hc0
 have HB := Aside0.mk (Below.refl w.heap.size w)
 have H : (if 0 ≤ (l0.length : Int) then (if ((l0.length : Int) : Int).toNat ≤ 35184372088832 then (laws_toIntS.l0 k l0 (List.replicate ((l0.length : Int) : Int).toNat 0) 0) else (none)) else (none)) = some r := h
 clear h; replace H := ifS H; obtain ⟨c2, H⟩ := H; have c2b0 := eq_true c2
 have c2b1 : decide (0 ≤ (l0.length : Int)) = true := decide_eq_true c2
 clear c2; replace H := ifS H; obtain ⟨c3, H⟩ := H; have c3b0 := eq_true c3
 have c3b1 : decide (((l0.length : Int) : Int).toNat ≤ 35184372088832) = true := decide_eq_true c3
 clear c3
 obtain ⟨y232, hy_⟩ : ∃ y_ : List Int, y_ = (List.replicate ((l0.length : Int) : Int).toNat 0) := ⟨_, rfl⟩
 replace H : (laws_toIntS.l0 k l0 y232 0) = some r := yH
 have Ny232 := ak hy_; clear hy_
 have H' := Aside0.mk H
 clear H
 go_enter Tryz.func17, Tryz.ntmps17
 go_wp2_with (first | ((with_reducible refine gate_dst (N := 7) rfl ?_); refine Kd.R_make (Kd.int .i64) _ 3 rfl (N := 7) rfl 22 _ _ rfl (l0.length : Int) rfl rfl Tryz.underlying22 (.int .i64 0) 8 info3 rfl (by decide) (by omega) 0 (ok := fun _ => True) (okp := fun _ => True) rfl (fun _ hk => hk) trivial (da) (Nat.le_trans (Nat.mul_le_mul_right _ (da : (l0.length : Int).toNat ≤ 35184372088832)) (by omega)) (Below.refl _ _) (Nat.le_refl _) ?_; intro v233 w4 ho5 hb hg_ hnew_; clear hg_ hnew_; (first | rw [← Ny232.out] at ho5 | (simp only [Int.reduceToNat] at ho5; rw [← Ny232.out] at ho5)); have HO234 := ak (Kd.R_lower ho5 (below_size (belowd HB))); replace HB := ak (below_step (belowd HB) hb); clear hb ho5))
 go_loopg [4] k (fun kq v4 w' => ∃ (x3_1 : List Int) (x4_1 : Int), v4 = .int .i64 x4_1 ∧ Aside0 (laws_toIntS.l0 kq l0 x3_1 x4_1 = some r) ∧ Aside0 (kq ≤ k) ∧ Aside0 (Kd.R (Kd.int .i64) 3 w' w.heap.size (fun _ => True) v233 x3_1) ∧ Aside0 (Below w.heap.size w w'))
 case atStart => exact ⟨(y232), (0), er, H', ⟨Nat.le_refl _⟩, ⟨rdl HO234⟩, ⟨belowd HB⟩⟩
 case round =>
  clear H'
  (try clear c2b0); (try clear c2b1); (try clear c3b0); (try clear c3b1)
  obtain ⟨x3_1, x4_1, rfl, HA, HK1, HO_3, HB⟩ := hrel
  cases gk with
  | zero => exact absurd HA.out (by simp [laws_toIntS.l0])
  | succ k1 =>
   have H := HA.out; clear HA
   simp only [laws_toIntS.l0] at H
   by_cases c6 : x4_1 < (l0.length : Int)
   ·rw [if_pos c6] at H
    have c6b0 : decide (x4_1 < (l0.length : Int)) = true := decide_eq_true c6
    clear c6; replace H := ifS H; obtain ⟨c7, H⟩ := H; have c7b0 := decide_eq_true c7; clear c7; replace H := ifS H; obtain ⟨c8, H⟩ := H; have c8b0 := decide_eq_true c8; clear c8
    obtain ⟨y236, hy_⟩ : ∃ y_ : List Int, y_ = (x3_1.set (x4_1 : Int).toNat (rd l0 x4_1)) := ⟨_, rfl⟩
    replace H : (laws_toIntS.l0 k1 l0 y236 (wrap64 (x4_1 + 1))) = some r := yH
    have Ny236 := ak hy_; clear hy_
    have H' := Aside0.mk H
    clear H
    have p235 : 0 ≤ (x4_1 : Int) := da
    have q235 : x4_1 < (l0.length : Int) := da
    obtain ⟨ad235, e235, hx235_0⟩ := Kd.at_int HR0.out x4_1 p235 q235
    cases e235
    replace hx235_0 := (HB.out.cell (World.block_lt_of_cell? w _ hx235_0)).trans hx235_0
    replace p235 := eq_true p235; replace q235 := eq_true q235
    have p9 : 0 ≤ (x4_1 : Int) := da
    have q9 : (x4_1 : Int) < ((x3_1.length : Int) : Int) := da
    obtain ⟨go9, co9, eo9, gb9, gl9, cl9, HG9⟩ := Kd.R_form HO_3.out (by omega)
    (first | cases eo9 | (injection eo9 with ea_ en_ ec_; (first | subst ea_ | (injection ea_ with ea_; subst ea_)); subst ec_; clear en_))
    have GB9 := Aside0.mk gb9; have GG9 := Aside0.mk HG9; clear gb9 gl9 HG9
    obtain ⟨hx9_0, hf9_0⟩ := Kd.R_celln 0 HO_3.out (x4_1 : Int) p9 q9
    replace p9 := eq_true p9; replace q9 := eq_true q9
    have HP10 := Kd.R_putg HO_3.out (x4_1 : Int) (rd l0 x4_1)
    go_wp2_with (first | ((with_reducible refine gate_store (t := 3) (p := 20) rfl ?_); refine store_event (t := 3) (p := 20) (v := ?vo_w11) (w1 := (wr.setCell ⟨go9, (x4_1 : Int).toNat, none⟩ (.int .i64 (rd l0 x4_1)))) ?hg ?ho ?hn ?hr ?_; (case ho => rfl); (case hg => rfl); (case hn => rfl); (case hr => first | (go_simp; done) | (go_simp; rfl)); intro w11 hw; have hg : wr.grownBy w11 (some go9) := (by rw [hw]; exact HP10.2); have hp_ : Kd.R (Kd.int .i64) 3 w11 w.heap.size (fun _ => True) (.slice (some ⟨go9, 0, none⟩) x3_1.length co9) y236 := (by rw [hw, Ny236.out]; exact HP10.1); clear HP10; replace HO_3 := ak (hp_); replace HB := ak ((by rw [hw]; exact below_set (HB.out) GB9.out : Below w.heap.size w w11)); clear hg hw hp_))
    go_roundg k1
    case measure => have := HK1.out; omega
    case rel => exact ⟨(y236), (wrap64 (x4_1 + 1)), er, H', ⟨by have := HK1.out; omega⟩, ⟨rdl HO_3⟩, ⟨belowd HB⟩⟩
   ·rw [if_neg c6] at H
    have c6b0 : decide (x4_1 < (l0.length : Int)) = false := decide_eq_false c6
    clear c6
    obtain rfl := Option.some.inj H
    go_wp2
    go_ret
    exact ⟨_, er2, by (with_reducible repeat (first | apply Kd.R_alloc | apply Kd.R_drewN | apply Kd.R_drew)); exact HO_3.out, belowd HB⟩

/-! ### laws_toNetStep: function 29 -/
def laws_toNetStep.f (a0_0 : Int) (a0_1 : Int) (a0_2 : ByteArray) : Option (Int × Int × ByteArray) := some (a0_0, a0_1, a0_2)
set_option maxHeartbeats 8000000 in
set_option maxRecDepth 100000 in
theorem laws_toNetStep.calls (a0_0 : Int) (a0_1 : Int) (a0_2 : ByteArray) (r1 : Int) (r2 : Int) (r3 : ByteArray) (w : World) (h : laws_toNetStep.f a0_0 a0_1 a0_2 = some (r1, r2, r3)) :
  Calls Tryz.prog 29 #[.agg #[.int .i64 a0_0, .int .i64 a0_1, .string a0_2]] w fun e w' => e = .returned (.agg #[.int .i64 r1, .int .i64 r2, .string r3]) ∧ Below w.heap.size w w' := by
 have hu50 := Tryz.underlying50
 have hu53 := Tryz.underlying53
 have HB := Aside0.mk (Below.refl w.heap.size w)
 have H : (some (a0_0, a0_1, a0_2)) = some (r1, r2, r3) := h
 clear h
 simp only [Option.some.injEq, Prod.mk.injEq] at H
 obtain ⟨rfl, rfl, rfl⟩ := H
 go_enter Tryz.func29, Tryz.ntmps29
 go_wp2_with (first | ((with_reducible refine gate_dst (N := 1) rfl ?_); refine boxev 1 #[.int .i64 a0_0, .int .i64 a0_1, .string a0_2] 50 ?_; intro gb237 hg w2 hbox hb; have BK237 := ak (hbox); have GW237 := ak (hgl hg (belowd HB)); have GE237 := ak (hgl hg (belowd HB)); replace HB := ak (below_step (belowd HB) hb); clear hb hbox hg) | ((with_reducible refine gate_dst (N := 2) rfl ?_); refine box_event ?hg (N := 2) ?hd (cs := #[.int .i64 0, .int .i64 0, .string (⟨#[]⟩ : ByteArray)]) (t := 53) ?hr ?_; (case hd => rfl); (case hg => rfl); (case hr => first | (go_simp; done) | (go_simp; rfl)); intro gb238 hg w3 hbox hb; have BK238 := ak (hbox); have GW238 := ak (hgl hg (belowg1 HB GE237)); have GE238 := ak (hgl hg (belowg1 HB GE237)); replace HB := ak (below_step (belowg1 HB GE237) hb); have NB237_238 := ak ((by rw [hg]; exact Nat.ne_of_lt (blk_lt (blkd BK237)) : gb237 ≠ gb238)); have NB238_237 := ak ((by rw [hg]; exact Nat.ne_of_gt (blk_lt (blkd BK237)) : gb238 ≠ gb237)); replace BK237 := ak (blk_below (blkd BK237) hb); clear hb hbox hg) | ((with_reducible refine gate_dst (N := 3) rfl ?_); refine box_event ?hg (N := 3) ?hd (cs := #[.int .i64 0, .int .i64 0, .string (⟨#[]⟩ : ByteArray)]) (t := 53) ?hr ?_; (case hd => rfl); (case hg => rfl); (case hr => first | (go_simp; done) | (go_simp; rfl)); intro gb239 hg w4 hbox hb; have BK239 := ak (hbox); have GW239 := ak (hgl hg (belowg2 HB GE237 GE238)); have GE239 := ak (hgl hg (belowg2 HB GE237 GE238)); replace HB := ak (below_step (belowg2 HB GE237 GE238) hb); have NB237_239 := ak ((by rw [hg]; exact Nat.ne_of_lt (blk_lt (blkd BK237)) : gb237 ≠ gb239)); have NB239_237 := ak ((by rw [hg]; exact Nat.ne_of_gt (blk_lt (blkd BK237)) : gb239 ≠ gb237)); replace BK237 := ak (blk_below (blkd BK237) hb); have NB238_239 := ak ((by rw [hg]; exact Nat.ne_of_lt (blk_lt (g := gb238) (o := .cells #[.int .i64 0, .int .i64 0, .string (⟨#[]⟩ : ByteArray)] 53 (0, 0)) (blkd BK238)) : gb238 ≠ gb239)); have NB239_238 := ak ((by rw [hg]; exact Nat.ne_of_gt (blk_lt (g := gb238) (o := .cells #[.int .i64 0, .int .i64 0, .string (⟨#[]⟩ : ByteArray)] 53 (0, 0)) (blkd BK238)) : gb239 ≠ gb238)); replace BK238 := ak (blk_below (g := gb238) (o := .cells #[.int .i64 0, .int .i64 0, .string (⟨#[]⟩ : ByteArray)] 53 (0, 0)) (blkd BK238) hb); clear hb hbox hg; have hnb5 := NB237_238.out; have hnc5 := NB238_237.out; have hnb6 := NB237_239.out; have hnc6 := NB239_237.out; obtain ⟨hcz7_0, hcz7_1, hcz7_2, hfz7_0, hfz7_1, hfz7_2⟩ := box3 BK237; have hnb8 := NB239_238.out; have hnc8 := NB238_239.out; obtain ⟨hcz9_0, hcz9_1, hcz9_2, hfz9_0, hfz9_1, hfz9_2⟩ := box3 BK239; obtain ⟨hcz10_0, hcz10_1, hcz10_2, hfz10_0, hfz10_1, hfz10_2⟩ := box3 BK238))
 refine bodyPost_ret (results_cell_row rfl _ _ gb238 53 #[.int .i64 a0_0, .int .i64 a0_1, .string a0_2] (0, 0) _ rfl (by (with_reducible repeat (first | refine blk_drewN ?_ _ | refine blk_drew ?_ | refine blk_alloc ?_ _)); refine blk_put (cs := #[.int .i64 a0_0, .int .i64 a0_1, .string (⟨#[]⟩ : ByteArray)]) ?_ 2 _ rfl; (with_reducible repeat (first | refine blk_drewN ?_ _ | refine blk_drew ?_ | refine blk_alloc ?_ _)); refine blk_put (cs := #[.int .i64 a0_0, .int .i64 0, .string (⟨#[]⟩ : ByteArray)]) ?_ 1 _ rfl; (with_reducible repeat (first | refine blk_drewN ?_ _ | refine blk_drew ?_ | refine blk_alloc ?_ _)); refine blk_put (cs := #[.int .i64 0, .int .i64 0, .string (⟨#[]⟩ : ByteArray)]) ?_ 0 _ rfl; (with_reducible repeat (first | refine blk_drewN ?_ _ | refine blk_drew ?_ | refine blk_alloc ?_ _)); refine blk_far ?_ NB238_239.out _; (with_reducible repeat (first | refine blk_drewN ?_ _ | refine blk_drew ?_ | refine blk_alloc ?_ _)); refine blk_far ?_ NB238_239.out _; (with_reducible repeat (first | refine blk_drewN ?_ _ | refine blk_drew ?_ | refine blk_alloc ?_ _)); refine blk_far ?_ NB238_239.out _; (with_reducible repeat (first | refine blk_drewN ?_ _ | refine blk_drew ?_ | refine blk_alloc ?_ _)); exact BK238.out) Tryz.underlying53 rfl (by kernel_rfl)) rfl ?_
 exact ⟨er2, belowg3 HB GE237 GE238 GE239⟩

end Go.Proofs.YtihekdlcfohkkaaGreatDoor.QFnExactPlayNet
