-- printed by this session's own program (wip/tools/pp.py: the kit's print.py with changes); Lean checks it
import Derived.Test.YtihekdlcfohkkaaGreatDoorQFnExactStepNetx0
import Derived.Test.YtihekdlcfohkkaaGreatDoorQFnExactStepNetx1
import Derived.Test.YtihekdlcfohkkaaGreatDoorQFnExactStepNetx3
import Derived.Test.YtihekdlcfohkkaaGreatDoorQFnExactStepNetx4
import Derived.Test.YtihekdlcfohkkaaGreatDoorQFnExactStepNetx5
import Derived.Test.YtihekdlcfohkkaaGreatDoorQFnExactStepNetx6
namespace Go.Proofs.YtihekdlcfohkkaaGreatDoor.QFnExactStepNet
open Go.RowKit Go.Proofs.YtihekdlcfohkkaaGreatDoorW.PrintWords Go.Proofs.YtihekdlcfohkkaaGreatDoorW.PrintLast Go.Proofs.YtihekdlcfohkkaaGreatDoorW.PrintMore
attribute [local go_sem] max2_int min2_int max_two min_two max_three min_three max_four min_four strLss strGtr strLeq strGeq   -- for this text's walks alone
set_option linter.unusedVariables false
set_option linter.unusedSimpArgs false

/-! ### spec_l17Say: function 96 -/
def spec_l17Say.g (k : Nat) (n : Nt) (u : Int) (t : ByteArray) (H : List Int) : Option (Nt × Bool) := (if 0 ≤ wrap64 ((H.length : Int) - 1) ∧ wrap64 ((H.length : Int) - 1) < (H.length : Int) then (spec_BuildOnion.f k n.ks (H.set (wrap64 ((H.length : Int) - 1)).toNat (wrap64 (u + 2))) (strOfNums [wrap64 (n.sd + 1) % 256] ++ t)).bind fun (s, o) => if o = true then (spec_l17Come.f k ⟨n.ks, n.ps, n.ss, n.ib, wrap64 (n.sd + 1)⟩ 0 s).bind fun m => some (m, true) else none else none)
def spec_l17Say.f (k : Nat) (n : Nt) (u : Int) (t : ByteArray) : Option (Nt × Bool) := (spec_l1In.f u 0 3).bind fun c => if c = false then some (n, false) else if 14 < (t.size : Int) then some (n, false) else if n.sd = 60 then some (n, false) else if n.ks.length ≤ 1048576 then spec_l17Say.g k n u t (List.replicate n.ks.length 1) else none
set_option maxHeartbeats 16000000 in
set_option maxRecDepth 100000 in
theorem spec_l17Say.calls {k : Nat} {v0 v1 v2 v3 : Value} {n m : Nt} {u : Int} {t : ByteArray} {r : Bool} {L : List SA} {w0 w : World} (hs : Sep w0 w (netA v0 v1 v2 v3 n ++ L)) (h : spec_l17Say.f k n u t = some (m, r)) :
    Calls Tryz.prog 96 #[.agg #[v0, v1, v2, v3, .int .i64 n.sd], .int .i64 u, .string t] w fun e w' => e = .returned (.tuple #[.agg #[v0, v1, v2, v3, .int .i64 m.sd], .bool r]) ∧ Sep w0 w' (netA v0 v1 v2 v3 m ++ L) := by
 have hu27 := Tryz.underlying27
 obtain ⟨ks, ps, ss, ib, sd⟩ := n
 have HS : Sep w0 w (rA KI 3 v0 ks :: sA KT 62 v1 ps :: sA KT 62 v2 ss :: sA KT 62 v3 ib :: L) := hs
 clear hs
 unfold spec_l17Say.f at h
 dsimp only at h ⊢
 obtain ⟨A0, c0, rfl⟩ := HS.slR 0
 obtain ⟨A1, c1, rfl⟩ := HS.slS 1
 obtain ⟨A2, c2, rfl⟩ := HS.slS 2
 obtain ⟨A3, c3, rfl⟩ := HS.slS 3
 replace h := bS h; obtain ⟨c, T1, h⟩ := h
 cases c with
 | false =>
  rw [if_pos rfl] at h
  skip
  obtain ⟨rfl, rfl⟩ := (Prod.mk.injEq _ _ _ _).mp (Option.some.inj h)
  clear h
  go_enter Tryz.func96, Tryz.ntmps96
  go_wp2_with (first | ((with_reducible refine gate_dst (N := 3) rfl ?_); refine boxev 3 #[.slice A0 ks.length c0, .slice A1 ps.length c1, .slice A2 ss.length c2, .slice A3 ib.length c3, .int .i64 sd] 27 ?_; intro b3 hg_ W_ ho_ hb_; replace HS := HS.box hg_ ho_ hb_; clear hg_ ho_ hb_; obtain ⟨z30, z31, z32, z33, z34, f30, f31, f32, f33, f34⟩ := box5 (HS.blk 0)) | ((with_reducible refine gate_dst (N := 6) rfl ?_); refine boxev 6 #[.slice none 0 0, .slice none 0 0, .slice none 0 0, .slice none 0 0, .int .i64 0] 27 ?_; intro b6 hg_ W_ ho_ hb_; replace HS := HS.box hg_ ho_ hb_; clear hg_ ho_ hb_; clear z30 z31 z32 z33 z34 f30 f31 f32 f33 f34; obtain ⟨z60, z61, z62, z63, z64, f60, f61, f62, f63, f64⟩ := box5 (HS.blk 0); clear z60 z61 z62 z63 z64 f60 f61 f62 f63 f64; obtain ⟨z60, z61, z62, z63, z64, f60, f61, f62, f63, f64⟩ := box5 (HS.blk 0); obtain ⟨z30, z31, z32, z33, z34, f30, f31, f32, f33, f34⟩ := box5 (HS.blk 1)) | (go_at_call 79; refine (spec_l1In.calls _ _ _ _ _ T1.out).mono ?_; rintro e W_ ⟨rfl, nd_, rfl⟩; replace HS := HS.drewN nd_; generalize World.drewN _ nd_ = W_ at HS ⊢; clear z60 z61 z62 z63 z64 f60 f61 f62 f63 f64 z30 z31 z32 z33 z34 f30 f31 f32 f33 f34; obtain ⟨z60, z61, z62, z63, z64, f60, f61, f62, f63, f64⟩ := box5 (HS.blk 0); obtain ⟨z30, z31, z32, z33, z34, f30, f31, f32, f33, f34⟩ := box5 (HS.blk 1)))
  have HF := HS.put5I 0 (.slice A0 ks.length c0) (.slice A1 ps.length c1) (.slice A2 ss.length c2) (.slice A3 ib.length c3) (.int .i64 sd)
  refine bodyPost_ret (results_ct rfl _ _ b6 27 #[.slice A0 ks.length c0, .slice A1 ps.length c1, .slice A2 ss.length c2, .slice A3 ib.length c3, .int .i64 sd] (0, 0) _ rfl (by exact (HF.blk 0).out) Tryz.underlying27 rfl (by kernel_rfl)) rfl ?_
  replace HS := HF
  replace HS := HS.tail
  replace HS := HS.tail
  exact ⟨rfl, HS⟩
 | true =>
  rw [if_neg (by decide)] at h
  by_cases c1_ : 14 < (t.size : Int)
  ·rw [if_pos c1_] at h
   have cb1 : decide (14 < (t.size : Int)) = true := decide_eq_true c1_
   clear c1_
   obtain ⟨rfl, rfl⟩ := (Prod.mk.injEq _ _ _ _).mp (Option.some.inj h)
   clear h
   go_enter Tryz.func96, Tryz.ntmps96
   go_wp2_with (first | ((with_reducible refine gate_dst (N := 3) rfl ?_); refine boxev 3 #[.slice A0 ks.length c0, .slice A1 ps.length c1, .slice A2 ss.length c2, .slice A3 ib.length c3, .int .i64 sd] 27 ?_; intro b3 hg_ W_ ho_ hb_; replace HS := HS.box hg_ ho_ hb_; clear hg_ ho_ hb_; obtain ⟨z30, z31, z32, z33, z34, f30, f31, f32, f33, f34⟩ := box5 (HS.blk 0)) | ((with_reducible refine gate_dst (N := 6) rfl ?_); refine boxev 6 #[.slice none 0 0, .slice none 0 0, .slice none 0 0, .slice none 0 0, .int .i64 0] 27 ?_; intro b6 hg_ W_ ho_ hb_; replace HS := HS.box hg_ ho_ hb_; clear hg_ ho_ hb_; clear z30 z31 z32 z33 z34 f30 f31 f32 f33 f34; obtain ⟨z60, z61, z62, z63, z64, f60, f61, f62, f63, f64⟩ := box5 (HS.blk 0); clear z60 z61 z62 z63 z64 f60 f61 f62 f63 f64; obtain ⟨z60, z61, z62, z63, z64, f60, f61, f62, f63, f64⟩ := box5 (HS.blk 0); obtain ⟨z30, z31, z32, z33, z34, f30, f31, f32, f33, f34⟩ := box5 (HS.blk 1)) | (go_at_call 79; refine (spec_l1In.calls _ _ _ _ _ T1.out).mono ?_; rintro e W_ ⟨rfl, nd_, rfl⟩; replace HS := HS.drewN nd_; generalize World.drewN _ nd_ = W_ at HS ⊢; clear z60 z61 z62 z63 z64 f60 f61 f62 f63 f64 z30 z31 z32 z33 z34 f30 f31 f32 f33 f34; obtain ⟨z60, z61, z62, z63, z64, f60, f61, f62, f63, f64⟩ := box5 (HS.blk 0); obtain ⟨z30, z31, z32, z33, z34, f30, f31, f32, f33, f34⟩ := box5 (HS.blk 1)))
   have HF := HS.put5I 0 (.slice A0 ks.length c0) (.slice A1 ps.length c1) (.slice A2 ss.length c2) (.slice A3 ib.length c3) (.int .i64 sd)
   refine bodyPost_ret (results_ct rfl _ _ b6 27 #[.slice A0 ks.length c0, .slice A1 ps.length c1, .slice A2 ss.length c2, .slice A3 ib.length c3, .int .i64 sd] (0, 0) _ rfl (by exact (HF.blk 0).out) Tryz.underlying27 rfl (by kernel_rfl)) rfl ?_
   replace HS := HF
   replace HS := HS.tail
   replace HS := HS.tail
   exact ⟨rfl, HS⟩
  ·rw [if_neg c1_] at h
   have cb1 : decide (14 < (t.size : Int)) = false := decide_eq_false c1_
   have hts : t.size ≤ 14 := by omega
   clear c1_
   by_cases c2_ : sd = 60
   ·rw [if_pos c2_] at h
    have cb2 : (sd == 60) = true := beq_iff_eq.2 c2_
    clear c2_
    obtain ⟨rfl, rfl⟩ := (Prod.mk.injEq _ _ _ _).mp (Option.some.inj h)
    clear h
    go_enter Tryz.func96, Tryz.ntmps96
    go_wp2_with (first | ((with_reducible refine gate_dst (N := 3) rfl ?_); refine boxev 3 #[.slice A0 ks.length c0, .slice A1 ps.length c1, .slice A2 ss.length c2, .slice A3 ib.length c3, .int .i64 sd] 27 ?_; intro b3 hg_ W_ ho_ hb_; replace HS := HS.box hg_ ho_ hb_; clear hg_ ho_ hb_; obtain ⟨z30, z31, z32, z33, z34, f30, f31, f32, f33, f34⟩ := box5 (HS.blk 0)) | ((with_reducible refine gate_dst (N := 6) rfl ?_); refine boxev 6 #[.slice none 0 0, .slice none 0 0, .slice none 0 0, .slice none 0 0, .int .i64 0] 27 ?_; intro b6 hg_ W_ ho_ hb_; replace HS := HS.box hg_ ho_ hb_; clear hg_ ho_ hb_; clear z30 z31 z32 z33 z34 f30 f31 f32 f33 f34; obtain ⟨z60, z61, z62, z63, z64, f60, f61, f62, f63, f64⟩ := box5 (HS.blk 0); clear z60 z61 z62 z63 z64 f60 f61 f62 f63 f64; obtain ⟨z60, z61, z62, z63, z64, f60, f61, f62, f63, f64⟩ := box5 (HS.blk 0); obtain ⟨z30, z31, z32, z33, z34, f30, f31, f32, f33, f34⟩ := box5 (HS.blk 1)) | (go_at_call 79; refine (spec_l1In.calls _ _ _ _ _ T1.out).mono ?_; rintro e W_ ⟨rfl, nd_, rfl⟩; replace HS := HS.drewN nd_; generalize World.drewN _ nd_ = W_ at HS ⊢; clear z60 z61 z62 z63 z64 f60 f61 f62 f63 f64 z30 z31 z32 z33 z34 f30 f31 f32 f33 f34; obtain ⟨z60, z61, z62, z63, z64, f60, f61, f62, f63, f64⟩ := box5 (HS.blk 0); obtain ⟨z30, z31, z32, z33, z34, f30, f31, f32, f33, f34⟩ := box5 (HS.blk 1)))
    have HF := HS.put5I 0 (.slice A0 ks.length c0) (.slice A1 ps.length c1) (.slice A2 ss.length c2) (.slice A3 ib.length c3) (.int .i64 sd)
    refine bodyPost_ret (results_ct rfl _ _ b6 27 #[.slice A0 ks.length c0, .slice A1 ps.length c1, .slice A2 ss.length c2, .slice A3 ib.length c3, .int .i64 sd] (0, 0) _ rfl (by exact (HF.blk 0).out) Tryz.underlying27 rfl (by kernel_rfl)) rfl ?_
    replace HS := HF
    replace HS := HS.tail
    replace HS := HS.tail
    exact ⟨rfl, HS⟩
   ·rw [if_neg c2_] at h
    have cb2 : (sd == 60) = false := beq_eq_false_iff_ne.2 c2_
    clear c2_
    replace h := ifS h; obtain ⟨hkl, h⟩ := h
    have KL := ak hkl; clear hkl
    have H' := ak h; clear h
    go_enter Tryz.func96, Tryz.ntmps96
    go_upto_region 5 with (first | ((with_reducible refine gate_dst (N := 3) rfl ?_); refine boxev 3 #[.slice A0 ks.length c0, .slice A1 ps.length c1, .slice A2 ss.length c2, .slice A3 ib.length c3, .int .i64 sd] 27 ?_; intro b3 hg_ W_ ho_ hb_; replace HS := HS.box hg_ ho_ hb_; clear hg_ ho_ hb_; obtain ⟨z30, z31, z32, z33, z34, f30, f31, f32, f33, f34⟩ := box5 (HS.blk 0)) | ((with_reducible refine gate_dst (N := 6) rfl ?_); refine boxev 6 #[.slice none 0 0, .slice none 0 0, .slice none 0 0, .slice none 0 0, .int .i64 0] 27 ?_; intro b6 hg_ W_ ho_ hb_; replace HS := HS.box hg_ ho_ hb_; clear hg_ ho_ hb_; clear z30 z31 z32 z33 z34 f30 f31 f32 f33 f34; obtain ⟨z60, z61, z62, z63, z64, f60, f61, f62, f63, f64⟩ := box5 (HS.blk 0); clear z60 z61 z62 z63 z64 f60 f61 f62 f63 f64; obtain ⟨z60, z61, z62, z63, z64, f60, f61, f62, f63, f64⟩ := box5 (HS.blk 0); obtain ⟨z30, z31, z32, z33, z34, f30, f31, f32, f33, f34⟩ := box5 (HS.blk 1)) | (go_at_call 79; refine (spec_l1In.calls _ _ _ _ _ T1.out).mono ?_; rintro e W_ ⟨rfl, nd_, rfl⟩; replace HS := HS.drewN nd_; generalize World.drewN _ nd_ = W_ at HS ⊢; clear z60 z61 z62 z63 z64 f60 f61 f62 f63 f64 z30 z31 z32 z33 z34 f30 f31 f32 f33 f34; obtain ⟨z60, z61, z62, z63, z64, f60, f61, f62, f63, f64⟩ := box5 (HS.blk 0); obtain ⟨z30, z31, z32, z33, z34, f30, f31, f32, f33, f34⟩ := box5 (HS.blk 1)))
    clear z60 z61 z62 z63 z64 f60 f61 f62 f63 f64 z30 z31 z32 z33 z34 f30 f31 f32 f33 f34
    replace HS := HS.nilrow KI 3
    go_loopg [8, 28] ks.length (fun kq v8 v28 w' => ∃ (j : Nat) (H : List Int), v28 = .int .i64 (j : Int) ∧ H = List.replicate j 1 ∧ j ≤ ks.length ∧ ks.length - j ≤ kq ∧ Sep w0 w' (rA KI 3 v8 H :: bA b3 #[.slice A0 ks.length c0, .slice A1 ps.length c1, .slice A2 ss.length c2, .slice A3 ib.length c3, .int .i64 sd] 27 :: bA b6 #[.slice none 0 0, .slice none 0 0, .slice none 0 0, .slice none 0 0, .int .i64 0] 27 :: rA KI 3 (.slice A0 ks.length c0) ks :: sA KT 62 (.slice A1 ps.length c1) ps :: sA KT 62 (.slice A2 ss.length c2) ss :: sA KT 62 (.slice A3 ib.length c3) ib :: L))
    case atStart => exact ⟨0, [], rfl, rfl, Nat.zero_le _, Nat.le_refl _, HS.fr6.fr6.fr6.fr6.fr5.fr6.fr6⟩
    case round =>
     clear HS
     obtain ⟨j, H, rfl, hHj, j1, j2, HS⟩ := hrel
     by_cases hj : j < ks.length
     ·have hjb : decide ((j : Int) < (ks.length : Int)) = true := decide_eq_true (by omega)
      obtain ⟨A8, c8, rfl⟩ := HS.slR 0
      go_wp2_with (first | ((with_reducible refine gate_dst (N := 31) rfl ?_); refine Kd.R_lit KI _ 3 ?hg (N := 31) ?hd (xs := ([1] : List Int)) (inner := [.int .i64 1]) (ok := fun _ => True) (okp := fun _ => True) ?hr ?hp (fun _ hk => hk) trivial (Below.refl _ _) (Nat.le_refl _) (by simp) ?_; (case hd => rfl); (case hg => rfl); (case hr => first | (go_simp; done) | (go_simp; rfl)); (case hp => exact (Reps.one (show Kd.M KI _ _ _ 1 [.int .i64 1] from rfl) (Reps.none _ _))); intro vone W_ ho_ hb_ _ _; replace HS := HS.new (A := rA KI 3 vone ([1])) hb_ ho_; clear ho_ hb_; obtain ⟨A9, c9, rfl⟩ := HS.slR 0) | ((with_reducible refine gate_builtin (b := .append) (xs := #[.tmp 30, .tmp 31]) rfl ?_); at_builtin; have HU := (HS.rdR 0).2.2; replace HS := HS.fr1; refine Sep.appendW KI rfl (.tmp 30) (.tmp 31) 22 3 (.int .i64 0) 8 rfl Tryz.underlying22 info3 rfl (by decide) (by omega) (.slice A8 H.length c8) H [1] A9 1 c9 rfl rfl HS HU (fun _ _ _ _ h => h) (nw_hops hHj j1 KL.out) ?_; clear HS HU; intro v8' W_ HS))
      replace HS := HS.fr1.tail
      go_roundg (ks.length - (j + 1))
      case measure => omega
      case rel => exact ⟨j + 1, _, nw_next hj KL.out, (by rw [hHj, List.replicate_succ']), hj, Nat.le_refl _, HS⟩
     ·obtain rfl : j = ks.length := by omega
      have hjb : decide ((ks.length : Int) < (ks.length : Int)) = false := decide_eq_false (by omega)
      have h := H'.out; clear H'
      rw [← hHj] at h
      clear hHj j1 j2 hj KL
      unfold spec_l17Say.g at h
      dsimp only at h
      replace h := ifS h; obtain ⟨⟨hi0, hi1⟩, h⟩ := h
      obtain ⟨gH, qH, rfl⟩ := HS.addrR 0 (hx := by omega)
      obtain ⟨hHc, hHf⟩ := HS.rfree 0 (wrap64 ((H.length : Int) - 1)) hi0 hi1
      generalize hi_ : wrap64 ((H.length : Int) - 1) = i at h hi0 hi1 hHc hHf
      have pi0 : (0 ≤ i) = True := eq_true hi0
      have pi1 : (i < (H.length : Int)) = True := eq_true hi1
      go_upto_region 9 with fail
      clear hHc hHf pi0 pi1
      replace HS := HS.rput i (wrap64 (u + 2))
      obtain ⟨W5_, e5_, H5_⟩ := HS.gen
      rw [e5_]
      clear HS e5_
      have HS := H5_
      clear H5_
      generalize hG : H.set i.toNat (wrap64 (u + 2)) = G at HS h
      have hGl : G.length = H.length := by rw [← hG, List.length_set]
      rw [← hGl] at HS
      simp only [← hGl]
      clear hi_ hi0 hi1 hG hGl
      obtain ⟨B, hB⟩ : ∃ B, strOfNums [wrap64 (sd + 1) % 256] = B := ⟨_, rfl⟩
      rw [hB] at h
      have hBs : B.size = 1 := by rw [← hB]; rfl
      have hs1 : decide (B.size + t.size ≤ 9223372036854775807) = true := decide_eq_true (by omega)
      have hs2 : (9223372036854775807 < B.size + t.size) = False := eq_false (by omega)
      clear hBs
      obtain ⟨z30, z31, z32, z33, z34, f30, f31, f32, f33, f34⟩ := box5 (HS.blk 1)
      go_upto_region 10 with fail
      clear z30 z31 z32 z33 z34 f30 f31 f32 f33 f34
      obtain ⟨W5_, e5_, H5_⟩ := (HS.putI 1 4 (.int .i64 (wrap64 (sd + 1))) #[.slice A0 ks.length c0, .slice A1 ps.length c1, .slice A2 ss.length c2, .slice A3 ib.length c3, .int .i64 (wrap64 (sd + 1))]).gen
      rw [e5_]
      clear HS e5_
      have HS := H5_
      clear H5_
      replace h := bS h; obtain ⟨⟨s, o⟩, T2, h⟩ := h
      replace h := ifS h; obtain ⟨rfl, h⟩ := h
      replace h := bS h; obtain ⟨⟨ks1, ps1, ss1, ib1, sd1⟩, T3, h⟩ := h
      obtain ⟨e1, e2, e3⟩ := spec_l17Come.keeps T3.out
      dsimp only at e1 e2 e3
      replace e1 := e1.symm; replace e2 := e2.symm; replace e3 := e3.symm
      subst e1 e2 e3
      obtain ⟨rfl, rfl⟩ := (Prod.mk.injEq _ _ _ _).mp (Option.some.inj h)
      clear h
      obtain ⟨z60, z61, z62, z63, z64, f60, f61, f62, f63, f64⟩ := box5 (HS.blk 2)
      obtain ⟨z30, z31, z32, z33, z34, f30, f31, f32, f33, f34⟩ := box5 (HS.blk 1)
      go_wp2_with (first | ((with_reducible refine gate_dst (N := 52) rfl ?_); refine Kd.R_lit (Kd.int .u8) _ 5 ?hg (N := 52) ?hd (xs := ([wrap64 (sd + 1) % 256] : List Int)) (inner := [.int .u8 (wrap64 (sd + 1) % 256)]) (ok := fun _ => True) (okp := fun _ => True) ?hr ?hp (fun _ hk => hk) trivial (Below.refl _ _) (Nat.le_refl _) (by simp) ?_; (case hd => rfl); (case hg => rfl); (case hr => first | (go_simp; done) | (go_simp; rfl)); (case hp => exact (Reps.one (show Kd.M (Kd.int .u8) _ _ _ (wrap64 (sd + 1) % 256) [.int .u8 (wrap64 (sd + 1) % 256)] from rfl) (Reps.none _ _))); intro vby W_ ho_ hb_ _ _; replace HS := HS.new (A := rA (Kd.int .u8) 5 vby ([wrap64 (sd + 1) % 256])) hb_ ho_; clear ho_ hb_; have hcv := HS.text 0 (P := Tryz.prog) Tryz.underlying56 Tryz.underlying5 Tryz.underlying9; rw [hB] at hcv; clear z60 z61 z62 z63 z64 f60 f61 f62 f63 f64 z30 z31 z32 z33 z34 f30 f31 f32 f33 f34; obtain ⟨z60, z61, z62, z63, z64, f60, f61, f62, f63, f64⟩ := box5 (HS.blk 3); obtain ⟨z30, z31, z32, z33, z34, f30, f31, f32, f33, f34⟩ := box5 (HS.blk 2)) | (go_at_call 116; have HC_ := spec_BuildOnion.calls k _ _ ks _ _ G (B ++ t) s true _ (HS.rdR 4).2.2 (HS.rdR 4).2.1 (HS.rdR 1).2.2 (HS.rdR 1).2.1 T2.out; refine HC_.mono ?_; clear HC_; rintro e W_ ⟨rfl, hb_⟩; replace HS := HS.below hb_; clear hb_ hcv; clear z60 z61 z62 z63 z64 f60 f61 f62 f63 f64 z30 z31 z32 z33 z34 f30 f31 f32 f33 f34; obtain ⟨z60, z61, z62, z63, z64, f60, f61, f62, f63, f64⟩ := box5 (HS.blk 3); obtain ⟨z30, z31, z32, z33, z34, f30, f31, f32, f33, f34⟩ := box5 (HS.blk 2)) | (go_at_call 89; have HC_ := spec_l17Come.calls (n := ⟨ks, ps, ss, ib, wrap64 (sd + 1)⟩) (HS.fr7.fr7.fr7.fr7) T3.out; refine HC_.mono ?_; clear HC_; rintro e W_ ⟨rfl, HS'_⟩; clear HS; have HS := HS'_; clear HS'_; dsimp only [netA, List.cons_append, List.nil_append] at HS; clear z60 z61 z62 z63 z64 f60 f61 f62 f63 f64 z30 z31 z32 z33 z34 f30 f31 f32 f33 f34; obtain ⟨z60, z61, z62, z63, z64, f60, f61, f62, f63, f64⟩ := box5 (HS.blk 7); obtain ⟨z30, z31, z32, z33, z34, f30, f31, f32, f33, f34⟩ := box5 (HS.blk 6)))
      have HF := HS.put5I 7 (.slice A0 ks.length c0) (.slice A1 ps.length c1) (.slice A2 ss.length c2) (.slice A3 ib.length c3) (.int .i64 (wrap64 (sd + 1)))
      refine bodyPost_ret (results_ct rfl _ _ b6 27 #[.slice A0 ks.length c0, .slice A1 ps.length c1, .slice A2 ss.length c2, .slice A3 ib.length c3, .int .i64 (wrap64 (sd + 1))] (0, 0) _ rfl (by exact (HF.blk 7).out) Tryz.underlying27 rfl (by kernel_rfl)) rfl ?_
      replace HS := HF
      replace HS := HS.fr4.tail
      replace HS := HS.fr4.tail
      replace HS := HS.fr4.tail
      replace HS := HS.fr4.tail
      exact ⟨rfl, HS⟩

/-! ### spec_l17Step: function 61 -/
def spec_l17Step.T7 : Bool × List (List Nat × List Nat) := (true, [([], []), ([0], [0]), ([1], [1]), ([2], [2]), ([3], [3]), ([4, 3], [3, 4]), ([3], [3]), ([6, 3], [3, 6]), ([7, 3], [3, 7]), ([8, 3], [3, 8]), ([9, 3], [3, 9]), ([5, 10, 3], [3, 5, 10]), ([3, 11], [3, 11]), ([12, 3], [12])])
def spec_l17Step.B7 : List Nat := [0, 1, 3, 7, 15, 31, 15, 79, 207, 463, 975, 2047, 4095, 8191]
theorem spec_l17Step.tab7 : rtab .any (opsOf Tryz.f61 7) = spec_l17Step.T7 := by kernel_rfl
theorem spec_l17Step.bits7 : waitsOk spec_l17Step.T7.2 spec_l17Step.B7 = true := by kernel_rfl
def spec_l17Step.T8 : Bool × List (List Nat × List Nat) := (true, [([], []), ([], []), ([1], [1]), ([2], [2]), ([3], [3]), ([], []), ([5], [5]), ([4, 6], [4, 6]), ([7], [7]), ([0, 8], [0, 8]), ([9, 9, 0, 1, 2, 3, 4, 5, 6, 7, 8, 9], [9]), ([10, 0, 1, 2, 3, 4, 5, 6, 7, 8, 9, 10], [])])
def spec_l17Step.B8 : List Nat := [0, 0, 2, 6, 14, 0, 32, 126, 254, 511, 1023, 2047]
theorem spec_l17Step.tab8 : rtab .any (opsOf Tryz.f61 8) = spec_l17Step.T8 := by kernel_rfl
theorem spec_l17Step.bits8 : waitsOk spec_l17Step.T8.2 spec_l17Step.B8 = true := by kernel_rfl
def spec_l17Step.f (k : Nat) (n : Nt) (a b : Int) (x : ByteArray) : Option (Nt × Bool) := if a = 1 then spec_l17Say.f k n b x else if x = (⟨#[]⟩ : ByteArray) then (if b < 0 then some (n, false) else if a = 2 then (if b < (n.ks.length : Int) then (spec_l17Tick.f k n b).bind fun m => some (m, true) else some (n, false)) else if a = 3 then (if 0 < n.ss.length then (if b < ((n.ss.getD 0 []).length : Int) then (spec_l17Come.f k n 0 (rdOf ByteArray.empty (n.ss.getD 0 []) b)).bind fun m => some (m, true) else some (n, false)) else none) else some (n, false)) else some (n, false)
set_option maxHeartbeats 16000000 in
set_option maxRecDepth 100000 in
theorem spec_l17Step.calls {k : Nat} {v0 v1 v2 v3 : Value} {n m : Nt} {a b : Int} {x : ByteArray} {r : Bool} {L : List SA} {w0 w : World} (hs : Sep w0 w (netA v0 v1 v2 v3 n ++ L)) (h : spec_l17Step.f k n a b x = some (m, r)) :
    Calls Tryz.prog 61 #[.agg #[v0, v1, v2, v3, .int .i64 n.sd], .agg #[.int .i64 a, .int .i64 b, .string x]] w fun e w' => e = .returned (.tuple #[.agg #[v0, v1, v2, v3, .int .i64 m.sd], .bool r]) ∧ Sep w0 w' (netA v0 v1 v2 v3 m ++ L) := by
 have hu27 := Tryz.underlying27
 have hu53 := Tryz.underlying53
 obtain ⟨ks, ps, ss, ib, sd⟩ := n
 have HS : Sep w0 w (rA KI 3 v0 ks :: sA KT 62 v1 ps :: sA KT 62 v2 ss :: sA KT 62 v3 ib :: L) := hs
 clear hs
 unfold spec_l17Step.f at h
 dsimp only at h ⊢
 obtain ⟨A0, c0, rfl⟩ := HS.slR 0
 obtain ⟨A1, c1, rfl⟩ := HS.slS 1
 obtain ⟨A2, c2, rfl⟩ := HS.slS 2
 obtain ⟨A3, c3, rfl⟩ := HS.slS 3
 by_cases a1 : a = 1
 ·rw [if_pos a1] at h
  subst a1
  obtain ⟨ks1, ps1, ss1, ib1, sd1⟩ := m
  have T1 := ak h; clear h
  go_enter Tryz.func61, Tryz.ntmps61
  go_wp2_with (first | ((with_reducible refine gate_dst (N := 2) rfl ?_); refine boxev 2 #[.slice A0 ks.length c0, .slice A1 ps.length c1, .slice A2 ss.length c2, .slice A3 ib.length c3, .int .i64 sd] 27 ?_; intro b2 hg_ W_ ho_ hb_; replace HS := HS.box hg_ ho_ hb_; clear hg_ ho_ hb_; obtain ⟨z20, z21, z22, z23, z24, f20, f21, f22, f23, f24⟩ := box5 (HS.blk 0)) | ((with_reducible refine gate_dst (N := 3) rfl ?_); refine boxev 3 #[.int .i64 1, .int .i64 b, .string x] 53 ?_; intro b3 hg_ W_ ho_ hb_; replace HS := HS.box hg_ ho_ hb_; clear hg_ ho_ hb_; clear z20 z21 z22 z23 z24 f20 f21 f22 f23 f24; obtain ⟨z30, z31, z32, f30, f31, f32⟩ := box3 (HS.blk 0)) | ((with_reducible refine gate_dst (N := 4) rfl ?_); refine boxev 4 #[.slice none 0 0, .slice none 0 0, .slice none 0 0, .slice none 0 0, .int .i64 0] 27 ?_; intro b4 hg_ W_ ho_ hb_; replace HS := HS.box hg_ ho_ hb_; clear hg_ ho_ hb_; clear z30 z31 z32 f30 f31 f32; obtain ⟨z40, z41, z42, z43, z44, f40, f41, f42, f43, f44⟩ := box5 (HS.blk 0); clear z40 z41 z42 z43 z44 f40 f41 f42 f43 f44; obtain ⟨z40, z41, z42, z43, z44, f40, f41, f42, f43, f44⟩ := box5 (HS.blk 0); obtain ⟨z30, z31, z32, f30, f31, f32⟩ := box3 (HS.blk 1); obtain ⟨z20, z21, z22, z23, z24, f20, f21, f22, f23, f24⟩ := box5 (HS.blk 2)) | (go_at_call 96; have HC_ := spec_l17Say.calls (n := ⟨ks, ps, ss, ib, sd⟩) (HS.fr6.fr6.fr6.fr6) T1.out; refine HC_.mono ?_; clear HC_; rintro e W_ ⟨rfl, HS'_⟩; clear HS; have HS := HS'_; clear HS'_; dsimp only [netA, List.cons_append, List.nil_append] at HS; clear z40 z41 z42 z43 z44 f40 f41 f42 f43 f44 z30 z31 z32 f30 f31 f32 z20 z21 z22 z23 z24 f20 f21 f22 f23 f24; obtain ⟨z40, z41, z42, z43, z44, f40, f41, f42, f43, f44⟩ := box5 (HS.blk 4); obtain ⟨z30, z31, z32, f30, f31, f32⟩ := box3 (HS.blk 5); obtain ⟨z20, z21, z22, z23, z24, f20, f21, f22, f23, f24⟩ := box5 (HS.blk 6)))
  have HF := HS.put5I 4 (.slice A0 ks.length c0) (.slice A1 ps.length c1) (.slice A2 ss.length c2) (.slice A3 ib.length c3) (.int .i64 sd1)
  refine bodyPost_ret (results_ct rfl _ _ b4 27 #[.slice A0 ks.length c0, .slice A1 ps.length c1, .slice A2 ss.length c2, .slice A3 ib.length c3, .int .i64 sd1] (0, 0) _ rfl (by exact (HF.blk 4).out) Tryz.underlying27 rfl (by kernel_rfl)) rfl ?_
  replace HS := HF
  replace HS := HS.fr4.tail
  replace HS := HS.fr4.tail
  replace HS := HS.fr4.tail
  exact ⟨rfl, HS⟩
 ·rw [if_neg a1] at h
  have ha1 : (a == 1) = false := beq_eq_false_iff_ne.2 a1
  by_cases hx : x = (⟨#[]⟩ : ByteArray)
  ·rw [if_pos hx] at h
   subst hx
   by_cases hb : b < 0
   ·rw [if_pos hb] at h
    have hbb : decide (b < 0) = true := decide_eq_true hb
    clear hb a1
    obtain ⟨rfl, rfl⟩ := (Prod.mk.injEq _ _ _ _).mp (Option.some.inj h)
    clear h
    go_enter Tryz.func61, Tryz.ntmps61
    go_wp2_with (first | ((with_reducible refine gate_dst (N := 2) rfl ?_); refine boxev 2 #[.slice A0 ks.length c0, .slice A1 ps.length c1, .slice A2 ss.length c2, .slice A3 ib.length c3, .int .i64 sd] 27 ?_; intro b2 hg_ W_ ho_ hb_; replace HS := HS.box hg_ ho_ hb_; clear hg_ ho_ hb_; obtain ⟨z20, z21, z22, z23, z24, f20, f21, f22, f23, f24⟩ := box5 (HS.blk 0)) | ((with_reducible refine gate_dst (N := 3) rfl ?_); refine boxev 3 #[.int .i64 a, .int .i64 b, .string (⟨#[]⟩ : ByteArray)] 53 ?_; intro b3 hg_ W_ ho_ hb_; replace HS := HS.box hg_ ho_ hb_; clear hg_ ho_ hb_; clear z20 z21 z22 z23 z24 f20 f21 f22 f23 f24; obtain ⟨z30, z31, z32, f30, f31, f32⟩ := box3 (HS.blk 0)) | ((with_reducible refine gate_dst (N := 4) rfl ?_); refine boxev 4 #[.slice none 0 0, .slice none 0 0, .slice none 0 0, .slice none 0 0, .int .i64 0] 27 ?_; intro b4 hg_ W_ ho_ hb_; replace HS := HS.box hg_ ho_ hb_; clear hg_ ho_ hb_; clear z30 z31 z32 f30 f31 f32; obtain ⟨z40, z41, z42, z43, z44, f40, f41, f42, f43, f44⟩ := box5 (HS.blk 0); clear z40 z41 z42 z43 z44 f40 f41 f42 f43 f44; obtain ⟨z40, z41, z42, z43, z44, f40, f41, f42, f43, f44⟩ := box5 (HS.blk 0); obtain ⟨z30, z31, z32, f30, f31, f32⟩ := box3 (HS.blk 1); obtain ⟨z20, z21, z22, z23, z24, f20, f21, f22, f23, f24⟩ := box5 (HS.blk 2)))
    have HF := HS.put5I 0 (.slice A0 ks.length c0) (.slice A1 ps.length c1) (.slice A2 ss.length c2) (.slice A3 ib.length c3) (.int .i64 sd)
    refine bodyPost_ret (results_ct rfl _ _ b4 27 #[.slice A0 ks.length c0, .slice A1 ps.length c1, .slice A2 ss.length c2, .slice A3 ib.length c3, .int .i64 sd] (0, 0) _ rfl (by exact (HF.blk 0).out) Tryz.underlying27 rfl (by kernel_rfl)) rfl ?_
    replace HS := HF
    replace HS := HS.tail
    replace HS := HS.tail
    replace HS := HS.tail
    exact ⟨rfl, HS⟩
   ·rw [if_neg hb] at h
    have hbb : decide (b < 0) = false := decide_eq_false hb
    have b0_ : 0 ≤ b := by omega
    clear hb
    by_cases a2 : a = 2
    ·rw [if_pos a2] at h
     subst a2
     clear a1 ha1
     by_cases hl : b < (ks.length : Int)
     ·rw [if_pos hl] at h
      have hlb : decide (b < (ks.length : Int)) = true := decide_eq_true hl
      clear hl
      replace h := bS h; obtain ⟨⟨ks1, ps1, ss1, ib1, sd1⟩, T1, h⟩ := h
      obtain ⟨e1, e3⟩ := spec_l17Tick.keeps T1.out
      dsimp only at e1 e3
      replace e1 := e1.symm; replace e3 := e3.symm
      subst e1 e3
      obtain ⟨rfl, rfl⟩ := (Prod.mk.injEq _ _ _ _).mp (Option.some.inj h)
      clear h
      go_enter Tryz.func61, Tryz.ntmps61
      go_wp2_with (first | ((with_reducible refine gate_dst (N := 2) rfl ?_); refine boxev 2 #[.slice A0 ks.length c0, .slice A1 ps.length c1, .slice A2 ss.length c2, .slice A3 ib.length c3, .int .i64 sd] 27 ?_; intro b2 hg_ W_ ho_ hb_; replace HS := HS.box hg_ ho_ hb_; clear hg_ ho_ hb_; obtain ⟨z20, z21, z22, z23, z24, f20, f21, f22, f23, f24⟩ := box5 (HS.blk 0)) | ((with_reducible refine gate_dst (N := 3) rfl ?_); refine boxev 3 #[.int .i64 2, .int .i64 b, .string (⟨#[]⟩ : ByteArray)] 53 ?_; intro b3 hg_ W_ ho_ hb_; replace HS := HS.box hg_ ho_ hb_; clear hg_ ho_ hb_; clear z20 z21 z22 z23 z24 f20 f21 f22 f23 f24; obtain ⟨z30, z31, z32, f30, f31, f32⟩ := box3 (HS.blk 0)) | ((with_reducible refine gate_dst (N := 4) rfl ?_); refine boxev 4 #[.slice none 0 0, .slice none 0 0, .slice none 0 0, .slice none 0 0, .int .i64 0] 27 ?_; intro b4 hg_ W_ ho_ hb_; replace HS := HS.box hg_ ho_ hb_; clear hg_ ho_ hb_; clear z30 z31 z32 f30 f31 f32; obtain ⟨z40, z41, z42, z43, z44, f40, f41, f42, f43, f44⟩ := box5 (HS.blk 0); clear z40 z41 z42 z43 z44 f40 f41 f42 f43 f44; obtain ⟨z40, z41, z42, z43, z44, f40, f41, f42, f43, f44⟩ := box5 (HS.blk 0); obtain ⟨z30, z31, z32, f30, f31, f32⟩ := box3 (HS.blk 1); obtain ⟨z20, z21, z22, z23, z24, f20, f21, f22, f23, f24⟩ := box5 (HS.blk 2)) | (go_at_call 53; have HC_ := spec_l17Tick.calls (n := ⟨ks, ps, ss, ib, sd⟩) (HS.fr6.fr6.fr6.fr6) T1.out; refine HC_.mono ?_; clear HC_; rintro e W_ ⟨rfl, HS'_⟩; clear HS; have HS := HS'_; clear HS'_; dsimp only [netA, List.cons_append, List.nil_append] at HS; clear z40 z41 z42 z43 z44 f40 f41 f42 f43 f44 z30 z31 z32 f30 f31 f32 z20 z21 z22 z23 z24 f20 f21 f22 f23 f24; obtain ⟨z40, z41, z42, z43, z44, f40, f41, f42, f43, f44⟩ := box5 (HS.blk 4); obtain ⟨z30, z31, z32, f30, f31, f32⟩ := box3 (HS.blk 5); obtain ⟨z20, z21, z22, z23, z24, f20, f21, f22, f23, f24⟩ := box5 (HS.blk 6)))
      have HF := HS.put5I 4 (.slice A0 ks.length c0) (.slice A1 ps.length c1) (.slice A2 ss.length c2) (.slice A3 ib.length c3) (.int .i64 sd)
      refine bodyPost_ret (results_ct rfl _ _ b4 27 #[.slice A0 ks.length c0, .slice A1 ps.length c1, .slice A2 ss.length c2, .slice A3 ib.length c3, .int .i64 sd] (0, 0) _ rfl (by exact (HF.blk 4).out) Tryz.underlying27 rfl (by kernel_rfl)) rfl ?_
      replace HS := HF
      replace HS := HS.fr4.tail
      replace HS := HS.fr4.tail
      replace HS := HS.fr4.tail
      exact ⟨rfl, HS⟩
     ·rw [if_neg hl] at h
      have hlb : decide (b < (ks.length : Int)) = false := decide_eq_false hl
      clear hl
      obtain ⟨rfl, rfl⟩ := (Prod.mk.injEq _ _ _ _).mp (Option.some.inj h)
      clear h
      go_enter Tryz.func61, Tryz.ntmps61
      go_upto_region 7 with (first | ((with_reducible refine gate_dst (N := 2) rfl ?_); refine boxev 2 #[.slice A0 ks.length c0, .slice A1 ps.length c1, .slice A2 ss.length c2, .slice A3 ib.length c3, .int .i64 sd] 27 ?_; intro b2 hg_ W_ ho_ hb_; replace HS := HS.box hg_ ho_ hb_; clear hg_ ho_ hb_; obtain ⟨z20, z21, z22, z23, z24, f20, f21, f22, f23, f24⟩ := box5 (HS.blk 0)) | ((with_reducible refine gate_dst (N := 3) rfl ?_); refine boxev 3 #[.int .i64 2, .int .i64 b, .string (⟨#[]⟩ : ByteArray)] 53 ?_; intro b3 hg_ W_ ho_ hb_; replace HS := HS.box hg_ ho_ hb_; clear hg_ ho_ hb_; clear z20 z21 z22 z23 z24 f20 f21 f22 f23 f24; obtain ⟨z30, z31, z32, f30, f31, f32⟩ := box3 (HS.blk 0)) | ((with_reducible refine gate_dst (N := 4) rfl ?_); refine boxev 4 #[.slice none 0 0, .slice none 0 0, .slice none 0 0, .slice none 0 0, .int .i64 0] 27 ?_; intro b4 hg_ W_ ho_ hb_; replace HS := HS.box hg_ ho_ hb_; clear hg_ ho_ hb_; clear z30 z31 z32 f30 f31 f32; obtain ⟨z40, z41, z42, z43, z44, f40, f41, f42, f43, f44⟩ := box5 (HS.blk 0); clear z40 z41 z42 z43 z44 f40 f41 f42 f43 f44; obtain ⟨z40, z41, z42, z43, z44, f40, f41, f42, f43, f44⟩ := box5 (HS.blk 0); obtain ⟨z30, z31, z32, f30, f31, f32⟩ := box3 (HS.blk 1); obtain ⟨z20, z21, z22, z23, z24, f20, f21, f22, f23, f24⟩ := box5 (HS.blk 2)))
      go_upto_region 7 with fail
      clear z40 z41 z42 z43 z44 f40 f41 f42 f43 f44 z30 z31 z32 f30 f31 f32 z20 z21 z22 z23 z24 f20 f21 f22 f23 f24
      obtain ⟨z40, z41, z42, z43, z44, f40, f41, f42, f43, f44⟩ := box5 (HS.blk 0)
      obtain ⟨z30, z31, z32, f30, f31, f32⟩ := box3 (HS.blk 1)
      obtain ⟨z20, z21, z22, z23, z24, f20, f21, f22, f23, f24⟩ := box5 (HS.blk 2)
      refine start_ (n := 14) (S := fun w' => w'.cell? ⟨b4, 0, none⟩ = some (.slice none 0 0) ∧ w'.cell? ⟨b4, 1, none⟩ = some (.slice none 0 0) ∧ w'.cell? ⟨b4, 2, none⟩ = some (.slice none 0 0) ∧ w'.cell? ⟨b4, 3, none⟩ = some (.slice none 0 0) ∧ w'.cell? ⟨b4, 4, none⟩ = some (.int .i64 0) ∧ w'.cell? ⟨b3, 0, none⟩ = some (.int .i64 2) ∧ w'.cell? ⟨b3, 1, none⟩ = some (.int .i64 b) ∧ w'.cell? ⟨b3, 2, none⟩ = some (.string (⟨#[]⟩ : ByteArray)) ∧ w'.cell? ⟨b2, 0, none⟩ = some (.slice A0 ks.length c0) ∧ w'.cell? ⟨b2, 1, none⟩ = some (.slice A1 ps.length c1) ∧ w'.cell? ⟨b2, 2, none⟩ = some (.slice A2 ss.length c2) ∧ w'.cell? ⟨b2, 3, none⟩ = some (.slice A3 ib.length c3) ∧ w'.cell? ⟨b2, 4, none⟩ = some (.int .i64 sd)) (ds := []) (bl 14 0) (by kernel_rfl) rfl rfl ⟨z40, z41, z42, z43, z44, z30, z31, z32, z20, z21, z22, z23, z24⟩ (fun hHeld => ?_); refine with_tabW spec_l17Step.tab7 spec_l17Step.bits7 (fun HT_ HW_ => ?_)
      clear z40 z41 z42 z43 z44 f40 f41 f42 f43 f44 z30 z31 z32 f30 f31 f32 z20 z21 z22 z23 z24 f20 f21 f22 f23 f24
      replace HS := HS.drew
      generalize World.drew _ = W9_ at HS hHeld ⊢
      refine pureA 0 (some 45) 14 1 HT_ ?_
      refine takeA 1 (some 46) 14 3 HT_ HW_ hHeld ?_ (hy := by rintro w' ⟨s0, s1, s2, s3, s4, s5, s6, s7, s8, s9, s10, s11, s12⟩; go_simp; with_reducible rfl)
      refine pureA 2 (some 47) 14 7 HT_ ?_
      refine pureA 3 (some 48) 14 15 HT_ ?_
      try simp only [show ((2 : Int) == 3) = false from rfl]
      refine pureB 4 (some 49) 14 31 HT_ ?_
      refine pureB 5 (some 50) 14 63 HT_ ?_
      refine pureB 6 (some 51) 14 127 HT_ ?_
      refine pureB 7 (some 52) 14 255 HT_ ?_
      refine pureB 8 (some 53) 14 511 HT_ ?_
      refine pureB 9 (some 54) 14 1023 HT_ ?_
      refine pureB 10 (some 55) 14 2047 HT_ ?_
      refine pureB 11 (some 56) 14 4095 HT_ ?_
      refine pureA 12 (some 57) 14 8191 HT_ ?_
      refine pureA 13 (some 44) 14 16383 HT_ ?_
      refine done_ (done_of HT_.out (by kernel_rfl)) ?_
      clear HT_ HW_ hHeld
      obtain ⟨z40, z41, z42, z43, z44, f40, f41, f42, f43, f44⟩ := box5 (HS.blk 0)
      obtain ⟨z30, z31, z32, f30, f31, f32⟩ := box3 (HS.blk 1)
      obtain ⟨z20, z21, z22, z23, z24, f20, f21, f22, f23, f24⟩ := box5 (HS.blk 2)
      go_wp2
      have HF := HS.put5I 0 (.slice A0 ks.length c0) (.slice A1 ps.length c1) (.slice A2 ss.length c2) (.slice A3 ib.length c3) (.int .i64 sd)
      refine bodyPost_ret (results_ct rfl _ _ b4 27 #[.slice A0 ks.length c0, .slice A1 ps.length c1, .slice A2 ss.length c2, .slice A3 ib.length c3, .int .i64 sd] (0, 0) _ rfl (by exact (HF.blk 0).out) Tryz.underlying27 rfl (by kernel_rfl)) rfl ?_
      replace HS := HF
      replace HS := HS.tail
      replace HS := HS.tail
      replace HS := HS.tail
      exact ⟨rfl, HS⟩
    ·rw [if_neg a2] at h
     have ha2 : (a == 2) = false := beq_eq_false_iff_ne.2 a2
     by_cases a3 : a = 3
     ·rw [if_pos a3] at h
      subst a3
      clear a1 ha1 a2 ha2
      replace h := ifS h; obtain ⟨hs0, h⟩ := h
      obtain ⟨g2, q2, e⟩ := HS.addr 2 (hx := hs0)
      obtain rfl : A2 = some ⟨g2, 0, none⟩ := by injection e
      clear e
      have j0 : (0 : Int) ≤ 0 := Int.le_refl 0
      have j1 : (0 : Int) < (ss.length : Int) := by omega
      have pj1 : (0 < (ss.length : Int)) = True := eq_true j1
      have pj2 : (0 < ss.length) = True := eq_true hs0
      obtain ⟨AS, qS, HS, -, -⟩ := HS.fr2.lend 0 j0 j1
      have GS0 : ss.getD (0 : Int).toNat [] = ss.getD 0 [] := rfl
      rw [GS0] at HS
      generalize hS : ss.getD 0 [] = S at HS h GS0
      have GS := ak GS0; clear GS0 hS
      by_cases b1_ : b < (S.length : Int)
      ·rw [if_pos b1_] at h
       have hlb : decide (b < (S.length : Int)) = true := decide_eq_true b1_
       replace h := bS h; obtain ⟨⟨ks1, ps1, ss1, ib1, sd1⟩, T1, h⟩ := h
       obtain ⟨e1, e2, e3⟩ := spec_l17Come.keeps T1.out
       dsimp only at e1 e2 e3
       replace e1 := e1.symm; replace e2 := e2.symm; replace e3 := e3.symm
       subst e1 e2 e3
       obtain ⟨rfl, rfl⟩ := (Prod.mk.injEq _ _ _ _).mp (Option.some.inj h)
       clear h
       generalize hs_ : rdOf ByteArray.empty S b = s at T1
       go_enter Tryz.func61, Tryz.ntmps61
       go_upto_region 7 with (first | ((with_reducible refine gate_dst (N := 2) rfl ?_); refine boxev 2 #[.slice A0 ks.length c0, .slice A1 ps.length c1, .slice (some ⟨g2, 0, none⟩) ss.length c2, .slice A3 ib.length c3, .int .i64 sd] 27 ?_; intro b2 hg_ W_ ho_ hb_; replace HS := HS.box hg_ ho_ hb_; clear hg_ ho_ hb_; obtain ⟨z20, z21, z22, z23, z24, f20, f21, f22, f23, f24⟩ := box5 (HS.blk 0)) | ((with_reducible refine gate_dst (N := 3) rfl ?_); refine boxev 3 #[.int .i64 3, .int .i64 b, .string (⟨#[]⟩ : ByteArray)] 53 ?_; intro b3 hg_ W_ ho_ hb_; replace HS := HS.box hg_ ho_ hb_; clear hg_ ho_ hb_; clear z20 z21 z22 z23 z24 f20 f21 f22 f23 f24; obtain ⟨z30, z31, z32, f30, f31, f32⟩ := box3 (HS.blk 0)) | ((with_reducible refine gate_dst (N := 4) rfl ?_); refine boxev 4 #[.slice none 0 0, .slice none 0 0, .slice none 0 0, .slice none 0 0, .int .i64 0] 27 ?_; intro b4 hg_ W_ ho_ hb_; replace HS := HS.box hg_ ho_ hb_; clear hg_ ho_ hb_; clear z30 z31 z32 f30 f31 f32; obtain ⟨z40, z41, z42, z43, z44, f40, f41, f42, f43, f44⟩ := box5 (HS.blk 0); clear z40 z41 z42 z43 z44 f40 f41 f42 f43 f44; obtain ⟨z40, z41, z42, z43, z44, f40, f41, f42, f43, f44⟩ := box5 (HS.blk 0); obtain ⟨z30, z31, z32, f30, f31, f32⟩ := box3 (HS.blk 1); obtain ⟨z20, z21, z22, z23, z24, f20, f21, f22, f23, f24⟩ := box5 (HS.blk 2)))
       go_upto_region 7 with fail
       clear z40 z41 z42 z43 z44 f40 f41 f42 f43 f44 z30 z31 z32 f30 f31 f32 z20 z21 z22 z23 z24 f20 f21 f22 f23 f24
       obtain ⟨z40, z41, z42, z43, z44, f40, f41, f42, f43, f44⟩ := box5 (HS.blk 0)
       obtain ⟨z30, z31, z32, f30, f31, f32⟩ := box3 (HS.blk 1)
       obtain ⟨z20, z21, z22, z23, z24, f20, f21, f22, f23, f24⟩ := box5 (HS.blk 2)
       obtain ⟨hcgs, hfgs⟩ := HS.fr3.hole j0 j1
       refine start_ (n := 14) (S := fun w' => w'.cell? ⟨b4, 0, none⟩ = some (.slice none 0 0) ∧ w'.cell? ⟨b4, 1, none⟩ = some (.slice none 0 0) ∧ w'.cell? ⟨b4, 2, none⟩ = some (.slice none 0 0) ∧ w'.cell? ⟨b4, 3, none⟩ = some (.slice none 0 0) ∧ w'.cell? ⟨b4, 4, none⟩ = some (.int .i64 0) ∧ w'.cell? ⟨b3, 0, none⟩ = some (.int .i64 3) ∧ w'.cell? ⟨b3, 1, none⟩ = some (.int .i64 b) ∧ w'.cell? ⟨b3, 2, none⟩ = some (.string (⟨#[]⟩ : ByteArray)) ∧ w'.cell? ⟨b2, 0, none⟩ = some (.slice A0 ks.length c0) ∧ w'.cell? ⟨b2, 1, none⟩ = some (.slice A1 ps.length c1) ∧ w'.cell? ⟨b2, 2, none⟩ = some (.slice (some ⟨g2, 0, none⟩) ss.length c2) ∧ w'.cell? ⟨b2, 3, none⟩ = some (.slice A3 ib.length c3) ∧ w'.cell? ⟨b2, 4, none⟩ = some (.int .i64 sd) ∧ w'.cell? ⟨g2, 0, none⟩ = some (.slice AS S.length qS)) (ds := []) (bl 14 0) (by kernel_rfl) rfl rfl ⟨z40, z41, z42, z43, z44, z30, z31, z32, z20, z21, z22, z23, z24, hcgs⟩ (fun hHeld => ?_); refine with_tabW spec_l17Step.tab7 spec_l17Step.bits7 (fun HT_ HW_ => ?_)
       clear z40 z41 z42 z43 z44 f40 f41 f42 f43 f44 z30 z31 z32 f30 f31 f32 z20 z21 z22 z23 z24 f20 f21 f22 f23 f24 hcgs hfgs
       replace HS := HS.drew
       generalize World.drew _ = W9_ at HS hHeld ⊢
       refine pureA 0 (some 45) 14 1 HT_ ?_
       refine takeA 1 (some 46) 14 3 HT_ HW_ hHeld ?_ (hy := by rintro w' ⟨s0, s1, s2, s3, s4, s5, s6, s7, s8, s9, s10, s11, s12, s13⟩; go_simp; with_reducible rfl)
       refine pureA 2 (some 47) 14 7 HT_ ?_
       refine pureA 3 (some 48) 14 15 HT_ ?_
       try simp only [show ((3 : Int) == 3) = true from rfl]
       refine pureA 4 (some 49) 14 31 HT_ ?_
       refine takeA 5 (some 50) 14 63 HT_ HW_ hHeld ?_ (hy := by rintro w' ⟨s0, s1, s2, s3, s4, s5, s6, s7, s8, s9, s10, s11, s12, s13⟩; go_simp; with_reducible rfl)
       refine pureA 6 (some 51) 14 127 HT_ ?_
       refine takeA 7 (some 52) 14 255 HT_ HW_ hHeld ?_ (hy := by rintro w' ⟨s0, s1, s2, s3, s4, s5, s6, s7, s8, s9, s10, s11, s12, s13⟩; go_simp; with_reducible rfl)
       refine pureA 8 (some 53) 14 511 HT_ ?_
       refine takeA 9 (some 54) 14 1023 HT_ HW_ hHeld ?_ (hy := by rintro w' ⟨s0, s1, s2, s3, s4, s5, s6, s7, s8, s9, s10, s11, s12, s13⟩; go_simp; with_reducible rfl)
       refine pureA 10 (some 55) 14 2047 HT_ ?_
       refine pureA 11 (some 56) 14 4095 HT_ ?_
       refine pureA 12 (some 57) 14 8191 HT_ ?_
       refine pureA 13 (some 44) 14 16383 HT_ ?_
       refine done_ (done_of HT_.out (by kernel_rfl)) ?_
       clear HT_ HW_ hHeld
       obtain ⟨z40, z41, z42, z43, z44, f40, f41, f42, f43, f44⟩ := box5 (HS.blk 0)
       obtain ⟨z30, z31, z32, f30, f31, f32⟩ := box3 (HS.blk 1)
       obtain ⟨z20, z21, z22, z23, z24, f20, f21, f22, f23, f24⟩ := box5 (HS.blk 2)
       obtain ⟨gS, qS', e⟩ := HS.addrR 4 (hx := by omega)
       obtain rfl : AS = some ⟨gS, 0, none⟩ := by injection e
       clear e
       go_upto_region 8 with fail
       have pb0 : (0 ≤ b) = True := eq_true b0_
       have pb1 : (b < (S.length : Int)) = True := eq_true b1_
       go_upto_region 8 with fail
       clear z40 z41 z42 z43 z44 f40 f41 f42 f43 f44 z30 z31 z32 f30 f31 f32 z20 z21 z22 z23 z24 f20 f21 f22 f23 f24
       obtain ⟨z30, z31, z32, f30, f31, f32⟩ := box3 (HS.blk 1)
       obtain ⟨z20, z21, z22, z23, z24, f20, f21, f22, f23, f24⟩ := box5 (HS.blk 2)
       obtain ⟨hcgs, hfgs⟩ := HS.fr3.hole j0 j1
       have hxS := HS.cellS 4 (n := S.length) b b0_ b1_
       rw [hs_] at hxS
       refine start_ (n := 12) (S := fun w' => w'.cell? ⟨b3, 0, none⟩ = some (.int .i64 3) ∧ w'.cell? ⟨b3, 1, none⟩ = some (.int .i64 b) ∧ w'.cell? ⟨b3, 2, none⟩ = some (.string (⟨#[]⟩ : ByteArray)) ∧ w'.cell? ⟨b2, 0, none⟩ = some (.slice A0 ks.length c0) ∧ w'.cell? ⟨b2, 1, none⟩ = some (.slice A1 ps.length c1) ∧ w'.cell? ⟨b2, 2, none⟩ = some (.slice (some ⟨g2, 0, none⟩) ss.length c2) ∧ w'.cell? ⟨b2, 3, none⟩ = some (.slice A3 ib.length c3) ∧ w'.cell? ⟨b2, 4, none⟩ = some (.int .i64 sd) ∧ w'.cell? ⟨g2, 0, none⟩ = some (.slice (some ⟨gS, 0, none⟩) S.length qS) ∧ w'.cell? ⟨gS, b.toNat, none⟩ = some (.string s)) (ds := [9, 10]) (bl 12 0) (by kernel_rfl) rfl rfl ⟨z30, z31, z32, z20, z21, z22, z23, z24, hcgs, hxS⟩ (fun hHeld => ?_); refine with_tabW spec_l17Step.tab8 spec_l17Step.bits8 (fun HT_ HW_ => ?_)
       clear z30 z31 z32 f30 f31 f32 z20 z21 z22 z23 z24 f20 f21 f22 f23 f24 hcgs hfgs hxS
       replace HS := HS.drew
       generalize World.drew _ = W9_ at HS hHeld ⊢
       refine takeA 0 (some 58) 12 1 HT_ HW_ hHeld ?_ (hy := by rintro w' ⟨s0, s1, s2, s3, s4, s5, s6, s7, s8, s9⟩; go_simp; with_reducible rfl)
       refine pureA 1 (some 59) 12 3 HT_ ?_
       refine takeA 2 (some 60) 12 7 HT_ HW_ hHeld ?_ (hy := by rintro w' ⟨s0, s1, s2, s3, s4, s5, s6, s7, s8, s9⟩; go_simp; with_reducible rfl)
       refine pureA 3 (some 61) 12 15 HT_ ?_
       refine takeA 4 (some 62) 12 31 HT_ HW_ hHeld ?_ (hy := by rintro w' ⟨s0, s1, s2, s3, s4, s5, s6, s7, s8, s9⟩; go_simp; with_reducible rfl)
       refine pureA 5 (some 63) 12 63 HT_ ?_
       refine takeA 6 (some 64) 12 127 HT_ HW_ hHeld ?_ (hy := by rintro w' ⟨s0, s1, s2, s3, s4, s5, s6, s7, s8, s9⟩; go_simp; with_reducible rfl)
       refine pureA 7 (some 65) 12 255 HT_ ?_
       refine takeA 8 (some 66) 12 511 HT_ HW_ hHeld ?_ (hy := by rintro w' ⟨s0, s1, s2, s3, s4, s5, s6, s7, s8, s9⟩; go_simp; with_reducible rfl)
       replace HS := HS.fr4.fr4.back0 GS
       refine last_ (i := 9) (N := (some 67)) (bl 12 1023) rfl rfl (one_of HT_.out (by kernel_rfl)) (by decide) (fun K hK => ?_)
       clear hHeld
       refine goes_ Tryz.func89 (by kernel_rfl) rfl #[.agg #[.slice A0 ks.length c0, .slice A1 ps.length c1, .slice (some ⟨g2, 0, none⟩) ss.length c2, .slice A3 ib.length c3, .int .i64 sd], .int .i64 0, .string s] (by rfl) rfl rfl (by (try simp only [List.map_toArray, List.map_cons, List.map_nil]); first | done | rfl) ?_
       have HC_ := spec_l17Come.calls (n := ⟨ks, ps, ss, ib, sd⟩) (HS.fr6.fr1.fr6.fr6) T1.out
       refine HC_.mono ?_
       clear HC_
       rintro e W_ ⟨rfl, HS'_⟩
       refine ⟨_, rfl, ?_⟩
       clear HS
       have HS := HS'_
       clear HS'_
       dsimp only [netA, List.cons_append, List.nil_append] at HS
       refine hK.out _ _ ?_
       clear hK K
       refine norm_ (a' := ?_) ?_ ?_
       rotate_left
       ·show Act.put _ (some 67) _ = _
        simp only [Act.put, List.setIfInBounds_toArray, List.set_cons_zero, List.set_cons_succ, i64_w, i32_w]
        rfl
       refine last_ (i := 10) (N := none) (bl 12 2047) rfl rfl (one_of HT_.out (by kernel_rfl)) (by decide) (fun K hK => ?_)
       obtain ⟨z40, z41, z42, z43, z44, f40, f41, f42, f43, f44⟩ := box5 (HS.blk 4)
       refine skip_ (w1 := ?_) (by rfl) rfl ?_ ?_
       rotate_left
       ·go_simp
        rfl
       clear z40 z41 z42 z43 z44 f40 f41 f42 f43 f44
       replace HS := HS.put5I 4 (.slice A0 ks.length c0) (.slice A1 ps.length c1) (.slice (some ⟨g2, 0, none⟩) ss.length c2) (.slice A3 ib.length c3) (.int .i64 sd)
       refine hK.out _ _ ?_
       clear hK K
       obtain ⟨W5_, e5_, H5_⟩ := HS.gen
       rw [e5_]
       clear HS e5_
       have HS := H5_
       clear H5_
       refine pureA 11 (some 5) 12 4095 HT_ ?_
       refine done_ (done_of HT_.out (by kernel_rfl)) ?_
       clear HT_ HW_
       go_wp2
       refine bodyPost_ret (results_ct rfl _ _ b4 27 #[.slice A0 ks.length c0, .slice A1 ps.length c1, .slice (some ⟨g2, 0, none⟩) ss.length c2, .slice A3 ib.length c3, .int .i64 sd] (0, 0) _ rfl (by exact (HS.blk 4).out) Tryz.underlying27 rfl (by kernel_rfl)) rfl ?_
       replace HS := HS.fr4.tail
       replace HS := HS.fr4.tail
       replace HS := HS.fr4.tail
       exact ⟨rfl, HS⟩
      ·rw [if_neg b1_] at h
       have hlb : decide (b < (S.length : Int)) = false := decide_eq_false b1_
       obtain ⟨rfl, rfl⟩ := (Prod.mk.injEq _ _ _ _).mp (Option.some.inj h)
       clear h
       go_enter Tryz.func61, Tryz.ntmps61
       go_upto_region 7 with (first | ((with_reducible refine gate_dst (N := 2) rfl ?_); refine boxev 2 #[.slice A0 ks.length c0, .slice A1 ps.length c1, .slice (some ⟨g2, 0, none⟩) ss.length c2, .slice A3 ib.length c3, .int .i64 sd] 27 ?_; intro b2 hg_ W_ ho_ hb_; replace HS := HS.box hg_ ho_ hb_; clear hg_ ho_ hb_; obtain ⟨z20, z21, z22, z23, z24, f20, f21, f22, f23, f24⟩ := box5 (HS.blk 0)) | ((with_reducible refine gate_dst (N := 3) rfl ?_); refine boxev 3 #[.int .i64 3, .int .i64 b, .string (⟨#[]⟩ : ByteArray)] 53 ?_; intro b3 hg_ W_ ho_ hb_; replace HS := HS.box hg_ ho_ hb_; clear hg_ ho_ hb_; clear z20 z21 z22 z23 z24 f20 f21 f22 f23 f24; obtain ⟨z30, z31, z32, f30, f31, f32⟩ := box3 (HS.blk 0)) | ((with_reducible refine gate_dst (N := 4) rfl ?_); refine boxev 4 #[.slice none 0 0, .slice none 0 0, .slice none 0 0, .slice none 0 0, .int .i64 0] 27 ?_; intro b4 hg_ W_ ho_ hb_; replace HS := HS.box hg_ ho_ hb_; clear hg_ ho_ hb_; clear z30 z31 z32 f30 f31 f32; obtain ⟨z40, z41, z42, z43, z44, f40, f41, f42, f43, f44⟩ := box5 (HS.blk 0); clear z40 z41 z42 z43 z44 f40 f41 f42 f43 f44; obtain ⟨z40, z41, z42, z43, z44, f40, f41, f42, f43, f44⟩ := box5 (HS.blk 0); obtain ⟨z30, z31, z32, f30, f31, f32⟩ := box3 (HS.blk 1); obtain ⟨z20, z21, z22, z23, z24, f20, f21, f22, f23, f24⟩ := box5 (HS.blk 2)))
       go_upto_region 7 with fail
       clear z40 z41 z42 z43 z44 f40 f41 f42 f43 f44 z30 z31 z32 f30 f31 f32 z20 z21 z22 z23 z24 f20 f21 f22 f23 f24
       obtain ⟨z40, z41, z42, z43, z44, f40, f41, f42, f43, f44⟩ := box5 (HS.blk 0)
       obtain ⟨z30, z31, z32, f30, f31, f32⟩ := box3 (HS.blk 1)
       obtain ⟨z20, z21, z22, z23, z24, f20, f21, f22, f23, f24⟩ := box5 (HS.blk 2)
       obtain ⟨hcgs, hfgs⟩ := HS.fr3.hole j0 j1
       refine start_ (n := 14) (S := fun w' => w'.cell? ⟨b4, 0, none⟩ = some (.slice none 0 0) ∧ w'.cell? ⟨b4, 1, none⟩ = some (.slice none 0 0) ∧ w'.cell? ⟨b4, 2, none⟩ = some (.slice none 0 0) ∧ w'.cell? ⟨b4, 3, none⟩ = some (.slice none 0 0) ∧ w'.cell? ⟨b4, 4, none⟩ = some (.int .i64 0) ∧ w'.cell? ⟨b3, 0, none⟩ = some (.int .i64 3) ∧ w'.cell? ⟨b3, 1, none⟩ = some (.int .i64 b) ∧ w'.cell? ⟨b3, 2, none⟩ = some (.string (⟨#[]⟩ : ByteArray)) ∧ w'.cell? ⟨b2, 0, none⟩ = some (.slice A0 ks.length c0) ∧ w'.cell? ⟨b2, 1, none⟩ = some (.slice A1 ps.length c1) ∧ w'.cell? ⟨b2, 2, none⟩ = some (.slice (some ⟨g2, 0, none⟩) ss.length c2) ∧ w'.cell? ⟨b2, 3, none⟩ = some (.slice A3 ib.length c3) ∧ w'.cell? ⟨b2, 4, none⟩ = some (.int .i64 sd) ∧ w'.cell? ⟨g2, 0, none⟩ = some (.slice AS S.length qS)) (ds := []) (bl 14 0) (by kernel_rfl) rfl rfl ⟨z40, z41, z42, z43, z44, z30, z31, z32, z20, z21, z22, z23, z24, hcgs⟩ (fun hHeld => ?_); refine with_tabW spec_l17Step.tab7 spec_l17Step.bits7 (fun HT_ HW_ => ?_)
       clear z40 z41 z42 z43 z44 f40 f41 f42 f43 f44 z30 z31 z32 f30 f31 f32 z20 z21 z22 z23 z24 f20 f21 f22 f23 f24 hcgs hfgs
       replace HS := HS.drew
       generalize World.drew _ = W9_ at HS hHeld ⊢
       refine pureA 0 (some 45) 14 1 HT_ ?_
       refine takeA 1 (some 46) 14 3 HT_ HW_ hHeld ?_ (hy := by rintro w' ⟨s0, s1, s2, s3, s4, s5, s6, s7, s8, s9, s10, s11, s12, s13⟩; go_simp; with_reducible rfl)
       refine pureA 2 (some 47) 14 7 HT_ ?_
       refine pureA 3 (some 48) 14 15 HT_ ?_
       try simp only [show ((3 : Int) == 3) = true from rfl]
       refine pureA 4 (some 49) 14 31 HT_ ?_
       refine takeA 5 (some 50) 14 63 HT_ HW_ hHeld ?_ (hy := by rintro w' ⟨s0, s1, s2, s3, s4, s5, s6, s7, s8, s9, s10, s11, s12, s13⟩; go_simp; with_reducible rfl)
       refine pureA 6 (some 51) 14 127 HT_ ?_
       refine takeA 7 (some 52) 14 255 HT_ HW_ hHeld ?_ (hy := by rintro w' ⟨s0, s1, s2, s3, s4, s5, s6, s7, s8, s9, s10, s11, s12, s13⟩; go_simp; with_reducible rfl)
       refine pureA 8 (some 53) 14 511 HT_ ?_
       refine takeA 9 (some 54) 14 1023 HT_ HW_ hHeld ?_ (hy := by rintro w' ⟨s0, s1, s2, s3, s4, s5, s6, s7, s8, s9, s10, s11, s12, s13⟩; go_simp; with_reducible rfl)
       refine pureA 10 (some 55) 14 2047 HT_ ?_
       refine pureA 11 (some 56) 14 4095 HT_ ?_
       refine pureA 12 (some 57) 14 8191 HT_ ?_
       refine pureA 13 (some 44) 14 16383 HT_ ?_
       refine done_ (done_of HT_.out (by kernel_rfl)) ?_
       clear HT_ HW_ hHeld
       obtain ⟨z40, z41, z42, z43, z44, f40, f41, f42, f43, f44⟩ := box5 (HS.blk 0)
       obtain ⟨z30, z31, z32, f30, f31, f32⟩ := box3 (HS.blk 1)
       obtain ⟨z20, z21, z22, z23, z24, f20, f21, f22, f23, f24⟩ := box5 (HS.blk 2)
       go_wp2
       replace HS := HS.fr4.fr4.back0 GS
       have HF := HS.put5I 1 (.slice A0 ks.length c0) (.slice A1 ps.length c1) (.slice (some ⟨g2, 0, none⟩) ss.length c2) (.slice A3 ib.length c3) (.int .i64 sd)
       refine bodyPost_ret (results_ct rfl _ _ b4 27 #[.slice A0 ks.length c0, .slice A1 ps.length c1, .slice (some ⟨g2, 0, none⟩) ss.length c2, .slice A3 ib.length c3, .int .i64 sd] (0, 0) _ rfl (by exact (HF.blk 1).out) Tryz.underlying27 rfl (by kernel_rfl)) rfl ?_
       replace HS := HF
       replace HS := HS.fr1.tail
       replace HS := HS.fr1.tail
       replace HS := HS.fr1.tail
       exact ⟨rfl, HS.fr3.fr1.fr3.fr3⟩
     ·rw [if_neg a3] at h
      have ha3 : (a == 3) = false := beq_eq_false_iff_ne.2 a3
      clear a1 a2 a3
      obtain ⟨rfl, rfl⟩ := (Prod.mk.injEq _ _ _ _).mp (Option.some.inj h)
      clear h
      go_enter Tryz.func61, Tryz.ntmps61
      go_upto_region 7 with (first | ((with_reducible refine gate_dst (N := 2) rfl ?_); refine boxev 2 #[.slice A0 ks.length c0, .slice A1 ps.length c1, .slice A2 ss.length c2, .slice A3 ib.length c3, .int .i64 sd] 27 ?_; intro b2 hg_ W_ ho_ hb_; replace HS := HS.box hg_ ho_ hb_; clear hg_ ho_ hb_; obtain ⟨z20, z21, z22, z23, z24, f20, f21, f22, f23, f24⟩ := box5 (HS.blk 0)) | ((with_reducible refine gate_dst (N := 3) rfl ?_); refine boxev 3 #[.int .i64 a, .int .i64 b, .string (⟨#[]⟩ : ByteArray)] 53 ?_; intro b3 hg_ W_ ho_ hb_; replace HS := HS.box hg_ ho_ hb_; clear hg_ ho_ hb_; clear z20 z21 z22 z23 z24 f20 f21 f22 f23 f24; obtain ⟨z30, z31, z32, f30, f31, f32⟩ := box3 (HS.blk 0)) | ((with_reducible refine gate_dst (N := 4) rfl ?_); refine boxev 4 #[.slice none 0 0, .slice none 0 0, .slice none 0 0, .slice none 0 0, .int .i64 0] 27 ?_; intro b4 hg_ W_ ho_ hb_; replace HS := HS.box hg_ ho_ hb_; clear hg_ ho_ hb_; clear z30 z31 z32 f30 f31 f32; obtain ⟨z40, z41, z42, z43, z44, f40, f41, f42, f43, f44⟩ := box5 (HS.blk 0); clear z40 z41 z42 z43 z44 f40 f41 f42 f43 f44; obtain ⟨z40, z41, z42, z43, z44, f40, f41, f42, f43, f44⟩ := box5 (HS.blk 0); obtain ⟨z30, z31, z32, f30, f31, f32⟩ := box3 (HS.blk 1); obtain ⟨z20, z21, z22, z23, z24, f20, f21, f22, f23, f24⟩ := box5 (HS.blk 2)))
      go_upto_region 7 with fail
      clear z40 z41 z42 z43 z44 f40 f41 f42 f43 f44 z30 z31 z32 f30 f31 f32 z20 z21 z22 z23 z24 f20 f21 f22 f23 f24
      obtain ⟨z40, z41, z42, z43, z44, f40, f41, f42, f43, f44⟩ := box5 (HS.blk 0)
      obtain ⟨z30, z31, z32, f30, f31, f32⟩ := box3 (HS.blk 1)
      obtain ⟨z20, z21, z22, z23, z24, f20, f21, f22, f23, f24⟩ := box5 (HS.blk 2)
      refine start_ (n := 14) (S := fun w' => w'.cell? ⟨b4, 0, none⟩ = some (.slice none 0 0) ∧ w'.cell? ⟨b4, 1, none⟩ = some (.slice none 0 0) ∧ w'.cell? ⟨b4, 2, none⟩ = some (.slice none 0 0) ∧ w'.cell? ⟨b4, 3, none⟩ = some (.slice none 0 0) ∧ w'.cell? ⟨b4, 4, none⟩ = some (.int .i64 0) ∧ w'.cell? ⟨b3, 0, none⟩ = some (.int .i64 a) ∧ w'.cell? ⟨b3, 1, none⟩ = some (.int .i64 b) ∧ w'.cell? ⟨b3, 2, none⟩ = some (.string (⟨#[]⟩ : ByteArray)) ∧ w'.cell? ⟨b2, 0, none⟩ = some (.slice A0 ks.length c0) ∧ w'.cell? ⟨b2, 1, none⟩ = some (.slice A1 ps.length c1) ∧ w'.cell? ⟨b2, 2, none⟩ = some (.slice A2 ss.length c2) ∧ w'.cell? ⟨b2, 3, none⟩ = some (.slice A3 ib.length c3) ∧ w'.cell? ⟨b2, 4, none⟩ = some (.int .i64 sd)) (ds := []) (bl 14 0) (by kernel_rfl) rfl rfl ⟨z40, z41, z42, z43, z44, z30, z31, z32, z20, z21, z22, z23, z24⟩ (fun hHeld => ?_); refine with_tabW spec_l17Step.tab7 spec_l17Step.bits7 (fun HT_ HW_ => ?_)
      clear z40 z41 z42 z43 z44 f40 f41 f42 f43 f44 z30 z31 z32 f30 f31 f32 z20 z21 z22 z23 z24 f20 f21 f22 f23 f24
      replace HS := HS.drew
      generalize World.drew _ = W9_ at HS hHeld ⊢
      refine pureA 0 (some 45) 14 1 HT_ ?_
      refine takeA 1 (some 46) 14 3 HT_ HW_ hHeld ?_ (hy := by rintro w' ⟨s0, s1, s2, s3, s4, s5, s6, s7, s8, s9, s10, s11, s12⟩; go_simp; with_reducible rfl)
      refine pureA 2 (some 47) 14 7 HT_ ?_
      refine pureA 3 (some 48) 14 15 HT_ ?_
      try simp only [ha3]
      refine pureB 4 (some 49) 14 31 HT_ ?_
      refine pureB 5 (some 50) 14 63 HT_ ?_
      refine pureB 6 (some 51) 14 127 HT_ ?_
      refine pureB 7 (some 52) 14 255 HT_ ?_
      refine pureB 8 (some 53) 14 511 HT_ ?_
      refine pureB 9 (some 54) 14 1023 HT_ ?_
      refine pureB 10 (some 55) 14 2047 HT_ ?_
      refine pureB 11 (some 56) 14 4095 HT_ ?_
      refine pureA 12 (some 57) 14 8191 HT_ ?_
      refine pureA 13 (some 44) 14 16383 HT_ ?_
      refine done_ (done_of HT_.out (by kernel_rfl)) ?_
      clear HT_ HW_ hHeld
      obtain ⟨z40, z41, z42, z43, z44, f40, f41, f42, f43, f44⟩ := box5 (HS.blk 0)
      obtain ⟨z30, z31, z32, f30, f31, f32⟩ := box3 (HS.blk 1)
      obtain ⟨z20, z21, z22, z23, z24, f20, f21, f22, f23, f24⟩ := box5 (HS.blk 2)
      go_wp2
      have HF := HS.put5I 0 (.slice A0 ks.length c0) (.slice A1 ps.length c1) (.slice A2 ss.length c2) (.slice A3 ib.length c3) (.int .i64 sd)
      refine bodyPost_ret (results_ct rfl _ _ b4 27 #[.slice A0 ks.length c0, .slice A1 ps.length c1, .slice A2 ss.length c2, .slice A3 ib.length c3, .int .i64 sd] (0, 0) _ rfl (by exact (HF.blk 0).out) Tryz.underlying27 rfl (by kernel_rfl)) rfl ?_
      replace HS := HF
      replace HS := HS.tail
      replace HS := HS.tail
      replace HS := HS.tail
      exact ⟨rfl, HS⟩
  ·rw [if_neg hx] at h
   have hxe := nw_nonempty hx
   clear hx a1
   obtain ⟨rfl, rfl⟩ := (Prod.mk.injEq _ _ _ _).mp (Option.some.inj h)
   clear h
   go_enter Tryz.func61, Tryz.ntmps61
   go_wp2_with (first | ((with_reducible refine gate_dst (N := 2) rfl ?_); refine boxev 2 #[.slice A0 ks.length c0, .slice A1 ps.length c1, .slice A2 ss.length c2, .slice A3 ib.length c3, .int .i64 sd] 27 ?_; intro b2 hg_ W_ ho_ hb_; replace HS := HS.box hg_ ho_ hb_; clear hg_ ho_ hb_; obtain ⟨z20, z21, z22, z23, z24, f20, f21, f22, f23, f24⟩ := box5 (HS.blk 0)) | ((with_reducible refine gate_dst (N := 3) rfl ?_); refine boxev 3 #[.int .i64 a, .int .i64 b, .string x] 53 ?_; intro b3 hg_ W_ ho_ hb_; replace HS := HS.box hg_ ho_ hb_; clear hg_ ho_ hb_; clear z20 z21 z22 z23 z24 f20 f21 f22 f23 f24; obtain ⟨z30, z31, z32, f30, f31, f32⟩ := box3 (HS.blk 0)) | ((with_reducible refine gate_dst (N := 4) rfl ?_); refine boxev 4 #[.slice none 0 0, .slice none 0 0, .slice none 0 0, .slice none 0 0, .int .i64 0] 27 ?_; intro b4 hg_ W_ ho_ hb_; replace HS := HS.box hg_ ho_ hb_; clear hg_ ho_ hb_; clear z30 z31 z32 f30 f31 f32; obtain ⟨z40, z41, z42, z43, z44, f40, f41, f42, f43, f44⟩ := box5 (HS.blk 0); clear z40 z41 z42 z43 z44 f40 f41 f42 f43 f44; obtain ⟨z40, z41, z42, z43, z44, f40, f41, f42, f43, f44⟩ := box5 (HS.blk 0); obtain ⟨z30, z31, z32, f30, f31, f32⟩ := box3 (HS.blk 1); obtain ⟨z20, z21, z22, z23, z24, f20, f21, f22, f23, f24⟩ := box5 (HS.blk 2)))
   have HF := HS.put5I 0 (.slice A0 ks.length c0) (.slice A1 ps.length c1) (.slice A2 ss.length c2) (.slice A3 ib.length c3) (.int .i64 sd)
   refine bodyPost_ret (results_ct rfl _ _ b4 27 #[.slice A0 ks.length c0, .slice A1 ps.length c1, .slice A2 ss.length c2, .slice A3 ib.length c3, .int .i64 sd] (0, 0) _ rfl (by exact (HF.blk 0).out) Tryz.underlying27 rfl (by kernel_rfl)) rfl ?_
   replace HS := HF
   replace HS := HS.tail
   replace HS := HS.tail
   replace HS := HS.tail
   exact ⟨rfl, HS⟩

theorem spec_GoodNet.net {k : Nat} {v0 v1 v2 v3 : Value} {n : Nt} {r : Bool} {w : World} (hn : NC w v0 v1 v2 v3 n) (h : spec_GoodNet.f k n.ks n.ps n.ss n.ib n.sd = some r) :
    Calls Tryz.prog 42 #[.agg #[v0, v1, v2, v3, .int .i64 n.sd]] w fun e w' => e = .returned (.bool r) ∧ Below w.heap.size w w' := by
  obtain ⟨A0, c0, A1, c1, A2, c2, A3, c3, ⟨rfl, rfl, rfl, rfl⟩, ⟨x0, y0⟩, ⟨x1, y1⟩, ⟨x2, y2⟩, ⟨x3, y3⟩⟩ := hn
  exact spec_GoodNet.calls k A0 c0 n.ks A1 c1 n.ps A2 c2 n.ss A3 c3 n.ib n.sd r w x0 y0 x1 y1 x2 y2 x3 y3 h
/-! ### spec_StepNet: function 28 -/
def spec_StepNet.T3 : Bool × List (List Nat × List Nat) := (true, [([], []), ([0], [0]), ([], []), ([1, 2, 1], [1, 2]), ([3], [3]), ([4], [4]), ([4], [4]), ([], []), ([7, 5, 3, 0, 1, 2, 3, 4, 5, 7], [5, 7]), ([6, 8, 0, 1, 2, 3, 4, 5, 6, 7, 8], [6])])
def spec_StepNet.B3 : List Nat := [0, 1, 0, 7, 15, 31, 31, 0, 191, 511]
theorem spec_StepNet.tab3 : rtab .any (opsOf Tryz.f28 3) = spec_StepNet.T3 := by kernel_rfl
theorem spec_StepNet.bits3 : waitsOk spec_StepNet.T3.2 spec_StepNet.B3 = true := by kernel_rfl
def spec_StepNet.f (k : Nat) (n : Nt) (a b : Int) (x : ByteArray) : Option (Nt × Bool) := (spec_GoodNet.f k n.ks n.ps n.ss n.ib n.sd).bind fun g => if g = false then some (⟨[], [], [], [], 0⟩, false) else (spec_l17Own.f k n).bind fun n1 => (spec_l17Step.f k n1 a b x).bind fun (n2, r) => if r = false then some (⟨[], [], [], [], 0⟩, false) else (spec_l17Own.f k n2).bind fun n3 => some (n3, true)
set_option maxHeartbeats 16000000 in
set_option maxRecDepth 100000 in
theorem spec_StepNet.calls {k : Nat} {v0 v1 v2 v3 : Value} {n m : Nt} {a b : Int} {x : ByteArray} {r : Bool} {w : World} (hn : NC w v0 v1 v2 v3 n) (h : spec_StepNet.f k n a b x = some (m, r)) :
    Calls Tryz.prog 28 #[.agg #[v0, v1, v2, v3, .int .i64 n.sd], .agg #[.int .i64 a, .int .i64 b, .string x]] w (MadeNet w m r) := by
 have hu27 := Tryz.underlying27
 have hu53 := Tryz.underlying53
 unfold spec_StepNet.f at h
 obtain ⟨A0, c0, A1, c1, A2, c2, A3, c3, e_, x_⟩ := hn
 have HN := ak (show NC w v0 v1 v2 v3 n from ⟨A0, c0, A1, c1, A2, c2, A3, c3, e_, x_⟩)
 obtain ⟨rfl, rfl, rfl, rfl⟩ := e_
 clear x_
 obtain ⟨ks, ps, ss, ib, sd⟩ := n
 dsimp only at HN h ⊢
 have HS := Sep.nil w
 replace h := bS h; obtain ⟨g, T0, h⟩ := h
 cases g with
 | false =>
  rw [if_pos rfl] at h
  obtain ⟨rfl, rfl⟩ := (Prod.mk.injEq _ _ _ _).mp (Option.some.inj h)
  clear h
  go_enter Tryz.func28, Tryz.ntmps28
  go_wp2_with (first | ((with_reducible refine gate_dst (N := 2) rfl ?_); refine boxev 2 #[.slice A0 ks.length c0, .slice A1 ps.length c1, .slice A2 ss.length c2, .slice A3 ib.length c3, .int .i64 sd] 27 ?_; intro b2 hg_ W_ ho_ hb_; replace HS := HS.box hg_ ho_ hb_; clear hg_ ho_ hb_; obtain ⟨z20, z21, z22, z23, z24, f20, f21, f22, f23, f24⟩ := box5 (HS.blk 0)) | ((with_reducible refine gate_dst (N := 3) rfl ?_); refine boxev 3 #[.int .i64 a, .int .i64 b, .string x] 53 ?_; intro b3 hg_ W_ ho_ hb_; replace HS := HS.box hg_ ho_ hb_; clear hg_ ho_ hb_; clear z20 z21 z22 z23 z24 f20 f21 f22 f23 f24; obtain ⟨z30, z31, z32, f30, f31, f32⟩ := box3 (HS.blk 0)) | ((with_reducible refine gate_dst (N := 4) rfl ?_); refine boxev 4 #[.slice none 0 0, .slice none 0 0, .slice none 0 0, .slice none 0 0, .int .i64 0] 27 ?_; intro b4 hg_ W_ ho_ hb_; replace HS := HS.box hg_ ho_ hb_; clear hg_ ho_ hb_; clear z30 z31 z32 f30 f31 f32; obtain ⟨z40, z41, z42, z43, z44, f40, f41, f42, f43, f44⟩ := box5 (HS.blk 0); clear z40 z41 z42 z43 z44 f40 f41 f42 f43 f44; obtain ⟨z40, z41, z42, z43, z44, f40, f41, f42, f43, f44⟩ := box5 (HS.blk 0); obtain ⟨z30, z31, z32, f30, f31, f32⟩ := box3 (HS.blk 1); obtain ⟨z20, z21, z22, z23, z24, f20, f21, f22, f23, f24⟩ := box5 (HS.blk 2)) | (go_at_call 42; have HC_ := spec_GoodNet.net (n := ⟨ks, ps, ss, ib, sd⟩) (HN.out.below HS.base) T0.out; refine HC_.mono ?_; clear HC_; rintro e W_ ⟨rfl, hb_⟩; replace HS := HS.below hb_; clear hb_; clear z40 z41 z42 z43 z44 f40 f41 f42 f43 f44 z30 z31 z32 f30 f31 f32 z20 z21 z22 z23 z24 f20 f21 f22 f23 f24; obtain ⟨z40, z41, z42, z43, z44, f40, f41, f42, f43, f44⟩ := box5 (HS.blk 0); obtain ⟨z30, z31, z32, f30, f31, f32⟩ := box3 (HS.blk 1); obtain ⟨z20, z21, z22, z23, z24, f20, f21, f22, f23, f24⟩ := box5 (HS.blk 2)))
  have HF := HS.put5I 0 (.slice none 0 0) (.slice none 0 0) (.slice none 0 0) (.slice none 0 0) (.int .i64 0)
  refine bodyPost_ret (results_ct rfl _ _ b4 27 #[.slice none 0 0, .slice none 0 0, .slice none 0 0, .slice none 0 0, .int .i64 0] (0, 0) _ rfl (by exact (HF.blk 0).out) Tryz.underlying27 rfl (by kernel_rfl)) rfl ?_
  exact ⟨_, _, _, _, rfl, nw_none HF, HF.base⟩
 | true =>
  rw [if_neg (by decide)] at h
  replace h := bS h; obtain ⟨n1, T1, h⟩ := h
  replace h := bS h; obtain ⟨⟨n2, q⟩, T2, h⟩ := h
  dsimp only at h
  go_enter Tryz.func28, Tryz.ntmps28
  go_upto_region 3 with (first | ((with_reducible refine gate_dst (N := 2) rfl ?_); refine boxev 2 #[.slice A0 ks.length c0, .slice A1 ps.length c1, .slice A2 ss.length c2, .slice A3 ib.length c3, .int .i64 sd] 27 ?_; intro b2 hg_ W_ ho_ hb_; replace HS := HS.box hg_ ho_ hb_; clear hg_ ho_ hb_; obtain ⟨z20, z21, z22, z23, z24, f20, f21, f22, f23, f24⟩ := box5 (HS.blk 0)) | ((with_reducible refine gate_dst (N := 3) rfl ?_); refine boxev 3 #[.int .i64 a, .int .i64 b, .string x] 53 ?_; intro b3 hg_ W_ ho_ hb_; replace HS := HS.box hg_ ho_ hb_; clear hg_ ho_ hb_; clear z20 z21 z22 z23 z24 f20 f21 f22 f23 f24; obtain ⟨z30, z31, z32, f30, f31, f32⟩ := box3 (HS.blk 0)) | ((with_reducible refine gate_dst (N := 4) rfl ?_); refine boxev 4 #[.slice none 0 0, .slice none 0 0, .slice none 0 0, .slice none 0 0, .int .i64 0] 27 ?_; intro b4 hg_ W_ ho_ hb_; replace HS := HS.box hg_ ho_ hb_; clear hg_ ho_ hb_; clear z30 z31 z32 f30 f31 f32; obtain ⟨z40, z41, z42, z43, z44, f40, f41, f42, f43, f44⟩ := box5 (HS.blk 0); clear z40 z41 z42 z43 z44 f40 f41 f42 f43 f44; obtain ⟨z40, z41, z42, z43, z44, f40, f41, f42, f43, f44⟩ := box5 (HS.blk 0); obtain ⟨z30, z31, z32, f30, f31, f32⟩ := box3 (HS.blk 1); obtain ⟨z20, z21, z22, z23, z24, f20, f21, f22, f23, f24⟩ := box5 (HS.blk 2)) | (go_at_call 42; have HC_ := spec_GoodNet.net (n := ⟨ks, ps, ss, ib, sd⟩) (HN.out.below HS.base) T0.out; refine HC_.mono ?_; clear HC_; rintro e W_ ⟨rfl, hb_⟩; replace HS := HS.below hb_; clear hb_; clear z40 z41 z42 z43 z44 f40 f41 f42 f43 f44 z30 z31 z32 f30 f31 f32 z20 z21 z22 z23 z24 f20 f21 f22 f23 f24; obtain ⟨z40, z41, z42, z43, z44, f40, f41, f42, f43, f44⟩ := box5 (HS.blk 0); obtain ⟨z30, z31, z32, f30, f31, f32⟩ := box3 (HS.blk 1); obtain ⟨z20, z21, z22, z23, z24, f20, f21, f22, f23, f24⟩ := box5 (HS.blk 2)))
  go_upto_region 3 with fail
  clear z40 z41 z42 z43 z44 f40 f41 f42 f43 f44 z30 z31 z32 f30 f31 f32 z20 z21 z22 z23 z24 f20 f21 f22 f23 f24
  obtain ⟨z20, z21, z22, z23, z24, f20, f21, f22, f23, f24⟩ := box5 (HS.blk 2)
  obtain ⟨z30, z31, z32, f30, f31, f32⟩ := box3 (HS.blk 1)
  refine start_ (n := 10) (S := fun w' => w'.cell? ⟨b2, 0, none⟩ = some (.slice A0 ks.length c0) ∧ w'.cell? ⟨b2, 1, none⟩ = some (.slice A1 ps.length c1) ∧ w'.cell? ⟨b2, 2, none⟩ = some (.slice A2 ss.length c2) ∧ w'.cell? ⟨b2, 3, none⟩ = some (.slice A3 ib.length c3) ∧ w'.cell? ⟨b2, 4, none⟩ = some (.int .i64 sd) ∧ w'.cell? ⟨b3, 0, none⟩ = some (.int .i64 a) ∧ w'.cell? ⟨b3, 1, none⟩ = some (.int .i64 b) ∧ w'.cell? ⟨b3, 2, none⟩ = some (.string x)) (ds := []) (bl 10 0) (by kernel_rfl) rfl rfl ⟨z20, z21, z22, z23, z24, z30, z31, z32⟩ (fun hHeld => ?_); refine with_tabW spec_StepNet.tab3 spec_StepNet.bits3 (fun HT_ HW_ => ?_)
  clear z20 z21 z22 z23 z24 f20 f21 f22 f23 f24 z30 z31 z32 f30 f31 f32
  replace HS := HS.drew
  generalize World.drew _ = W9_ at HS hHeld ⊢
  refine takeA 0 (some 13) 10 1 HT_ HW_ hHeld ?_ (hy := by rintro w' ⟨s0, s1, s2, s3, s4, s5, s6, s7⟩; go_simp; with_reducible rfl)
  refine takeA 2 (some 15) 10 5 HT_ HW_ hHeld ?_ (hy := by rintro w' ⟨s0, s1, s2, s3, s4, s5, s6, s7⟩; go_simp; with_reducible rfl)
  refine join_ (σ := Value × Value × Value × Value × Nat) 2 (bl 10 255) (fun s_ => [(14, .agg #[s_.1, s_.2.1, s_.2.2.1, s_.2.2.2.1, .int .i64 n1.sd]), (16, .tuple #[.agg #[s_.1, s_.2.1, s_.2.2.1, s_.2.2.2.1, .int .i64 n2.sd], .bool q]), (12, .tuple #[.agg #[s_.1, s_.2.1, s_.2.2.1, s_.2.2.2.1, .int .i64 n2.sd], .bool q]), (17, .agg #[s_.1, s_.2.1, s_.2.2.1, s_.2.2.2.1, .int .i64 n2.sd]), (18, .bool q), (6, .pointer (some ⟨s_.2.2.2.2, 0, none⟩))]) (fun s_ w' => Sep w w' (bA s_.2.2.2.2 #[.slice none 0 0, .slice none 0 0, .slice none 0 0, .slice none 0 0, .int .i64 0] 27 :: rA KI 3 s_.1 n2.ks :: sA KT 62 s_.2.1 n2.ps :: sA KT 62 s_.2.2.1 n2.ss :: sA KT 62 s_.2.2.2.1 n2.ib :: bA b4 #[.slice none 0 0, .slice none 0 0, .slice none 0 0, .slice none 0 0, .int .i64 0] 27 :: bA b3 #[.int .i64 a, .int .i64 b, .string x] 53 :: bA b2 #[.slice A0 ks.length c0, .slice A1 ps.length c1, .slice A2 ss.length c2, .slice A3 ib.length c3, .int .i64 sd] 27 :: [])) ?_ ?_
  rotate_left
  ·intro hCont
   refine two_ (i := 1) (j := 7) (Ni := some 14) (Nj := some 6) (bl 10 7) (bl 10 133) rfl rfl rfl rfl (by kernel_rfl) (by decide) (by decide) (fun K hK => ?_) (fun K hK => ?_)
   ·skip
    refine goes_ Tryz.func52 (by kernel_rfl) rfl #[.agg #[.slice A0 ks.length c0, .slice A1 ps.length c1, .slice A2 ss.length c2, .slice A3 ib.length c3, .int .i64 sd]] (by rfl) rfl rfl (by (try simp only [List.map_toArray, List.map_cons, List.map_nil]); first | done | rfl) ?_
    have HC_ := spec_l17Own.calls (n := ⟨ks, ps, ss, ib, sd⟩) (HN.out.below HS.base) T1.out
    refine HC_.mono ?_
    clear HC_ hHeld
    rintro e W_ ⟨u0, u1, u2, u3, rfl, hc_, hb_⟩
    refine ⟨_, rfl, ?_⟩
    replace HS := HS.news hb_ hc_
    clear hc_ hb_
    dsimp only [netA, List.cons_append, List.nil_append] at HS
    obtain ⟨z20, z21, z22, z23, z24, f20, f21, f22, f23, f24⟩ := box5 (HS.blk 6)
    obtain ⟨z30, z31, z32, f30, f31, f32⟩ := box3 (HS.blk 5)
    refine hK.out _ _ ⟨z20, z21, z22, z23, z24, z30, z31, z32⟩ (fun hHeld => ?_)
    clear hK K z20 z21 z22 z23 z24 f20 f21 f22 f23 f24 z30 z31 z32 f30 f31 f32
    refine norm_ (a' := ?_) ?_ ?_
    rotate_left
    ·show Act.put _ (some 14) _ = _
     simp only [Act.put, List.setIfInBounds_toArray, List.set_cons_zero, List.set_cons_succ, i64_w, i32_w]
     rfl
    refine two_ (i := 3) (j := 7) (Ni := some 16) (Nj := some 6) (bl 10 15) (bl 10 135) rfl rfl rfl rfl (by kernel_rfl) (by decide) (by decide) (fun K hK => ?_) (fun K hK => ?_)
    ·skip
     refine goes_ Tryz.func61 (by kernel_rfl) rfl #[.agg #[u0, u1, u2, u3, .int .i64 n1.sd], .agg #[.int .i64 a, .int .i64 b, .string x]] (by rfl) rfl rfl (by (try simp only [List.map_toArray, List.map_cons, List.map_nil]); first | done | rfl) ?_
     have HC_ := spec_l17Step.calls (n := n1) (HS) T2.out
     refine HC_.mono ?_
     clear HC_ hHeld
     rintro e W_ ⟨rfl, HS'_⟩
     refine ⟨_, rfl, ?_⟩
     clear HS
     have HS := HS'_
     clear HS'_
     dsimp only [netA, List.cons_append, List.nil_append] at HS
     obtain ⟨z20, z21, z22, z23, z24, f20, f21, f22, f23, f24⟩ := box5 (HS.blk 6)
     obtain ⟨z30, z31, z32, f30, f31, f32⟩ := box3 (HS.blk 5)
     refine hK.out _ _ ⟨z20, z21, z22, z23, z24, z30, z31, z32⟩ (fun hHeld => ?_)
     clear hK K z20 z21 z22 z23 z24 f20 f21 f22 f23 f24 z30 z31 z32 f30 f31 f32
     refine norm_ (a' := ?_) ?_ ?_
     rotate_left
     ·show Act.put _ (some 16) _ = _
      simp only [Act.put, List.setIfInBounds_toArray, List.set_cons_zero, List.set_cons_succ, i64_w, i32_w]
      rfl
     refine pureA 4 (some 12) 10 31 HT_ ?_
     refine pureA 5 (some 17) 10 63 HT_ ?_
     refine pureA 6 (some 18) 10 127 HT_ ?_
     refine oneA 7 (some 6) 10 255 HT_ (fun K hK => ?_)
     clear hHeld
     refine box_step ?hg (N := 6) ?hd (cs := #[.slice none 0 0, .slice none 0 0, .slice none 0 0, .slice none 0 0, .int .i64 0]) (t := 27) ?hr ?_; (case hd => rfl); (case hg => rfl); (case hr => first | (go_simp; done) | (go_simp; rfl))
     intro b6 hg_ W_ ho_ hb_
     replace HS := HS.box hg_ ho_ hb_
     clear hg_ ho_ hb_
     obtain ⟨z20, z21, z22, z23, z24, f20, f21, f22, f23, f24⟩ := box5 (HS.blk 7)
     obtain ⟨z30, z31, z32, f30, f31, f32⟩ := box3 (HS.blk 6)
     refine hK.out _ _ ⟨z20, z21, z22, z23, z24, z30, z31, z32⟩ (fun hHeld => ?_)
     clear hK K z20 z21 z22 z23 z24 f20 f21 f22 f23 f24 z30 z31 z32 f30 f31 f32
     refine norm_ (a' := ?_) ?_ ?_
     rotate_left
     ·show Act.put _ (some 6) _ = _
      simp only [Act.put, List.setIfInBounds_toArray, List.set_cons_zero, List.set_cons_succ, i64_w, i32_w]
      rfl
     exact norm_ (by simp only [putAll, Act.put, List.setIfInBounds_toArray, List.set_cons_zero, List.set_cons_succ]) (hCont (u0, u1, u2, u3, b6) _ (HS))
    ·skip
     clear hHeld
     refine box_step ?hg (N := 6) ?hd (cs := #[.slice none 0 0, .slice none 0 0, .slice none 0 0, .slice none 0 0, .int .i64 0]) (t := 27) ?hr ?_; (case hd => rfl); (case hg => rfl); (case hr => first | (go_simp; done) | (go_simp; rfl))
     intro b6 hg_ W_ ho_ hb_
     replace HS := HS.box hg_ ho_ hb_
     clear hg_ ho_ hb_
     obtain ⟨z20, z21, z22, z23, z24, f20, f21, f22, f23, f24⟩ := box5 (HS.blk 7)
     obtain ⟨z30, z31, z32, f30, f31, f32⟩ := box3 (HS.blk 6)
     refine hK.out _ _ ⟨z20, z21, z22, z23, z24, z30, z31, z32⟩ (fun hHeld => ?_)
     clear hK K z20 z21 z22 z23 z24 f20 f21 f22 f23 f24 z30 z31 z32 f30 f31 f32
     refine norm_ (a' := ?_) ?_ ?_
     rotate_left
     ·show Act.put _ (some 6) _ = _
      simp only [Act.put, List.setIfInBounds_toArray, List.set_cons_zero, List.set_cons_succ, i64_w, i32_w]
      rfl
     refine oneA 3 (some 16) 10 143 HT_ (fun K hK => ?_)
     refine goes_ Tryz.func61 (by kernel_rfl) rfl #[.agg #[u0, u1, u2, u3, .int .i64 n1.sd], .agg #[.int .i64 a, .int .i64 b, .string x]] (by rfl) rfl rfl (by (try simp only [List.map_toArray, List.map_cons, List.map_nil]); first | done | rfl) ?_
     have HC_ := spec_l17Step.calls (n := n1) (HS.fr4.fr4.fr4.fr4) T2.out
     refine HC_.mono ?_
     clear HC_ hHeld
     rintro e W_ ⟨rfl, HS'_⟩
     refine ⟨_, rfl, ?_⟩
     clear HS
     have HS := HS'_
     clear HS'_
     dsimp only [netA, List.cons_append, List.nil_append] at HS
     obtain ⟨z20, z21, z22, z23, z24, f20, f21, f22, f23, f24⟩ := box5 (HS.blk 7)
     obtain ⟨z30, z31, z32, f30, f31, f32⟩ := box3 (HS.blk 6)
     refine hK.out _ _ ⟨z20, z21, z22, z23, z24, z30, z31, z32⟩ (fun hHeld => ?_)
     clear hK K z20 z21 z22 z23 z24 f20 f21 f22 f23 f24 z30 z31 z32 f30 f31 f32
     refine norm_ (a' := ?_) ?_ ?_
     rotate_left
     ·show Act.put _ (some 16) _ = _
      simp only [Act.put, List.setIfInBounds_toArray, List.set_cons_zero, List.set_cons_succ, i64_w, i32_w]
      rfl
     refine pureA 4 (some 12) 10 159 HT_ ?_
     refine pureA 5 (some 17) 10 191 HT_ ?_
     refine pureA 6 (some 18) 10 255 HT_ ?_
     exact norm_ (by simp only [putAll, Act.put, List.setIfInBounds_toArray, List.set_cons_zero, List.set_cons_succ]) (hCont (u0, u1, u2, u3, b6) _ (HS.fr7.fr7.fr7.fr6.fr6.fr6.fr6.fr7))
   ·skip
    clear hHeld
    refine box_step ?hg (N := 6) ?hd (cs := #[.slice none 0 0, .slice none 0 0, .slice none 0 0, .slice none 0 0, .int .i64 0]) (t := 27) ?hr ?_; (case hd => rfl); (case hg => rfl); (case hr => first | (go_simp; done) | (go_simp; rfl))
    intro b6 hg_ W_ ho_ hb_
    replace HS := HS.box hg_ ho_ hb_
    clear hg_ ho_ hb_
    obtain ⟨z20, z21, z22, z23, z24, f20, f21, f22, f23, f24⟩ := box5 (HS.blk 3)
    obtain ⟨z30, z31, z32, f30, f31, f32⟩ := box3 (HS.blk 2)
    refine hK.out _ _ ⟨z20, z21, z22, z23, z24, z30, z31, z32⟩ (fun hHeld => ?_)
    clear hK K z20 z21 z22 z23 z24 f20 f21 f22 f23 f24 z30 z31 z32 f30 f31 f32
    refine norm_ (a' := ?_) ?_ ?_
    rotate_left
    ·show Act.put _ (some 6) _ = _
     simp only [Act.put, List.setIfInBounds_toArray, List.set_cons_zero, List.set_cons_succ, i64_w, i32_w]
     rfl
    refine oneA 1 (some 14) 10 135 HT_ (fun K hK => ?_)
    refine goes_ Tryz.func52 (by kernel_rfl) rfl #[.agg #[.slice A0 ks.length c0, .slice A1 ps.length c1, .slice A2 ss.length c2, .slice A3 ib.length c3, .int .i64 sd]] (by rfl) rfl rfl (by (try simp only [List.map_toArray, List.map_cons, List.map_nil]); first | done | rfl) ?_
    have HC_ := spec_l17Own.calls (n := ⟨ks, ps, ss, ib, sd⟩) (HN.out.below HS.base) T1.out
    refine HC_.mono ?_
    clear HC_ hHeld
    rintro e W_ ⟨u0, u1, u2, u3, rfl, hc_, hb_⟩
    refine ⟨_, rfl, ?_⟩
    replace HS := HS.news hb_ hc_
    clear hc_ hb_
    dsimp only [netA, List.cons_append, List.nil_append] at HS
    obtain ⟨z20, z21, z22, z23, z24, f20, f21, f22, f23, f24⟩ := box5 (HS.blk 7)
    obtain ⟨z30, z31, z32, f30, f31, f32⟩ := box3 (HS.blk 6)
    refine hK.out _ _ ⟨z20, z21, z22, z23, z24, z30, z31, z32⟩ (fun hHeld => ?_)
    clear hK K z20 z21 z22 z23 z24 f20 f21 f22 f23 f24 z30 z31 z32 f30 f31 f32
    refine norm_ (a' := ?_) ?_ ?_
    rotate_left
    ·show Act.put _ (some 14) _ = _
     simp only [Act.put, List.setIfInBounds_toArray, List.set_cons_zero, List.set_cons_succ, i64_w, i32_w]
     rfl
    refine oneA 3 (some 16) 10 143 HT_ (fun K hK => ?_)
    refine goes_ Tryz.func61 (by kernel_rfl) rfl #[.agg #[u0, u1, u2, u3, .int .i64 n1.sd], .agg #[.int .i64 a, .int .i64 b, .string x]] (by rfl) rfl rfl (by (try simp only [List.map_toArray, List.map_cons, List.map_nil]); first | done | rfl) ?_
    have HC_ := spec_l17Step.calls (n := n1) (HS) T2.out
    refine HC_.mono ?_
    clear HC_ hHeld
    rintro e W_ ⟨rfl, HS'_⟩
    refine ⟨_, rfl, ?_⟩
    clear HS
    have HS := HS'_
    clear HS'_
    dsimp only [netA, List.cons_append, List.nil_append] at HS
    obtain ⟨z20, z21, z22, z23, z24, f20, f21, f22, f23, f24⟩ := box5 (HS.blk 7)
    obtain ⟨z30, z31, z32, f30, f31, f32⟩ := box3 (HS.blk 6)
    refine hK.out _ _ ⟨z20, z21, z22, z23, z24, z30, z31, z32⟩ (fun hHeld => ?_)
    clear hK K z20 z21 z22 z23 z24 f20 f21 f22 f23 f24 z30 z31 z32 f30 f31 f32
    refine norm_ (a' := ?_) ?_ ?_
    rotate_left
    ·show Act.put _ (some 16) _ = _
     simp only [Act.put, List.setIfInBounds_toArray, List.set_cons_zero, List.set_cons_succ, i64_w, i32_w]
     rfl
    refine pureA 4 (some 12) 10 159 HT_ ?_
    refine pureA 5 (some 17) 10 191 HT_ ?_
    refine pureA 6 (some 18) 10 255 HT_ ?_
    exact norm_ (by simp only [putAll, Act.put, List.setIfInBounds_toArray, List.set_cons_zero, List.set_cons_succ]) (hCont (u0, u1, u2, u3, b6) _ (HS.fr7.fr7.fr7.fr6.fr6.fr6.fr6.fr7))
  clear HS hHeld
  intro s_ W_ HS
  obtain ⟨u0, u1, u2, u3, b6⟩ := s_
  dsimp only at HS
  have hHeld := True.intro
  obtain ⟨B0, d0, rfl⟩ := HS.slR 1
  obtain ⟨B1, d1, rfl⟩ := HS.slS 2
  obtain ⟨B2, d2, rfl⟩ := HS.slS 3
  obtain ⟨B3, d3, rfl⟩ := HS.slS 4
  refine norm_ (a' := ?_) ?_ ?_
  rotate_left
  ·show putAll _ _ = _
   simp only [putAll, Act.put, List.setIfInBounds_toArray, List.set_cons_zero, List.set_cons_succ, i64_w, i32_w]
   rfl
  refine oneA 8 none 10 511 HT_ (fun K hK => ?_)
  clear hHeld
  obtain ⟨z60, z61, z62, z63, z64, f60, f61, f62, f63, f64⟩ := box5 (HS.blk 0)
  refine skip_ (w1 := ?_) (by rfl) rfl ?_ ?_
  rotate_left
  ·go_simp
   rfl
  replace HS := (((((HS.putI 0 0 (.slice B0 n2.ks.length d0) #[.slice B0 n2.ks.length d0, .slice none 0 0, .slice none 0 0, .slice none 0 0, .int .i64 0]).putI 0 1 (.slice B1 n2.ps.length d1) #[.slice B0 n2.ks.length d0, .slice B1 n2.ps.length d1, .slice none 0 0, .slice none 0 0, .int .i64 0]).putI 0 2 (.slice B2 n2.ss.length d2) #[.slice B0 n2.ks.length d0, .slice B1 n2.ps.length d1, .slice B2 n2.ss.length d2, .slice none 0 0, .int .i64 0]).putI 0 3 (.slice B3 n2.ib.length d3) #[.slice B0 n2.ks.length d0, .slice B1 n2.ps.length d1, .slice B2 n2.ss.length d2, .slice B3 n2.ib.length d3, .int .i64 0]).putI 0 4 (.int .i64 n2.sd) #[.slice B0 n2.ks.length d0, .slice B1 n2.ps.length d1, .slice B2 n2.ss.length d2, .slice B3 n2.ib.length d3, .int .i64 n2.sd])
  clear z60 z61 z62 z63 z64 f60 f61 f62 f63 f64
  obtain ⟨z20, z21, z22, z23, z24, f20, f21, f22, f23, f24⟩ := box5 (HS.blk 7)
  obtain ⟨z30, z31, z32, f30, f31, f32⟩ := box3 (HS.blk 6)
  refine hK.out _ _ ⟨z20, z21, z22, z23, z24, z30, z31, z32⟩ (fun hHeld => ?_)
  clear hK K z20 z21 z22 z23 z24 f20 f21 f22 f23 f24 z30 z31 z32 f30 f31 f32
  refine pureA 9 (some 7) 10 1023 HT_ ?_
  refine done_ (done_of HT_.out (by kernel_rfl)) ?_
  clear HT_ HW_ hHeld
  obtain ⟨z60, z61, z62, z63, z64, f60, f61, f62, f63, f64⟩ := box5 (HS.blk 0)
  obtain ⟨z40, z41, z42, z43, z44, f40, f41, f42, f43, f44⟩ := box5 (HS.blk 5)
  cases q with
  | false =>
   rw [if_pos rfl] at h
   obtain ⟨rfl, rfl⟩ := (Prod.mk.injEq _ _ _ _).mp (Option.some.inj h)
   clear h
   go_wp2
   have HF := HS.put5I 5 (.slice none 0 0) (.slice none 0 0) (.slice none 0 0) (.slice none 0 0) (.int .i64 0)
   refine bodyPost_ret (results_ct rfl _ _ b4 27 #[.slice none 0 0, .slice none 0 0, .slice none 0 0, .slice none 0 0, .int .i64 0] (0, 0) _ rfl (by exact (HF.blk 5).out) Tryz.underlying27 rfl (by kernel_rfl)) rfl ?_
   exact ⟨_, _, _, _, rfl, nw_none HF, HF.base⟩
  | true =>
   rw [if_neg (by decide)] at h
   replace h := bS h; obtain ⟨n3, T3, h⟩ := h
   obtain ⟨rfl, rfl⟩ := (Prod.mk.injEq _ _ _ _).mp (Option.some.inj h)
   clear h
   go_wp2_with (first | (go_at_call 52; have HC_ := spec_l17Own.calls (n := n2) (sepNc HS 1) T3.out; refine HC_.mono ?_; clear HC_; rintro e W_ ⟨z0, z1, z2, z3, rfl, hc_, hb_⟩; replace HS := HS.news hb_ hc_; clear hc_ hb_; dsimp only [netA, List.cons_append, List.nil_append] at HS; obtain ⟨E0, f0, rfl⟩ := HS.slR 0; obtain ⟨E1, f1, rfl⟩ := HS.slS 1; obtain ⟨E2, f2, rfl⟩ := HS.slS 2; obtain ⟨E3, f3, rfl⟩ := HS.slS 3; clear z60 z61 z62 z63 z64 f60 f61 f62 f63 f64 z40 z41 z42 z43 z44 f40 f41 f42 f43 f44; obtain ⟨z60, z61, z62, z63, z64, f60, f61, f62, f63, f64⟩ := box5 (HS.blk 4); obtain ⟨z40, z41, z42, z43, z44, f40, f41, f42, f43, f44⟩ := box5 (HS.blk 9)))
   have HF := HS.put5I 9 (.slice E0 n3.ks.length f0) (.slice E1 n3.ps.length f1) (.slice E2 n3.ss.length f2) (.slice E3 n3.ib.length f3) (.int .i64 n3.sd)
   refine bodyPost_ret (results_ct rfl _ _ b4 27 #[.slice E0 n3.ks.length f0, .slice E1 n3.ps.length f1, .slice E2 n3.ss.length f2, .slice E3 n3.ib.length f3, .int .i64 n3.sd] (0, 0) _ rfl (by exact (HF.blk 9).out) Tryz.underlying27 rfl (by kernel_rfl)) rfl ?_
   replace HS := HF
   have HF := HS
   exact ⟨_, _, _, _, rfl, nw_apart HF, HF.base⟩

/-! ### laws_toNetStep: function 29 -/
def laws_toNetStep.f (a0_0 : Int) (a0_1 : Int) (a0_2 : ByteArray) : Option (Int × Int × ByteArray) := some (a0_0, a0_1, a0_2)
set_option maxHeartbeats 8000000 in
set_option maxRecDepth 100000 in
theorem laws_toNetStep.calls (a0_0 : Int) (a0_1 : Int) (a0_2 : ByteArray) (r1 : Int) (r2 : Int) (r3 : ByteArray) (w : World) (h : laws_toNetStep.f a0_0 a0_1 a0_2 = some (r1, r2, r3)) :
  Calls Tryz.prog 29 #[.agg #[.int .i64 a0_0, .int .i64 a0_1, .string a0_2]] w fun e w' => e = .returned (.agg #[.int .i64 r1, .int .i64 r2, .string r3]) ∧ Below w.heap.size w w' := by
 have hu50 := Tryz.underlying50
 have hu53 := Tryz.underlying53
 have HB := Aside0.mk (Below.refl w.heap.size w)
 have H : (some (a0_0, a0_1, a0_2)) = some (r1, r2, r3) := h
 clear h
 simp only [Option.some.injEq, Prod.mk.injEq] at H
 obtain ⟨rfl, rfl, rfl⟩ := H
 go_enter Tryz.func29, Tryz.ntmps29
 go_wp2_with (first | ((with_reducible refine gate_dst (N := 1) rfl ?_); refine boxev 1 #[.int .i64 a0_0, .int .i64 a0_1, .string a0_2] 50 ?_; intro gb256 hg w2 hbox hb; have BK256 := ak (hbox); have GW256 := ak (hgl hg (belowd HB)); have GE256 := ak (hgl hg (belowd HB)); replace HB := ak (below_step (belowd HB) hb); clear hb hbox hg) | ((with_reducible refine gate_dst (N := 2) rfl ?_); refine box_event ?hg (N := 2) ?hd (cs := #[.int .i64 0, .int .i64 0, .string (⟨#[]⟩ : ByteArray)]) (t := 53) ?hr ?_; (case hd => rfl); (case hg => rfl); (case hr => first | (go_simp; done) | (go_simp; rfl)); intro gb257 hg w3 hbox hb; have BK257 := ak (hbox); have GW257 := ak (hgl hg (belowg1 HB GE256)); have GE257 := ak (hgl hg (belowg1 HB GE256)); replace HB := ak (below_step (belowg1 HB GE256) hb); have NB256_257 := ak ((by rw [hg]; exact Nat.ne_of_lt (blk_lt (blkd BK256)) : gb256 ≠ gb257)); have NB257_256 := ak ((by rw [hg]; exact Nat.ne_of_gt (blk_lt (blkd BK256)) : gb257 ≠ gb256)); replace BK256 := ak (blk_below (blkd BK256) hb); clear hb hbox hg) | ((with_reducible refine gate_dst (N := 3) rfl ?_); refine box_event ?hg (N := 3) ?hd (cs := #[.int .i64 0, .int .i64 0, .string (⟨#[]⟩ : ByteArray)]) (t := 53) ?hr ?_; (case hd => rfl); (case hg => rfl); (case hr => first | (go_simp; done) | (go_simp; rfl)); intro gb258 hg w4 hbox hb; have BK258 := ak (hbox); have GW258 := ak (hgl hg (belowg2 HB GE256 GE257)); have GE258 := ak (hgl hg (belowg2 HB GE256 GE257)); replace HB := ak (below_step (belowg2 HB GE256 GE257) hb); have NB256_258 := ak ((by rw [hg]; exact Nat.ne_of_lt (blk_lt (blkd BK256)) : gb256 ≠ gb258)); have NB258_256 := ak ((by rw [hg]; exact Nat.ne_of_gt (blk_lt (blkd BK256)) : gb258 ≠ gb256)); replace BK256 := ak (blk_below (blkd BK256) hb); have NB257_258 := ak ((by rw [hg]; exact Nat.ne_of_lt (blk_lt (g := gb257) (o := .cells #[.int .i64 0, .int .i64 0, .string (⟨#[]⟩ : ByteArray)] 53 (0, 0)) (blkd BK257)) : gb257 ≠ gb258)); have NB258_257 := ak ((by rw [hg]; exact Nat.ne_of_gt (blk_lt (g := gb257) (o := .cells #[.int .i64 0, .int .i64 0, .string (⟨#[]⟩ : ByteArray)] 53 (0, 0)) (blkd BK257)) : gb258 ≠ gb257)); replace BK257 := ak (blk_below (g := gb257) (o := .cells #[.int .i64 0, .int .i64 0, .string (⟨#[]⟩ : ByteArray)] 53 (0, 0)) (blkd BK257) hb); clear hb hbox hg; have hnb5 := NB256_257.out; have hnc5 := NB257_256.out; have hnb6 := NB256_258.out; have hnc6 := NB258_256.out; obtain ⟨hcz7_0, hcz7_1, hcz7_2, hfz7_0, hfz7_1, hfz7_2⟩ := box3 BK256; have hnb8 := NB258_257.out; have hnc8 := NB257_258.out; obtain ⟨hcz9_0, hcz9_1, hcz9_2, hfz9_0, hfz9_1, hfz9_2⟩ := box3 BK258; obtain ⟨hcz10_0, hcz10_1, hcz10_2, hfz10_0, hfz10_1, hfz10_2⟩ := box3 BK257))
 refine bodyPost_ret (results_cell_row rfl _ _ gb257 53 #[.int .i64 a0_0, .int .i64 a0_1, .string a0_2] (0, 0) _ rfl (by (with_reducible repeat (first | refine blk_drewN ?_ _ | refine blk_drew ?_ | refine blk_alloc ?_ _)); refine blk_put (cs := #[.int .i64 a0_0, .int .i64 a0_1, .string (⟨#[]⟩ : ByteArray)]) ?_ 2 _ rfl; (with_reducible repeat (first | refine blk_drewN ?_ _ | refine blk_drew ?_ | refine blk_alloc ?_ _)); refine blk_put (cs := #[.int .i64 a0_0, .int .i64 0, .string (⟨#[]⟩ : ByteArray)]) ?_ 1 _ rfl; (with_reducible repeat (first | refine blk_drewN ?_ _ | refine blk_drew ?_ | refine blk_alloc ?_ _)); refine blk_put (cs := #[.int .i64 0, .int .i64 0, .string (⟨#[]⟩ : ByteArray)]) ?_ 0 _ rfl; (with_reducible repeat (first | refine blk_drewN ?_ _ | refine blk_drew ?_ | refine blk_alloc ?_ _)); refine blk_far ?_ NB257_258.out _; (with_reducible repeat (first | refine blk_drewN ?_ _ | refine blk_drew ?_ | refine blk_alloc ?_ _)); refine blk_far ?_ NB257_258.out _; (with_reducible repeat (first | refine blk_drewN ?_ _ | refine blk_drew ?_ | refine blk_alloc ?_ _)); refine blk_far ?_ NB257_258.out _; (with_reducible repeat (first | refine blk_drewN ?_ _ | refine blk_drew ?_ | refine blk_alloc ?_ _)); exact BK257.out) Tryz.underlying53 rfl (by kernel_rfl)) rfl ?_
 exact ⟨er2, belowg3 HB GE256 GE257 GE258⟩

/-! ### impl_within: function 70 -/
def impl_within.f (a0 : Int) (a1 : Int) (a2 : Int) : Option (Bool) := if a0 ≥ a1 then (some (decide (a0 ≤ a2))) else (some false)
set_option maxHeartbeats 8000000 in
set_option maxRecDepth 100000 in
theorem impl_within.calls (a0 : Int) (a1 : Int) (a2 : Int) (r : Bool) (w : World) (h : impl_within.f a0 a1 a2 = some r) :
  Calls Tryz.prog 70 #[.int .i64 a0, .int .i64 a1, .int .i64 a2] w fun e w' => e = .returned (.bool r) ∧ Drawn0 w w' := by
 have H : (if a0 ≥ a1 then (some (decide (a0 ≤ a2))) else (some false)) = some r := h
 clear h
 by_cases c4 : a0 ≥ a1
 ·rw [if_pos c4] at H
  have c4b0 : decide (a1 ≤ a0) = true := decide_eq_true c4
  clear c4
  obtain rfl := Option.some.inj H
  go_enter Tryz.func70, Tryz.ntmps70
  go_wp2
  go_ret
  exact ⟨er, drw⟩
 ·rw [if_neg c4] at H
  have c4b0 : decide (a1 ≤ a0) = false := decide_eq_false c4
  clear c4
  obtain rfl := Option.some.inj H
  go_enter Tryz.func70, Tryz.ntmps70
  go_wp2
  go_ret
  exact ⟨er, drw⟩

end Go.Proofs.YtihekdlcfohkkaaGreatDoor.QFnExactStepNet
