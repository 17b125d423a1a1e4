-- printed by this session's own program (wip/tools/pp.py: the kit's print.py with changes); Lean checks it
import Derived.Test.YtihekdlcfohkkaaGreatDoorQFnExactStepNetx0
import Derived.Test.YtihekdlcfohkkaaGreatDoorQFnExactStepNetx1
import Derived.Test.YtihekdlcfohkkaaGreatDoorQFnExactStepNetx2
import Derived.Test.YtihekdlcfohkkaaGreatDoorQFnExactStepNetx3
import Derived.Test.YtihekdlcfohkkaaGreatDoorQFnExactStepNetx7
import Derived.Test.YtihekdlcfohkkaaGreatDoorQFnExactStepNetx12
namespace Go.Proofs.YtihekdlcfohkkaaGreatDoor.QFnExactStepNet
open Go.RowKit Go.Proofs.YtihekdlcfohkkaaGreatDoorW.PrintWords Go.Proofs.YtihekdlcfohkkaaGreatDoorW.PrintLast Go.Proofs.YtihekdlcfohkkaaGreatDoorW.PrintMore
attribute [local go_sem] max2_int min2_int max_two min_two max_three min_three max_four min_four strLss strGtr strLeq strGeq   -- for this text's walks alone
set_option linter.unusedVariables false
set_option linter.unusedSimpArgs false

/-! ### what a law asks of nets -/
theorem nw_eq {k : Nat} {v0 v1 v2 v3 u0 u1 u2 u3 : Value} {n m : Nt} {r : Bool} {w : World} (hn : NC w v0 v1 v2 v3 n) (hm : NC w u0 u1 u2 u3 m) (h : laws_eqNet.f k n.ks n.ps n.ss n.ib n.sd m.ks m.ps m.ss m.ib m.sd = some r) :
    Calls Tryz.prog 12 #[.agg #[v0, v1, v2, v3, .int .i64 n.sd], .agg #[u0, u1, u2, u3, .int .i64 m.sd]] w fun e w' => e = .returned (.bool r) ∧ Below w.heap.size w w' := by
  obtain ⟨A0, c0, A1, c1, A2, c2, A3, c3, ⟨rfl, rfl, rfl, rfl⟩, ⟨r0, l0⟩, ⟨r1, l1⟩, ⟨r2, l2⟩, ⟨r3, l3⟩⟩ := hn
  obtain ⟨B0, d0, B1, d1, B2, d2, B3, d3, ⟨rfl, rfl, rfl, rfl⟩, ⟨s0, m0⟩, ⟨s1, m1⟩, ⟨s2, m2⟩, ⟨s3, m3⟩⟩ := hm
  exact laws_eqNet.calls k A0 c0 n.ks A1 c1 n.ps A2 c2 n.ss A3 c3 n.ib n.sd B0 d0 m.ks B1 d1 m.ps B2 d2 m.ss B3 d3 m.ib m.sd r w r0 l0 r1 l1 r2 l2 r3 l3 s0 m0 s1 m1 s2 m2 s3 m3 h
/-- The net that stands first is written. -/
theorem nw_mark {k : Nat} {v0 v1 v2 v3 : Value} {n : Nt} {a r : Int} {m0 : List Int} {m1 m2 m3 : List (List ByteArray)} {L : List SA} {w0 w : World} (hs : Sep w0 w (netA v0 v1 v2 v3 n ++ L)) (h : laws_markNet.f k n.ks n.ps n.ss n.ib n.sd a = some (r, m0, m1, m2, m3)) :
    Calls Tryz.prog 13 #[.agg #[v0, v1, v2, v3, .int .i64 n.sd], .int .i64 a] w fun e w' => e = .returned (.int .i64 r) ∧ Sep w0 w' (netA v0 v1 v2 v3 ⟨m0, m1, m2, m3, n.sd⟩ ++ L) := by
  obtain ⟨hB, c, hs⟩ := hs
  obtain ⟨h0, h1, h2, h3, hL⟩ := hs
  refine (laws_markNet.calls k _ v0 n.ks _ v1 n.ps _ v2 n.ss _ v3 n.ib n.sd a r m0 m1 m2 m3 w0 w hB h0 h1 h2 h3 (fun k a b => by omega) (fun k a b => by omega) (fun k a b => by omega) (fun k a b => by omega) (fun k a b => by omega) (fun k a b => by omega) h).mono ?_
  rintro e w' ⟨rfl, g0, g1, g2, g3, hb, hk⟩
  refine ⟨rfl, hb, c, g0, g1, g2, g3, ?_⟩
  exact SepAt.to (i := 4) 0 hL (fun k j hj hkj hlt _ => ⟨hkj, hk.2 k hlt (fun e => by omega)⟩)
/-! ### what a law asks of nets: what is held -/
theorem nw_held {k : Nat} {v0 v1 v2 v3 : Value} {n : Nt} {a r : Int} {w : World} (hn : NC w v0 v1 v2 v3 n) (h : laws_heldNet.f k n.ks n.ps n.ss n.ib n.sd a = some r) :
    Calls Tryz.prog 14 #[.agg #[v0, v1, v2, v3, .int .i64 n.sd], .int .i64 a] w fun e w' => e = .returned (.int .i64 r) ∧ Below w.heap.size w w' := by
  obtain ⟨A0, c0, A1, c1, A2, c2, A3, c3, ⟨rfl, rfl, rfl, rfl⟩, ⟨r0, l0⟩, ⟨r1, l1⟩, ⟨r2, l2⟩, ⟨r3, l3⟩⟩ := hn
  exact laws_heldNet.calls k A0 c0 n.ks A1 c1 n.ps A2 c2 n.ss A3 c3 n.ib n.sd a r w r0 l0 r1 l1 r2 l2 r3 l3 h
theorem nw_sz {k : Nat} {v0 v1 v2 v3 : Value} {n : Nt} {a r : Int} {w : World} (hn : NC w v0 v1 v2 v3 n) (h : laws_szNet.f k n.ks n.ps n.ss n.ib n.sd a = some r) :
    Calls Tryz.prog 8 #[.agg #[v0, v1, v2, v3, .int .i64 n.sd], .int .i64 a] w fun e w' => e = .returned (.int .i64 r) ∧ Below w.heap.size w w' := by
  obtain ⟨A0, c0, A1, c1, A2, c2, A3, c3, ⟨rfl, rfl, rfl, rfl⟩, ⟨x0, y0⟩, ⟨x1, y1⟩, ⟨x2, y2⟩, ⟨x3, y3⟩⟩ := hn
  exact laws_szNet.calls k A0 c0 n.ks A1 c1 n.ps A2 c2 n.ss A3 c3 n.ib n.sd a r w x0 y0 x1 y1 x2 y2 x3 y3 h
/-! ### laws_FnExactStepNet: function 5 -/
def laws_FnExactStepNet.T8 : Bool × List (List Nat × List Nat) := (true, [([], []), ([0], [0]), ([], []), ([2, 1], [2]), ([1, 3, 3], [1, 3]), ([4], [4]), ([5], [5]), ([5], [5]), ([], []), ([8, 6, 4, 0, 1, 2, 3, 4, 5, 6, 8], [6, 8]), ([7, 9, 0, 1, 2, 3, 4, 5, 6, 7, 8, 9], [7])])
def laws_FnExactStepNet.B8 : List Nat := [0, 1, 0, 7, 15, 31, 63, 63, 0, 383, 1023]
theorem laws_FnExactStepNet.tab8 : rtab .any (opsOf Tryz.f5 8) = laws_FnExactStepNet.T8 := by kernel_rfl
theorem laws_FnExactStepNet.bits8 : waitsOk laws_FnExactStepNet.T8.2 laws_FnExactStepNet.B8 = true := by kernel_rfl
def laws_FnExactStepNet.T10 : Bool × List (List Nat × List Nat) := (true, [([], []), ([], []), ([1], [1]), ([0, 2, 2], [0, 2]), ([3], [3]), ([4], [4]), ([4], [4]), ([], []), ([7, 5, 3, 0, 1, 2, 3, 4, 5, 7], [5, 7]), ([6, 8, 0, 1, 2, 3, 4, 5, 6, 7, 8], [6])])
def laws_FnExactStepNet.B10 : List Nat := [0, 0, 2, 7, 15, 31, 31, 0, 191, 511]
theorem laws_FnExactStepNet.tab10 : rtab .any (opsOf Tryz.f5 10) = laws_FnExactStepNet.T10 := by kernel_rfl
theorem laws_FnExactStepNet.bits10 : waitsOk laws_FnExactStepNet.T10.2 laws_FnExactStepNet.B10 = true := by kernel_rfl
def laws_FnExactStepNet.T13 : Bool × List (List Nat × List Nat) := (true, [([], []), ([], []), ([1], [1]), ([0, 2, 2], [0, 2]), ([3], [3])])
def laws_FnExactStepNet.B13 : List Nat := [0, 0, 2, 7, 15]
theorem laws_FnExactStepNet.tab13 : rtab .any (opsOf Tryz.f5 13) = laws_FnExactStepNet.T13 := by kernel_rfl
theorem laws_FnExactStepNet.bits13 : waitsOk laws_FnExactStepNet.T13.2 laws_FnExactStepNet.B13 = true := by kernel_rfl
def laws_FnExactStepNet.T27 : Bool × List (List Nat × List Nat) := (true, [([], []), ([0], [0]), ([], []), ([2, 1], [2]), ([1, 3, 3], [1, 3]), ([4], [4]), ([5], [5]), ([5], [5]), ([], []), ([8, 6, 4, 0, 1, 2, 3, 4, 5, 6, 8], [6, 8]), ([7, 9, 0, 1, 2, 3, 4, 5, 6, 7, 8, 9], [7])])
def laws_FnExactStepNet.B27 : List Nat := [0, 1, 0, 7, 15, 31, 63, 63, 0, 383, 1023]
theorem laws_FnExactStepNet.tab27 : rtab .any (opsOf Tryz.f5 27) = laws_FnExactStepNet.T27 := by kernel_rfl
theorem laws_FnExactStepNet.bits27 : waitsOk laws_FnExactStepNet.T27.2 laws_FnExactStepNet.B27 = true := by kernel_rfl
def laws_FnExactStepNet.f (k : Nat) (l0_0 : List Int) (l0_1 l0_2 l0_3 : List (List ByteArray)) (a0_4 : Int) (a1_0 a1_1 : Int) (a1_2 : ByteArray) : Option Bool :=
 (laws_szNet.f k l0_0 l0_1 l0_2 l0_3 a0_4 1048576).bind fun z => if z < 0 then some true else
 (laws_szNetStep.f a1_0 a1_1 a1_2 z).bind fun y => if y < 0 then some true else
 (laws_toNetStep.f a1_0 a1_1 a1_2).bind fun (t1, t2, t3) =>
 (laws_toNet.f k l0_0 l0_1 l0_2 l0_3 a0_4).bind fun (x1, x2, x3, x4, x5) => (spec_StepNet.f k ⟨x1, x2, x3, x4, x5⟩ t1 t2 t3).bind fun (W, w6) => (impl_StepNet.f k ⟨x1, x2, x3, x4, x5⟩ t1 t2 t3).bind fun (G, g6) =>
 (laws_eqNet.f k G.ks G.ps G.ss G.ib G.sd W.ks W.ps W.ss W.ib W.sd).bind fun e1 => if e1 = true ∧ g6 = w6 then
 (laws_eqNet.f k x1 x2 x3 x4 x5 x1 x2 x3 x4 x5).bind fun e2 => if e2 = true then
 (laws_markNet.f k x1 x2 x3 x4 x5 1).bind fun (m, m1, m2, m3, m4) => if 0 ≤ m then
 (laws_markNet.f k G.ks G.ps G.ss G.ib G.sd 1).bind fun (q, q1, q2, q3, q4) => (laws_heldNet.f k q1 q2 q3 q4 G.sd 1).bind fun q' => if 0 ≤ q' ∧ q' = q then some true else none
 else none else none else none
set_option maxHeartbeats 16000000 in
set_option maxRecDepth 100000 in
theorem laws_FnExactStepNet.calls (k : Nat) (A0_0 : Option Addr) (c0_0 : Nat) (l0_0 : List Int) (A0_1 : Option Addr) (c0_1 : Nat) (l0_1 : List (List ByteArray)) (A0_2 : Option Addr) (c0_2 : Nat) (l0_2 : List (List ByteArray)) (A0_3 : Option Addr) (c0_3 : Nat) (l0_3 : List (List ByteArray)) (a0_4 : Int) (a1_0 a1_1 : Int) (a1_2 : ByteArray) (r : Bool) (w : World) (hr0_0 : KI.C w A0_0 l0_0.length l0_0) (hc0_0 : l0_0.length ≤ c0_0) (hr0_1 : KT.C w A0_1 l0_1.length l0_1) (hc0_1 : l0_1.length ≤ c0_1) (hr0_2 : KT.C w A0_2 l0_2.length l0_2) (hc0_2 : l0_2.length ≤ c0_2) (hr0_3 : KT.C w A0_3 l0_3.length l0_3) (hc0_3 : l0_3.length ≤ c0_3) (h : laws_FnExactStepNet.f k l0_0 l0_1 l0_2 l0_3 a0_4 a1_0 a1_1 a1_2 = some r) (hr_ : r = true) :
  Calls Tryz.prog 5 #[.agg #[.slice A0_0 l0_0.length c0_0, .slice A0_1 l0_1.length c0_1, .slice A0_2 l0_2.length c0_2, .slice A0_3 l0_3.length c0_3, .int .i64 a0_4], .agg #[.int .i64 a1_0, .int .i64 a1_1, .string a1_2]] w fun e w' => e = .returned (.bool r) ∧ Below w.heap.size w w' := by
 subst hr_
 have hu25 := Tryz.underlying25
 have hu27 := Tryz.underlying27
 have hu53 := Tryz.underlying53
 have hu50 := Tryz.underlying50
 have HN := ak (show NC w (.slice A0_0 l0_0.length c0_0) (.slice A0_1 l0_1.length c0_1) (.slice A0_2 l0_2.length c0_2) (.slice A0_3 l0_3.length c0_3) ⟨l0_0, l0_1, l0_2, l0_3, a0_4⟩ from ⟨_, _, _, _, _, _, _, _, ⟨rfl, rfl, rfl, rfl⟩, ⟨hr0_0, hc0_0⟩, ⟨hr0_1, hc0_1⟩, ⟨hr0_2, hc0_2⟩, ⟨hr0_3, hc0_3⟩⟩)
 clear hr0_0 hc0_0 hr0_1 hc0_1 hr0_2 hc0_2 hr0_3 hc0_3
 have HS := Sep.nil w
 unfold laws_FnExactStepNet.f at h
 replace h := bS h; obtain ⟨z, T0, h⟩ := h
 by_cases c1 : z < 0
 ·have c1b0 : decide (z < 0) = true := decide_eq_true c1
  clear h c1
  go_enter Tryz.func5, Tryz.ntmps5
  go_wp2_with (first | ((with_reducible refine gate_dst (N := 2) rfl ?_); refine boxev 2 #[.slice A0_0 l0_0.length c0_0, .slice A0_1 l0_1.length c0_1, .slice A0_2 l0_2.length c0_2, .slice A0_3 l0_3.length c0_3, .int .i64 a0_4] 25 ?_; intro b2 hg_ W_ ho_ hb_; replace HS := HS.box hg_ ho_ hb_; clear hg_ ho_ hb_; obtain ⟨z20, z21, z22, z23, z24, f20, f21, f22, f23, f24⟩ := box5 (HS.blk 0)) | ((with_reducible refine gate_dst (N := 3) rfl ?_); refine boxev 3 #[.int .i64 a1_0, .int .i64 a1_1, .string a1_2] 50 ?_; intro b3 hg_ W_ ho_ hb_; replace HS := HS.box hg_ ho_ hb_; clear hg_ ho_ hb_; clear z20 z21 z22 z23 z24 f20 f21 f22 f23 f24; obtain ⟨z30, z31, z32, f30, f31, f32⟩ := box3 (HS.blk 0); clear z30 z31 z32 f30 f31 f32; obtain ⟨z20, z21, z22, z23, z24, f20, f21, f22, f23, f24⟩ := box5 (HS.blk 1); obtain ⟨z30, z31, z32, f30, f31, f32⟩ := box3 (HS.blk 0)) | (go_at_call 8; have HC_ := nw_sz (n := ⟨l0_0, l0_1, l0_2, l0_3, a0_4⟩) (HN.out.below HS.base) T0.out; refine HC_.mono ?_; clear HC_; rintro e W_ ⟨rfl, hb_⟩; replace HS := HS.below hb_; clear hb_; clear z20 z21 z22 z23 z24 f20 f21 f22 f23 f24 z30 z31 z32 f30 f31 f32; obtain ⟨z20, z21, z22, z23, z24, f20, f21, f22, f23, f24⟩ := box5 (HS.blk 1); obtain ⟨z30, z31, z32, f30, f31, f32⟩ := box3 (HS.blk 0)))
  go_ret
  exact ⟨er, HS.base⟩
 ·rw [if_neg c1] at h
  have c1b0 : decide (z < 0) = false := decide_eq_false c1
  clear c1
  replace h := bS h; obtain ⟨y, T9, h⟩ := h
  by_cases c2 : y < 0
  ·have c2b0 : decide (y < 0) = true := decide_eq_true c2
   clear h c2
   go_enter Tryz.func5, Tryz.ntmps5
   go_wp2_with (first | ((with_reducible refine gate_dst (N := 2) rfl ?_); refine boxev 2 #[.slice A0_0 l0_0.length c0_0, .slice A0_1 l0_1.length c0_1, .slice A0_2 l0_2.length c0_2, .slice A0_3 l0_3.length c0_3, .int .i64 a0_4] 25 ?_; intro b2 hg_ W_ ho_ hb_; replace HS := HS.box hg_ ho_ hb_; clear hg_ ho_ hb_; obtain ⟨z20, z21, z22, z23, z24, f20, f21, f22, f23, f24⟩ := box5 (HS.blk 0)) | ((with_reducible refine gate_dst (N := 3) rfl ?_); refine boxev 3 #[.int .i64 a1_0, .int .i64 a1_1, .string a1_2] 50 ?_; intro b3 hg_ W_ ho_ hb_; replace HS := HS.box hg_ ho_ hb_; clear hg_ ho_ hb_; clear z20 z21 z22 z23 z24 f20 f21 f22 f23 f24; obtain ⟨z30, z31, z32, f30, f31, f32⟩ := box3 (HS.blk 0); clear z30 z31 z32 f30 f31 f32; obtain ⟨z20, z21, z22, z23, z24, f20, f21, f22, f23, f24⟩ := box5 (HS.blk 1); obtain ⟨z30, z31, z32, f30, f31, f32⟩ := box3 (HS.blk 0)) | (go_at_call 8; have HC_ := nw_sz (n := ⟨l0_0, l0_1, l0_2, l0_3, a0_4⟩) (HN.out.below HS.base) T0.out; refine HC_.mono ?_; clear HC_; rintro e W_ ⟨rfl, hb_⟩; replace HS := HS.below hb_; clear hb_; clear z20 z21 z22 z23 z24 f20 f21 f22 f23 f24 z30 z31 z32 f30 f31 f32; obtain ⟨z20, z21, z22, z23, z24, f20, f21, f22, f23, f24⟩ := box5 (HS.blk 1); obtain ⟨z30, z31, z32, f30, f31, f32⟩ := box3 (HS.blk 0)) | (go_at_call 27; refine (laws_szNetStep.calls a1_0 a1_1 a1_2 z _ _ T9.out).mono ?_; rintro e W_ ⟨rfl, hb_⟩; replace HS := HS.below hb_; clear hb_; clear z20 z21 z22 z23 z24 f20 f21 f22 f23 f24 z30 z31 z32 f30 f31 f32; obtain ⟨z20, z21, z22, z23, z24, f20, f21, f22, f23, f24⟩ := box5 (HS.blk 1); obtain ⟨z30, z31, z32, f30, f31, f32⟩ := box3 (HS.blk 0)))
   go_ret
   exact ⟨er, HS.base⟩
  ·rw [if_neg c2] at h
   have c2b0 : decide (y < 0) = false := decide_eq_false c2
   clear c2
   replace h := bS h; obtain ⟨⟨t1, t2, t3⟩, T8, h⟩ := h
   replace h := bS h; obtain ⟨⟨x1, x2, x3, x4, x5⟩, T1, h⟩ := h
   replace h := bS h; obtain ⟨⟨⟨w1, w2, w3, w4, w5⟩, w6⟩, T2, h⟩ := h
   replace h := bS h; obtain ⟨⟨⟨g1, g2, g3, g4, g5⟩, g6⟩, T3, h⟩ := h
   replace h := bS h; obtain ⟨e1, T4, h⟩ := h
   replace h := ifS h; obtain ⟨⟨rfl, rfl⟩, h⟩ := h
   replace h := bS h; obtain ⟨e2, T5, h⟩ := h
   replace h := ifS h; obtain ⟨rfl, h⟩ := h
   replace h := bS h; obtain ⟨⟨m, m1, m2, m3, m4⟩, T6, h⟩ := h
   replace h := ifS h; obtain ⟨hm, h⟩ := h
   replace h := bS h; obtain ⟨⟨q, q1, q2, q3, q4⟩, T7, h⟩ := h
   replace h := bS h; obtain ⟨q', T10, h⟩ := h
   replace h := ifS h; obtain ⟨⟨hq, rfl⟩, h⟩ := h
   clear h
   dsimp only at T4 T7 T10
   have hm0 : decide (m < 0) = false := decide_eq_false (by omega)
   have hq0 : decide (q' < 0) = false := decide_eq_false (by omega)
   have hq1 : (q' != q') = false := bne_self_eq_false q'
   have hg6 : (g6 != g6) = false := bne_self_eq_false g6
   clear hm hq
   go_enter Tryz.func5, Tryz.ntmps5
   go_upto_region 8 with (first | ((with_reducible refine gate_dst (N := 2) rfl ?_); refine boxev 2 #[.slice A0_0 l0_0.length c0_0, .slice A0_1 l0_1.length c0_1, .slice A0_2 l0_2.length c0_2, .slice A0_3 l0_3.length c0_3, .int .i64 a0_4] 25 ?_; intro b2 hg_ W_ ho_ hb_; replace HS := HS.box hg_ ho_ hb_; clear hg_ ho_ hb_; obtain ⟨z20, z21, z22, z23, z24, f20, f21, f22, f23, f24⟩ := box5 (HS.blk 0)) | ((with_reducible refine gate_dst (N := 3) rfl ?_); refine boxev 3 #[.int .i64 a1_0, .int .i64 a1_1, .string a1_2] 50 ?_; intro b3 hg_ W_ ho_ hb_; replace HS := HS.box hg_ ho_ hb_; clear hg_ ho_ hb_; clear z20 z21 z22 z23 z24 f20 f21 f22 f23 f24; obtain ⟨z30, z31, z32, f30, f31, f32⟩ := box3 (HS.blk 0); clear z30 z31 z32 f30 f31 f32; obtain ⟨z20, z21, z22, z23, z24, f20, f21, f22, f23, f24⟩ := box5 (HS.blk 1); obtain ⟨z30, z31, z32, f30, f31, f32⟩ := box3 (HS.blk 0)) | (go_at_call 8; have HC_ := nw_sz (n := ⟨l0_0, l0_1, l0_2, l0_3, a0_4⟩) (HN.out.below HS.base) T0.out; refine HC_.mono ?_; clear HC_; rintro e W_ ⟨rfl, hb_⟩; replace HS := HS.below hb_; clear hb_; clear z20 z21 z22 z23 z24 f20 f21 f22 f23 f24 z30 z31 z32 f30 f31 f32; obtain ⟨z20, z21, z22, z23, z24, f20, f21, f22, f23, f24⟩ := box5 (HS.blk 1); obtain ⟨z30, z31, z32, f30, f31, f32⟩ := box3 (HS.blk 0)) | (go_at_call 27; refine (laws_szNetStep.calls a1_0 a1_1 a1_2 z _ _ T9.out).mono ?_; rintro e W_ ⟨rfl, hb_⟩; replace HS := HS.below hb_; clear hb_; clear z20 z21 z22 z23 z24 f20 f21 f22 f23 f24 z30 z31 z32 f30 f31 f32; obtain ⟨z20, z21, z22, z23, z24, f20, f21, f22, f23, f24⟩ := box5 (HS.blk 1); obtain ⟨z30, z31, z32, f30, f31, f32⟩ := box3 (HS.blk 0)))
   go_upto_region 8 with fail
   clear z20 z21 z22 z23 z24 f20 f21 f22 f23 f24 z30 z31 z32 f30 f31 f32
   obtain ⟨z30, z31, z32, f30, f31, f32⟩ := box3 (HS.blk 0)
   obtain ⟨z20, z21, z22, z23, z24, f20, f21, f22, f23, f24⟩ := box5 (HS.blk 1)
   refine start_ (n := 11) (S := fun w' => w'.cell? ⟨b3, 0, none⟩ = some (.int .i64 a1_0) ∧ w'.cell? ⟨b3, 1, none⟩ = some (.int .i64 a1_1) ∧ w'.cell? ⟨b3, 2, none⟩ = some (.string a1_2) ∧ w'.cell? ⟨b2, 0, none⟩ = some (.slice A0_0 l0_0.length c0_0) ∧ w'.cell? ⟨b2, 1, none⟩ = some (.slice A0_1 l0_1.length c0_1) ∧ w'.cell? ⟨b2, 2, none⟩ = some (.slice A0_2 l0_2.length c0_2) ∧ w'.cell? ⟨b2, 3, none⟩ = some (.slice A0_3 l0_3.length c0_3) ∧ w'.cell? ⟨b2, 4, none⟩ = some (.int .i64 a0_4)) (ds := []) (bl 11 0) (by kernel_rfl) rfl rfl ⟨z30, z31, z32, z20, z21, z22, z23, z24⟩ (fun hHeld => ?_); refine with_tabW laws_FnExactStepNet.tab8 laws_FnExactStepNet.bits8 (fun HT_ HW_ => ?_)
   clear z30 z31 z32 f30 f31 f32 z20 z21 z22 z23 z24 f20 f21 f22 f23 f24
   replace HS := HS.drew
   generalize World.drew _ = W9_ at HS hHeld ⊢
   refine takeA 0 (some 27) 11 1 HT_ HW_ hHeld ?_ (hy := by rintro w' ⟨s0, s1, s2, s3, s4, s5, s6, s7⟩; go_simp; with_reducible rfl)
   refine takeA 2 (some 29) 11 5 HT_ HW_ hHeld ?_ (hy := by rintro w' ⟨s0, s1, s2, s3, s4, s5, s6, s7⟩; go_simp; with_reducible rfl)
   refine join_ (σ := Value × Value × Value × Value × Value × Value × Value × Value × Nat) 2 (bl 11 511) (fun s_ => [(28, .agg #[s_.1, s_.2.1, s_.2.2.1, s_.2.2.2.1, .int .i64 x5]), (30, .agg #[.int .i64 t1, .int .i64 t2, .string t3]), (31, .tuple #[.agg #[s_.2.2.2.2.1, s_.2.2.2.2.2.1, s_.2.2.2.2.2.2.1, s_.2.2.2.2.2.2.2.1, .int .i64 w5], .bool g6]), (26, .tuple #[.agg #[s_.2.2.2.2.1, s_.2.2.2.2.2.1, s_.2.2.2.2.2.2.1, s_.2.2.2.2.2.2.2.1, .int .i64 w5], .bool g6]), (32, .agg #[s_.2.2.2.2.1, s_.2.2.2.2.2.1, s_.2.2.2.2.2.2.1, s_.2.2.2.2.2.2.2.1, .int .i64 w5]), (33, .bool g6), (6, .pointer (some ⟨s_.2.2.2.2.2.2.2.2, 0, none⟩))]) (fun s_ w' => Sep w w' (bA s_.2.2.2.2.2.2.2.2 #[.slice none 0 0, .slice none 0 0, .slice none 0 0, .slice none 0 0, .int .i64 0] 27 :: rA KI 3 (s_.1) x1 :: sA KT 62 (s_.2.1) x2 :: sA KT 62 (s_.2.2.1) x3 :: sA KT 62 (s_.2.2.2.1) x4 :: rA KI 3 (s_.2.2.2.2.1) w1 :: sA KT 62 (s_.2.2.2.2.2.1) w2 :: sA KT 62 (s_.2.2.2.2.2.2.1) w3 :: sA KT 62 (s_.2.2.2.2.2.2.2.1) w4 :: bA b3 #[.int .i64 a1_0, .int .i64 a1_1, .string a1_2] 50 :: bA b2 #[.slice A0_0 l0_0.length c0_0, .slice A0_1 l0_1.length c0_1, .slice A0_2 l0_2.length c0_2, .slice A0_3 l0_3.length c0_3, .int .i64 a0_4] 25 :: [])) ?_ ?_
   rotate_left
   ·intro hCont
    refine two_ (i := 1) (j := 8) (Ni := some 28) (Nj := some 6) (bl 11 7) (bl 11 261) rfl rfl rfl rfl (by kernel_rfl) (by decide) (by decide) (fun K hK => ?_) (fun K hK => ?_)
    ·skip
     refine goes_ Tryz.func10 (by kernel_rfl) rfl #[.agg #[.slice A0_0 l0_0.length c0_0, .slice A0_1 l0_1.length c0_1, .slice A0_2 l0_2.length c0_2, .slice A0_3 l0_3.length c0_3, .int .i64 a0_4]] (by rfl) rfl rfl (by (try simp only [List.map_toArray, List.map_cons, List.map_nil]); first | done | rfl) ?_
     have HC_ := nw_to (n := ⟨l0_0, l0_1, l0_2, l0_3, a0_4⟩) (HN.out.below HS.base) T1.out
     refine HC_.mono ?_
     clear HC_ hHeld
     rintro e W_ ⟨tv0, tv1, tv2, tv3, rfl, hc_, hb_⟩
     refine ⟨_, rfl, ?_⟩
     replace HS := HS.news hb_ hc_
     clear hc_ hb_
     dsimp only [netA, List.cons_append, List.nil_append] at HS
     obtain ⟨z30, z31, z32, f30, f31, f32⟩ := box3 (HS.blk 4)
     obtain ⟨z20, z21, z22, z23, z24, f20, f21, f22, f23, f24⟩ := box5 (HS.blk 5)
     refine hK.out _ _ ⟨z30, z31, z32, z20, z21, z22, z23, z24⟩ (fun hHeld => ?_)
     clear hK K z30 z31 z32 f30 f31 f32 z20 z21 z22 z23 z24 f20 f21 f22 f23 f24
     refine norm_ (a' := ?_) ?_ ?_
     rotate_left
     ·show Act.put _ (some 28) _ = _
      simp only [Act.put, List.setIfInBounds_toArray, List.set_cons_zero, List.set_cons_succ, i64_w, i32_w]
      rfl
     refine two_ (i := 3) (j := 8) (Ni := some 30) (Nj := some 6) (bl 11 15) (bl 11 263) rfl rfl rfl rfl (by kernel_rfl) (by decide) (by decide) (fun K hK => ?_) (fun K hK => ?_)
     ·skip
      refine goes_ Tryz.func29 (by kernel_rfl) rfl #[.agg #[.int .i64 a1_0, .int .i64 a1_1, .string a1_2]] (by rfl) rfl rfl (by (try simp only [List.map_toArray, List.map_cons, List.map_nil]); first | done | rfl) ?_
      refine (laws_toNetStep.calls a1_0 a1_1 a1_2 t1 t2 t3 _ T8.out).mono ?_
      clear hHeld
      rintro e W_ ⟨rfl, hb_⟩
      refine ⟨_, rfl, ?_⟩
      replace HS := HS.below hb_
      clear hb_
      obtain ⟨z30, z31, z32, f30, f31, f32⟩ := box3 (HS.blk 4)
      obtain ⟨z20, z21, z22, z23, z24, f20, f21, f22, f23, f24⟩ := box5 (HS.blk 5)
      refine hK.out _ _ ⟨z30, z31, z32, z20, z21, z22, z23, z24⟩ (fun hHeld => ?_)
      clear hK K z30 z31 z32 f30 f31 f32 z20 z21 z22 z23 z24 f20 f21 f22 f23 f24
      refine norm_ (a' := ?_) ?_ ?_
      rotate_left
      ·show Act.put _ (some 30) _ = _
       simp only [Act.put, List.setIfInBounds_toArray, List.set_cons_zero, List.set_cons_succ, i64_w, i32_w]
       rfl
      refine two_ (i := 4) (j := 8) (Ni := some 31) (Nj := some 6) (bl 11 31) (bl 11 271) rfl rfl rfl rfl (by kernel_rfl) (by decide) (by decide) (fun K hK => ?_) (fun K hK => ?_)
      ·skip
       refine goes_ Tryz.func28 (by kernel_rfl) rfl #[.agg #[tv0, tv1, tv2, tv3, .int .i64 x5], .agg #[.int .i64 t1, .int .i64 t2, .string t3]] (by rfl) rfl rfl (by (try simp only [List.map_toArray, List.map_cons, List.map_nil]); first | done | rfl) ?_
       have HC_ := spec_StepNet.calls (n := ⟨x1, x2, x3, x4, x5⟩) (sepNc HS 0) T2.out
       refine HC_.mono ?_
       clear HC_ hHeld
       rintro e W_ ⟨wv0, wv1, wv2, wv3, rfl, hc_, hb_⟩
       refine ⟨_, rfl, ?_⟩
       replace HS := HS.news hb_ hc_
       clear hc_ hb_
       dsimp only [netA, List.cons_append, List.nil_append] at HS
       obtain ⟨z30, z31, z32, f30, f31, f32⟩ := box3 (HS.blk 8)
       obtain ⟨z20, z21, z22, z23, z24, f20, f21, f22, f23, f24⟩ := box5 (HS.blk 9)
       refine hK.out _ _ ⟨z30, z31, z32, z20, z21, z22, z23, z24⟩ (fun hHeld => ?_)
       clear hK K z30 z31 z32 f30 f31 f32 z20 z21 z22 z23 z24 f20 f21 f22 f23 f24
       refine norm_ (a' := ?_) ?_ ?_
       rotate_left
       ·show Act.put _ (some 31) _ = _
        simp only [Act.put, List.setIfInBounds_toArray, List.set_cons_zero, List.set_cons_succ, i64_w, i32_w]
        rfl
       refine pureA 5 (some 26) 11 63 HT_ ?_
       refine pureA 6 (some 32) 11 127 HT_ ?_
       refine pureA 7 (some 33) 11 255 HT_ ?_
       refine oneA 8 (some 6) 11 511 HT_ (fun K hK => ?_)
       clear hHeld
       refine box_step ?hg (N := 6) ?hd (cs := #[.slice none 0 0, .slice none 0 0, .slice none 0 0, .slice none 0 0, .int .i64 0]) (t := 27) ?hr ?_; (case hd => rfl); (case hg => rfl); (case hr => first | (go_simp; done) | (go_simp; rfl))
       intro b6 hg_ W_ ho_ hb_
       replace HS := HS.box hg_ ho_ hb_
       clear hg_ ho_ hb_
       obtain ⟨z30, z31, z32, f30, f31, f32⟩ := box3 (HS.blk 9)
       obtain ⟨z20, z21, z22, z23, z24, f20, f21, f22, f23, f24⟩ := box5 (HS.blk 10)
       refine hK.out _ _ ⟨z30, z31, z32, z20, z21, z22, z23, z24⟩ (fun hHeld => ?_)
       clear hK K z30 z31 z32 f30 f31 f32 z20 z21 z22 z23 z24 f20 f21 f22 f23 f24
       refine norm_ (a' := ?_) ?_ ?_
       rotate_left
       ·show Act.put _ (some 6) _ = _
        simp only [Act.put, List.setIfInBounds_toArray, List.set_cons_zero, List.set_cons_succ, i64_w, i32_w]
        rfl
       exact norm_ (by simp only [putAll, Act.put, List.setIfInBounds_toArray, List.set_cons_zero, List.set_cons_succ]) (hCont (tv0, tv1, tv2, tv3, wv0, wv1, wv2, wv3, b6) _ (HS.fr10.fr10.fr6.fr6.fr6.fr6.fr10.fr10.fr10.fr10.fr10))
      ·skip
       clear hHeld
       refine box_step ?hg (N := 6) ?hd (cs := #[.slice none 0 0, .slice none 0 0, .slice none 0 0, .slice none 0 0, .int .i64 0]) (t := 27) ?hr ?_; (case hd => rfl); (case hg => rfl); (case hr => first | (go_simp; done) | (go_simp; rfl))
       intro b6 hg_ W_ ho_ hb_
       replace HS := HS.box hg_ ho_ hb_
       clear hg_ ho_ hb_
       obtain ⟨z30, z31, z32, f30, f31, f32⟩ := box3 (HS.blk 5)
       obtain ⟨z20, z21, z22, z23, z24, f20, f21, f22, f23, f24⟩ := box5 (HS.blk 6)
       refine hK.out _ _ ⟨z30, z31, z32, z20, z21, z22, z23, z24⟩ (fun hHeld => ?_)
       clear hK K z30 z31 z32 f30 f31 f32 z20 z21 z22 z23 z24 f20 f21 f22 f23 f24
       refine norm_ (a' := ?_) ?_ ?_
       rotate_left
       ·show Act.put _ (some 6) _ = _
        simp only [Act.put, List.setIfInBounds_toArray, List.set_cons_zero, List.set_cons_succ, i64_w, i32_w]
        rfl
       refine oneA 4 (some 31) 11 287 HT_ (fun K hK => ?_)
       refine goes_ Tryz.func28 (by kernel_rfl) rfl #[.agg #[tv0, tv1, tv2, tv3, .int .i64 x5], .agg #[.int .i64 t1, .int .i64 t2, .string t3]] (by rfl) rfl rfl (by (try simp only [List.map_toArray, List.map_cons, List.map_nil]); first | done | rfl) ?_
       have HC_ := spec_StepNet.calls (n := ⟨x1, x2, x3, x4, x5⟩) (sepNc HS 1) T2.out
       refine HC_.mono ?_
       clear HC_ hHeld
       rintro e W_ ⟨wv0, wv1, wv2, wv3, rfl, hc_, hb_⟩
       refine ⟨_, rfl, ?_⟩
       replace HS := HS.news hb_ hc_
       clear hc_ hb_
       dsimp only [netA, List.cons_append, List.nil_append] at HS
       obtain ⟨z30, z31, z32, f30, f31, f32⟩ := box3 (HS.blk 9)
       obtain ⟨z20, z21, z22, z23, z24, f20, f21, f22, f23, f24⟩ := box5 (HS.blk 10)
       refine hK.out _ _ ⟨z30, z31, z32, z20, z21, z22, z23, z24⟩ (fun hHeld => ?_)
       clear hK K z30 z31 z32 f30 f31 f32 z20 z21 z22 z23 z24 f20 f21 f22 f23 f24
       refine norm_ (a' := ?_) ?_ ?_
       rotate_left
       ·show Act.put _ (some 31) _ = _
        simp only [Act.put, List.setIfInBounds_toArray, List.set_cons_zero, List.set_cons_succ, i64_w, i32_w]
        rfl
       refine pureA 5 (some 26) 11 319 HT_ ?_
       refine pureA 6 (some 32) 11 383 HT_ ?_
       refine pureA 7 (some 33) 11 511 HT_ ?_
       exact norm_ (by simp only [putAll, Act.put, List.setIfInBounds_toArray, List.set_cons_zero, List.set_cons_succ]) (hCont (tv0, tv1, tv2, tv3, wv0, wv1, wv2, wv3, b6) _ (HS.fr10.fr10.fr5.fr5.fr5.fr5.fr10.fr10.fr10.fr10.fr10))
     ·skip
      clear hHeld
      refine box_step ?hg (N := 6) ?hd (cs := #[.slice none 0 0, .slice none 0 0, .slice none 0 0, .slice none 0 0, .int .i64 0]) (t := 27) ?hr ?_; (case hd => rfl); (case hg => rfl); (case hr => first | (go_simp; done) | (go_simp; rfl))
      intro b6 hg_ W_ ho_ hb_
      replace HS := HS.box hg_ ho_ hb_
      clear hg_ ho_ hb_
      obtain ⟨z30, z31, z32, f30, f31, f32⟩ := box3 (HS.blk 5)
      obtain ⟨z20, z21, z22, z23, z24, f20, f21, f22, f23, f24⟩ := box5 (HS.blk 6)
      refine hK.out _ _ ⟨z30, z31, z32, z20, z21, z22, z23, z24⟩ (fun hHeld => ?_)
      clear hK K z30 z31 z32 f30 f31 f32 z20 z21 z22 z23 z24 f20 f21 f22 f23 f24
      refine norm_ (a' := ?_) ?_ ?_
      rotate_left
      ·show Act.put _ (some 6) _ = _
       simp only [Act.put, List.setIfInBounds_toArray, List.set_cons_zero, List.set_cons_succ, i64_w, i32_w]
       rfl
      refine oneA 3 (some 30) 11 271 HT_ (fun K hK => ?_)
      refine goes_ Tryz.func29 (by kernel_rfl) rfl #[.agg #[.int .i64 a1_0, .int .i64 a1_1, .string a1_2]] (by rfl) rfl rfl (by (try simp only [List.map_toArray, List.map_cons, List.map_nil]); first | done | rfl) ?_
      refine (laws_toNetStep.calls a1_0 a1_1 a1_2 t1 t2 t3 _ T8.out).mono ?_
      clear hHeld
      rintro e W_ ⟨rfl, hb_⟩
      refine ⟨_, rfl, ?_⟩
      replace HS := HS.below hb_
      clear hb_
      obtain ⟨z30, z31, z32, f30, f31, f32⟩ := box3 (HS.blk 5)
      obtain ⟨z20, z21, z22, z23, z24, f20, f21, f22, f23, f24⟩ := box5 (HS.blk 6)
      refine hK.out _ _ ⟨z30, z31, z32, z20, z21, z22, z23, z24⟩ (fun hHeld => ?_)
      clear hK K z30 z31 z32 f30 f31 f32 z20 z21 z22 z23 z24 f20 f21 f22 f23 f24
      refine norm_ (a' := ?_) ?_ ?_
      rotate_left
      ·show Act.put _ (some 30) _ = _
       simp only [Act.put, List.setIfInBounds_toArray, List.set_cons_zero, List.set_cons_succ, i64_w, i32_w]
       rfl
      refine oneA 4 (some 31) 11 287 HT_ (fun K hK => ?_)
      refine goes_ Tryz.func28 (by kernel_rfl) rfl #[.agg #[tv0, tv1, tv2, tv3, .int .i64 x5], .agg #[.int .i64 t1, .int .i64 t2, .string t3]] (by rfl) rfl rfl (by (try simp only [List.map_toArray, List.map_cons, List.map_nil]); first | done | rfl) ?_
      have HC_ := spec_StepNet.calls (n := ⟨x1, x2, x3, x4, x5⟩) (sepNc HS 1) T2.out
      refine HC_.mono ?_
      clear HC_ hHeld
      rintro e W_ ⟨wv0, wv1, wv2, wv3, rfl, hc_, hb_⟩
      refine ⟨_, rfl, ?_⟩
      replace HS := HS.news hb_ hc_
      clear hc_ hb_
      dsimp only [netA, List.cons_append, List.nil_append] at HS
      obtain ⟨z30, z31, z32, f30, f31, f32⟩ := box3 (HS.blk 9)
      obtain ⟨z20, z21, z22, z23, z24, f20, f21, f22, f23, f24⟩ := box5 (HS.blk 10)
      refine hK.out _ _ ⟨z30, z31, z32, z20, z21, z22, z23, z24⟩ (fun hHeld => ?_)
      clear hK K z30 z31 z32 f30 f31 f32 z20 z21 z22 z23 z24 f20 f21 f22 f23 f24
      refine norm_ (a' := ?_) ?_ ?_
      rotate_left
      ·show Act.put _ (some 31) _ = _
       simp only [Act.put, List.setIfInBounds_toArray, List.set_cons_zero, List.set_cons_succ, i64_w, i32_w]
       rfl
      refine pureA 5 (some 26) 11 319 HT_ ?_
      refine pureA 6 (some 32) 11 383 HT_ ?_
      refine pureA 7 (some 33) 11 511 HT_ ?_
      exact norm_ (by simp only [putAll, Act.put, List.setIfInBounds_toArray, List.set_cons_zero, List.set_cons_succ]) (hCont (tv0, tv1, tv2, tv3, wv0, wv1, wv2, wv3, b6) _ (HS.fr10.fr10.fr5.fr5.fr5.fr5.fr10.fr10.fr10.fr10.fr10))
    ·skip
     clear hHeld
     refine box_step ?hg (N := 6) ?hd (cs := #[.slice none 0 0, .slice none 0 0, .slice none 0 0, .slice none 0 0, .int .i64 0]) (t := 27) ?hr ?_; (case hd => rfl); (case hg => rfl); (case hr => first | (go_simp; done) | (go_simp; rfl))
     intro b6 hg_ W_ ho_ hb_
     replace HS := HS.box hg_ ho_ hb_
     clear hg_ ho_ hb_
     obtain ⟨z30, z31, z32, f30, f31, f32⟩ := box3 (HS.blk 1)
     obtain ⟨z20, z21, z22, z23, z24, f20, f21, f22, f23, f24⟩ := box5 (HS.blk 2)
     refine hK.out _ _ ⟨z30, z31, z32, z20, z21, z22, z23, z24⟩ (fun hHeld => ?_)
     clear hK K z30 z31 z32 f30 f31 f32 z20 z21 z22 z23 z24 f20 f21 f22 f23 f24
     refine norm_ (a' := ?_) ?_ ?_
     rotate_left
     ·show Act.put _ (some 6) _ = _
      simp only [Act.put, List.setIfInBounds_toArray, List.set_cons_zero, List.set_cons_succ, i64_w, i32_w]
      rfl
     refine oneA 1 (some 28) 11 263 HT_ (fun K hK => ?_)
     refine goes_ Tryz.func10 (by kernel_rfl) rfl #[.agg #[.slice A0_0 l0_0.length c0_0, .slice A0_1 l0_1.length c0_1, .slice A0_2 l0_2.length c0_2, .slice A0_3 l0_3.length c0_3, .int .i64 a0_4]] (by rfl) rfl rfl (by (try simp only [List.map_toArray, List.map_cons, List.map_nil]); first | done | rfl) ?_
     have HC_ := nw_to (n := ⟨l0_0, l0_1, l0_2, l0_3, a0_4⟩) (HN.out.below HS.base) T1.out
     refine HC_.mono ?_
     clear HC_ hHeld
     rintro e W_ ⟨tv0, tv1, tv2, tv3, rfl, hc_, hb_⟩
     refine ⟨_, rfl, ?_⟩
     replace HS := HS.news hb_ hc_
     clear hc_ hb_
     dsimp only [netA, List.cons_append, List.nil_append] at HS
     obtain ⟨z30, z31, z32, f30, f31, f32⟩ := box3 (HS.blk 5)
     obtain ⟨z20, z21, z22, z23, z24, f20, f21, f22, f23, f24⟩ := box5 (HS.blk 6)
     refine hK.out _ _ ⟨z30, z31, z32, z20, z21, z22, z23, z24⟩ (fun hHeld => ?_)
     clear hK K z30 z31 z32 f30 f31 f32 z20 z21 z22 z23 z24 f20 f21 f22 f23 f24
     refine norm_ (a' := ?_) ?_ ?_
     rotate_left
     ·show Act.put _ (some 28) _ = _
      simp only [Act.put, List.setIfInBounds_toArray, List.set_cons_zero, List.set_cons_succ, i64_w, i32_w]
      rfl
     refine oneA 3 (some 30) 11 271 HT_ (fun K hK => ?_)
     refine goes_ Tryz.func29 (by kernel_rfl) rfl #[.agg #[.int .i64 a1_0, .int .i64 a1_1, .string a1_2]] (by rfl) rfl rfl (by (try simp only [List.map_toArray, List.map_cons, List.map_nil]); first | done | rfl) ?_
     refine (laws_toNetStep.calls a1_0 a1_1 a1_2 t1 t2 t3 _ T8.out).mono ?_
     clear hHeld
     rintro e W_ ⟨rfl, hb_⟩
     refine ⟨_, rfl, ?_⟩
     replace HS := HS.below hb_
     clear hb_
     obtain ⟨z30, z31, z32, f30, f31, f32⟩ := box3 (HS.blk 5)
     obtain ⟨z20, z21, z22, z23, z24, f20, f21, f22, f23, f24⟩ := box5 (HS.blk 6)
     refine hK.out _ _ ⟨z30, z31, z32, z20, z21, z22, z23, z24⟩ (fun hHeld => ?_)
     clear hK K z30 z31 z32 f30 f31 f32 z20 z21 z22 z23 z24 f20 f21 f22 f23 f24
     refine norm_ (a' := ?_) ?_ ?_
     rotate_left
     ·show Act.put _ (some 30) _ = _
      simp only [Act.put, List.setIfInBounds_toArray, List.set_cons_zero, List.set_cons_succ, i64_w, i32_w]
      rfl
     refine oneA 4 (some 31) 11 287 HT_ (fun K hK => ?_)
     refine goes_ Tryz.func28 (by kernel_rfl) rfl #[.agg #[tv0, tv1, tv2, tv3, .int .i64 x5], .agg #[.int .i64 t1, .int .i64 t2, .string t3]] (by rfl) rfl rfl (by (try simp only [List.map_toArray, List.map_cons, List.map_nil]); first | done | rfl) ?_
     have HC_ := spec_StepNet.calls (n := ⟨x1, x2, x3, x4, x5⟩) (sepNc HS 0) T2.out
     refine HC_.mono ?_
     clear HC_ hHeld
     rintro e W_ ⟨wv0, wv1, wv2, wv3, rfl, hc_, hb_⟩
     refine ⟨_, rfl, ?_⟩
     replace HS := HS.news hb_ hc_
     clear hc_ hb_
     dsimp only [netA, List.cons_append, List.nil_append] at HS
     obtain ⟨z30, z31, z32, f30, f31, f32⟩ := box3 (HS.blk 9)
     obtain ⟨z20, z21, z22, z23, z24, f20, f21, f22, f23, f24⟩ := box5 (HS.blk 10)
     refine hK.out _ _ ⟨z30, z31, z32, z20, z21, z22, z23, z24⟩ (fun hHeld => ?_)
     clear hK K z30 z31 z32 f30 f31 f32 z20 z21 z22 z23 z24 f20 f21 f22 f23 f24
     refine norm_ (a' := ?_) ?_ ?_
     rotate_left
     ·show Act.put _ (some 31) _ = _
      simp only [Act.put, List.setIfInBounds_toArray, List.set_cons_zero, List.set_cons_succ, i64_w, i32_w]
      rfl
     refine pureA 5 (some 26) 11 319 HT_ ?_
     refine pureA 6 (some 32) 11 383 HT_ ?_
     refine pureA 7 (some 33) 11 511 HT_ ?_
     exact norm_ (by simp only [putAll, Act.put, List.setIfInBounds_toArray, List.set_cons_zero, List.set_cons_succ]) (hCont (tv0, tv1, tv2, tv3, wv0, wv1, wv2, wv3, b6) _ (HS.fr10.fr10.fr5.fr5.fr5.fr5.fr9.fr9.fr9.fr9.fr10))
   clear HS hHeld
   intro s_ W_ HS
   obtain ⟨tv0, tv1, tv2, tv3, wv0, wv1, wv2, wv3, b6⟩ := s_
   dsimp only at HS
   have hHeld := True.intro
   obtain ⟨Atv0, ctv0, rfl⟩ := HS.slR 1
   obtain ⟨Atv1, ctv1, rfl⟩ := HS.slS 2
   obtain ⟨Atv2, ctv2, rfl⟩ := HS.slS 3
   obtain ⟨Atv3, ctv3, rfl⟩ := HS.slS 4
   obtain ⟨Awv0, cwv0, rfl⟩ := HS.slR 5
   obtain ⟨Awv1, cwv1, rfl⟩ := HS.slS 6
   obtain ⟨Awv2, cwv2, rfl⟩ := HS.slS 7
   obtain ⟨Awv3, cwv3, rfl⟩ := HS.slS 8
   refine norm_ (a' := ?_) ?_ ?_
   rotate_left
   ·show putAll _ _ = _
    simp only [putAll, Act.put, List.setIfInBounds_toArray, List.set_cons_zero, List.set_cons_succ, i64_w, i32_w]
    rfl
   refine oneA 9 none 11 1023 HT_ (fun K hK => ?_)
   clear hHeld
   obtain ⟨z60, z61, z62, z63, z64, f60, f61, f62, f63, f64⟩ := box5 (HS.blk 0)
   refine skip_ (w1 := ?_) (by rfl) rfl ?_ ?_
   rotate_left
   ·go_simp
    rfl
   replace HS := (((((HS.putI 0 0 (.slice Awv0 w1.length cwv0) #[.slice Awv0 w1.length cwv0, .slice none 0 0, .slice none 0 0, .slice none 0 0, .int .i64 0]).putI 0 1 (.slice Awv1 w2.length cwv1) #[.slice Awv0 w1.length cwv0, .slice Awv1 w2.length cwv1, .slice none 0 0, .slice none 0 0, .int .i64 0]).putI 0 2 (.slice Awv2 w3.length cwv2) #[.slice Awv0 w1.length cwv0, .slice Awv1 w2.length cwv1, .slice Awv2 w3.length cwv2, .slice none 0 0, .int .i64 0]).putI 0 3 (.slice Awv3 w4.length cwv3) #[.slice Awv0 w1.length cwv0, .slice Awv1 w2.length cwv1, .slice Awv2 w3.length cwv2, .slice Awv3 w4.length cwv3, .int .i64 0]).putI 0 4 (.int .i64 w5) #[.slice Awv0 w1.length cwv0, .slice Awv1 w2.length cwv1, .slice Awv2 w3.length cwv2, .slice Awv3 w4.length cwv3, .int .i64 w5])
   clear z60 z61 z62 z63 z64 f60 f61 f62 f63 f64
   obtain ⟨z30, z31, z32, f30, f31, f32⟩ := box3 (HS.blk 9)
   obtain ⟨z20, z21, z22, z23, z24, f20, f21, f22, f23, f24⟩ := box5 (HS.blk 10)
   refine hK.out _ _ ⟨z30, z31, z32, z20, z21, z22, z23, z24⟩ (fun hHeld => ?_)
   clear hK K z30 z31 z32 f30 f31 f32 z20 z21 z22 z23 z24 f20 f21 f22 f23 f24
   refine pureA 10 (some 7) 11 2047 HT_ ?_
   refine done_ (done_of HT_.out (by kernel_rfl)) ?_
   clear HT_ HW_ hHeld
   replace HS := HS.fr1.tail
   replace HS := HS.fr1.tail
   replace HS := HS.fr1.tail
   replace HS := HS.fr1.tail
   obtain ⟨z60, z61, z62, z63, z64, f60, f61, f62, f63, f64⟩ := box5 (HS.blk 0)
   obtain ⟨z20, z21, z22, z23, z24, f20, f21, f22, f23, f24⟩ := box5 (HS.blk 6)
   obtain ⟨z30, z31, z32, f30, f31, f32⟩ := box3 (HS.blk 5)
   go_upto_region 10 with (first | (go_at_call 10; have HC_ := nw_to (n := ⟨l0_0, l0_1, l0_2, l0_3, a0_4⟩) (HN.out.below HS.base) T1.out; refine HC_.mono ?_; clear HC_; rintro e W_ ⟨xv0, xv1, xv2, xv3, rfl, hc_, hb_⟩; obtain ⟨c_, hc_⟩ := hc_; obtain ⟨⟨Axv0, cxv0, rfl⟩, ⟨Axv1, cxv1, rfl⟩, ⟨Axv2, cxv2, rfl⟩, ⟨Axv3, cxv3, rfl⟩⟩ := (NC.of hc_).slices; replace HS := HS.news hb_ ⟨c_, hc_⟩; clear hc_ hb_; clear z60 z61 z62 z63 z64 f60 f61 f62 f63 f64 z20 z21 z22 z23 z24 f20 f21 f22 f23 f24 z30 z31 z32 f30 f31 f32; obtain ⟨z60, z61, z62, z63, z64, f60, f61, f62, f63, f64⟩ := box5 (HS.blk 4); obtain ⟨z20, z21, z22, z23, z24, f20, f21, f22, f23, f24⟩ := box5 (HS.blk 10); obtain ⟨z30, z31, z32, f30, f31, f32⟩ := box3 (HS.blk 9)) | ((with_reducible refine gate_dst (N := 8) rfl ?_); refine boxev 8 #[.slice none 0 0, .slice none 0 0, .slice none 0 0, .slice none 0 0, .int .i64 0] 27 ?_; intro b8 hg_ W_ ho_ hb_; replace HS := HS.box hg_ ho_ hb_; clear hg_ ho_ hb_; clear z60 z61 z62 z63 z64 f60 f61 f62 f63 f64 z20 z21 z22 z23 z24 f20 f21 f22 f23 f24 z30 z31 z32 f30 f31 f32; obtain ⟨z80, z81, z82, z83, z84, f80, f81, f82, f83, f84⟩ := box5 (HS.blk 0); clear z80 z81 z82 z83 z84 f80 f81 f82 f83 f84; obtain ⟨z80, z81, z82, z83, z84, f80, f81, f82, f83, f84⟩ := box5 (HS.blk 0)))
   clear z80 z81 z82 z83 z84 f80 f81 f82 f83 f84
   obtain ⟨W5_, e5_, H5_⟩ := (((((HS.putI 0 0 (.slice Axv0 x1.length cxv0) #[.slice Axv0 x1.length cxv0, .slice none 0 0, .slice none 0 0, .slice none 0 0, .int .i64 0]).putI 0 1 (.slice Axv1 x2.length cxv1) #[.slice Axv0 x1.length cxv0, .slice Axv1 x2.length cxv1, .slice none 0 0, .slice none 0 0, .int .i64 0]).putI 0 2 (.slice Axv2 x3.length cxv2) #[.slice Axv0 x1.length cxv0, .slice Axv1 x2.length cxv1, .slice Axv2 x3.length cxv2, .slice none 0 0, .int .i64 0]).putI 0 3 (.slice Axv3 x4.length cxv3) #[.slice Axv0 x1.length cxv0, .slice Axv1 x2.length cxv1, .slice Axv2 x3.length cxv2, .slice Axv3 x4.length cxv3, .int .i64 0]).putI 0 4 (.int .i64 x5) #[.slice Axv0 x1.length cxv0, .slice Axv1 x2.length cxv1, .slice Axv2 x3.length cxv2, .slice Axv3 x4.length cxv3, .int .i64 x5]).gen
   rw [e5_]
   clear HS e5_
   have HS := H5_
   clear H5_
   go_upto_region 10 with fail
   go_upto_region 10 with fail
   obtain ⟨z80, z81, z82, z83, z84, f80, f81, f82, f83, f84⟩ := box5 (HS.blk 0)
   obtain ⟨z30, z31, z32, f30, f31, f32⟩ := box3 (HS.blk 10)
   obtain ⟨z20, z21, z22, z23, z24, f20, f21, f22, f23, f24⟩ := box5 (HS.blk 11)
   refine start_ (n := 10) (S := fun w' => w'.cell? ⟨b8, 0, none⟩ = some (.slice Axv0 x1.length cxv0) ∧ w'.cell? ⟨b8, 1, none⟩ = some (.slice Axv1 x2.length cxv1) ∧ w'.cell? ⟨b8, 2, none⟩ = some (.slice Axv2 x3.length cxv2) ∧ w'.cell? ⟨b8, 3, none⟩ = some (.slice Axv3 x4.length cxv3) ∧ w'.cell? ⟨b8, 4, none⟩ = some (.int .i64 x5) ∧ w'.cell? ⟨b3, 0, none⟩ = some (.int .i64 a1_0) ∧ w'.cell? ⟨b3, 1, none⟩ = some (.int .i64 a1_1) ∧ w'.cell? ⟨b3, 2, none⟩ = some (.string a1_2) ∧ w'.cell? ⟨b2, 0, none⟩ = some (.slice A0_0 l0_0.length c0_0) ∧ w'.cell? ⟨b2, 1, none⟩ = some (.slice A0_1 l0_1.length c0_1) ∧ w'.cell? ⟨b2, 2, none⟩ = some (.slice A0_2 l0_2.length c0_2) ∧ w'.cell? ⟨b2, 3, none⟩ = some (.slice A0_3 l0_3.length c0_3) ∧ w'.cell? ⟨b2, 4, none⟩ = some (.int .i64 a0_4)) (ds := []) (bl 10 0) (by kernel_rfl) rfl rfl ⟨z80, z81, z82, z83, z84, z30, z31, z32, z20, z21, z22, z23, z24⟩ (fun hHeld => ?_); refine with_tabW laws_FnExactStepNet.tab10 laws_FnExactStepNet.bits10 (fun HT_ HW_ => ?_)
   clear z80 z81 z82 z83 z84 f80 f81 f82 f83 f84 z30 z31 z32 f30 f31 f32 z20 z21 z22 z23 z24 f20 f21 f22 f23 f24
   replace HS := HS.drew
   generalize World.drew _ = W9_ at HS hHeld ⊢
   refine takeA 0 (some 37) 10 1 HT_ HW_ hHeld ?_ (hy := by rintro w' ⟨s0, s1, s2, s3, s4, s5, s6, s7, s8, s9, s10, s11, s12⟩; go_simp; with_reducible rfl)
   refine takeA 1 (some 38) 10 3 HT_ HW_ hHeld ?_ (hy := by rintro w' ⟨s0, s1, s2, s3, s4, s5, s6, s7, s8, s9, s10, s11, s12⟩; go_simp; with_reducible rfl)
   refine join_ (σ := Value × Value × Value × Value × Nat) 2 (bl 10 255) (fun s_ => [(39, .agg #[.int .i64 t1, .int .i64 t2, .string t3]), (40, .tuple #[.agg #[s_.1, s_.2.1, s_.2.2.1, s_.2.2.2.1, .int .i64 g5], .bool g6]), (36, .tuple #[.agg #[s_.1, s_.2.1, s_.2.2.1, s_.2.2.2.1, .int .i64 g5], .bool g6]), (41, .agg #[s_.1, s_.2.1, s_.2.2.1, s_.2.2.2.1, .int .i64 g5]), (42, .bool g6), (9, .pointer (some ⟨s_.2.2.2.2, 0, none⟩))]) (fun s_ w' => Sep w w' (bA s_.2.2.2.2 #[.slice none 0 0, .slice none 0 0, .slice none 0 0, .slice none 0 0, .int .i64 0] 27 :: rA KI 3 (s_.1) g1 :: sA KT 62 (s_.2.1) g2 :: sA KT 62 (s_.2.2.1) g3 :: sA KT 62 (s_.2.2.2.1) g4 :: bA b8 #[.slice Axv0 x1.length cxv0, .slice Axv1 x2.length cxv1, .slice Axv2 x3.length cxv2, .slice Axv3 x4.length cxv3, .int .i64 x5] 27 :: rA KI 3 (.slice Axv0 x1.length cxv0) x1 :: sA KT 62 (.slice Axv1 x2.length cxv1) x2 :: sA KT 62 (.slice Axv2 x3.length cxv2) x3 :: sA KT 62 (.slice Axv3 x4.length cxv3) x4 :: bA b6 #[.slice Awv0 w1.length cwv0, .slice Awv1 w2.length cwv1, .slice Awv2 w3.length cwv2, .slice Awv3 w4.length cwv3, .int .i64 w5] 27 :: rA KI 3 (.slice Awv0 w1.length cwv0) w1 :: sA KT 62 (.slice Awv1 w2.length cwv1) w2 :: sA KT 62 (.slice Awv2 w3.length cwv2) w3 :: sA KT 62 (.slice Awv3 w4.length cwv3) w4 :: bA b3 #[.int .i64 a1_0, .int .i64 a1_1, .string a1_2] 50 :: bA b2 #[.slice A0_0 l0_0.length c0_0, .slice A0_1 l0_1.length c0_1, .slice A0_2 l0_2.length c0_2, .slice A0_3 l0_3.length c0_3, .int .i64 a0_4] 25 :: [])) ?_ ?_
   rotate_left
   ·intro hCont
    refine two_ (i := 2) (j := 7) (Ni := some 39) (Nj := some 9) (bl 10 7) (bl 10 131) rfl rfl rfl rfl (by kernel_rfl) (by decide) (by decide) (fun K hK => ?_) (fun K hK => ?_)
    ·skip
     refine goes_ Tryz.func29 (by kernel_rfl) rfl #[.agg #[.int .i64 a1_0, .int .i64 a1_1, .string a1_2]] (by rfl) rfl rfl (by (try simp only [List.map_toArray, List.map_cons, List.map_nil]); first | done | rfl) ?_
     refine (laws_toNetStep.calls a1_0 a1_1 a1_2 t1 t2 t3 _ T8.out).mono ?_
     clear hHeld
     rintro e W_ ⟨rfl, hb_⟩
     refine ⟨_, rfl, ?_⟩
     replace HS := HS.below hb_
     clear hb_
     obtain ⟨z80, z81, z82, z83, z84, f80, f81, f82, f83, f84⟩ := box5 (HS.blk 0)
     obtain ⟨z30, z31, z32, f30, f31, f32⟩ := box3 (HS.blk 10)
     obtain ⟨z20, z21, z22, z23, z24, f20, f21, f22, f23, f24⟩ := box5 (HS.blk 11)
     refine hK.out _ _ ⟨z80, z81, z82, z83, z84, z30, z31, z32, z20, z21, z22, z23, z24⟩ (fun hHeld => ?_)
     clear hK K z80 z81 z82 z83 z84 f80 f81 f82 f83 f84 z30 z31 z32 f30 f31 f32 z20 z21 z22 z23 z24 f20 f21 f22 f23 f24
     refine norm_ (a' := ?_) ?_ ?_
     rotate_left
     ·show Act.put _ (some 39) _ = _
      simp only [Act.put, List.setIfInBounds_toArray, List.set_cons_zero, List.set_cons_succ, i64_w, i32_w]
      rfl
     refine two_ (i := 3) (j := 7) (Ni := some 40) (Nj := some 9) (bl 10 15) (bl 10 135) rfl rfl rfl rfl (by kernel_rfl) (by decide) (by decide) (fun K hK => ?_) (fun K hK => ?_)
     ·skip
      refine goes_ Tryz.func30 (by kernel_rfl) rfl #[.agg #[.slice Axv0 x1.length cxv0, .slice Axv1 x2.length cxv1, .slice Axv2 x3.length cxv2, .slice Axv3 x4.length cxv3, .int .i64 x5], .agg #[.int .i64 t1, .int .i64 t2, .string t3]] (by rfl) rfl rfl (by (try simp only [List.map_toArray, List.map_cons, List.map_nil]); first | done | rfl) ?_
      have HC_ := impl_StepNet.calls (n := ⟨x1, x2, x3, x4, x5⟩) (sepNc HS 1) T3.out
      refine HC_.mono ?_
      clear HC_ hHeld
      rintro e W_ ⟨gv0, gv1, gv2, gv3, rfl, hc_, hb_⟩
      refine ⟨_, rfl, ?_⟩
      replace HS := HS.news hb_ hc_
      clear hc_ hb_
      dsimp only [netA, List.cons_append, List.nil_append] at HS
      obtain ⟨z80, z81, z82, z83, z84, f80, f81, f82, f83, f84⟩ := box5 (HS.blk 4)
      obtain ⟨z30, z31, z32, f30, f31, f32⟩ := box3 (HS.blk 14)
      obtain ⟨z20, z21, z22, z23, z24, f20, f21, f22, f23, f24⟩ := box5 (HS.blk 15)
      refine hK.out _ _ ⟨z80, z81, z82, z83, z84, z30, z31, z32, z20, z21, z22, z23, z24⟩ (fun hHeld => ?_)
      clear hK K z80 z81 z82 z83 z84 f80 f81 f82 f83 f84 z30 z31 z32 f30 f31 f32 z20 z21 z22 z23 z24 f20 f21 f22 f23 f24
      refine norm_ (a' := ?_) ?_ ?_
      rotate_left
      ·show Act.put _ (some 40) _ = _
       simp only [Act.put, List.setIfInBounds_toArray, List.set_cons_zero, List.set_cons_succ, i64_w, i32_w]
       rfl
      refine pureA 4 (some 36) 10 31 HT_ ?_
      refine pureA 5 (some 41) 10 63 HT_ ?_
      refine pureA 6 (some 42) 10 127 HT_ ?_
      refine oneA 7 (some 9) 10 255 HT_ (fun K hK => ?_)
      clear hHeld
      refine box_step ?hg (N := 9) ?hd (cs := #[.slice none 0 0, .slice none 0 0, .slice none 0 0, .slice none 0 0, .int .i64 0]) (t := 27) ?hr ?_; (case hd => rfl); (case hg => rfl); (case hr => first | (go_simp; done) | (go_simp; rfl))
      intro b9 hg_ W_ ho_ hb_
      replace HS := HS.box hg_ ho_ hb_
      clear hg_ ho_ hb_
      obtain ⟨z80, z81, z82, z83, z84, f80, f81, f82, f83, f84⟩ := box5 (HS.blk 5)
      obtain ⟨z30, z31, z32, f30, f31, f32⟩ := box3 (HS.blk 15)
      obtain ⟨z20, z21, z22, z23, z24, f20, f21, f22, f23, f24⟩ := box5 (HS.blk 16)
      refine hK.out _ _ ⟨z80, z81, z82, z83, z84, z30, z31, z32, z20, z21, z22, z23, z24⟩ (fun hHeld => ?_)
      clear hK K z80 z81 z82 z83 z84 f80 f81 f82 f83 f84 z30 z31 z32 f30 f31 f32 z20 z21 z22 z23 z24 f20 f21 f22 f23 f24
      refine norm_ (a' := ?_) ?_ ?_
      rotate_left
      ·show Act.put _ (some 9) _ = _
       simp only [Act.put, List.setIfInBounds_toArray, List.set_cons_zero, List.set_cons_succ, i64_w, i32_w]
       rfl
      exact norm_ (by simp only [putAll, Act.put, List.setIfInBounds_toArray, List.set_cons_zero, List.set_cons_succ]) (hCont (gv0, gv1, gv2, gv3, b9) _ (HS))
     ·skip
      clear hHeld
      refine box_step ?hg (N := 9) ?hd (cs := #[.slice none 0 0, .slice none 0 0, .slice none 0 0, .slice none 0 0, .int .i64 0]) (t := 27) ?hr ?_; (case hd => rfl); (case hg => rfl); (case hr => first | (go_simp; done) | (go_simp; rfl))
      intro b9 hg_ W_ ho_ hb_
      replace HS := HS.box hg_ ho_ hb_
      clear hg_ ho_ hb_
      obtain ⟨z80, z81, z82, z83, z84, f80, f81, f82, f83, f84⟩ := box5 (HS.blk 1)
      obtain ⟨z30, z31, z32, f30, f31, f32⟩ := box3 (HS.blk 11)
      obtain ⟨z20, z21, z22, z23, z24, f20, f21, f22, f23, f24⟩ := box5 (HS.blk 12)
      refine hK.out _ _ ⟨z80, z81, z82, z83, z84, z30, z31, z32, z20, z21, z22, z23, z24⟩ (fun hHeld => ?_)
      clear hK K z80 z81 z82 z83 z84 f80 f81 f82 f83 f84 z30 z31 z32 f30 f31 f32 z20 z21 z22 z23 z24 f20 f21 f22 f23 f24
      refine norm_ (a' := ?_) ?_ ?_
      rotate_left
      ·show Act.put _ (some 9) _ = _
       simp only [Act.put, List.setIfInBounds_toArray, List.set_cons_zero, List.set_cons_succ, i64_w, i32_w]
       rfl
      refine oneA 3 (some 40) 10 143 HT_ (fun K hK => ?_)
      refine goes_ Tryz.func30 (by kernel_rfl) rfl #[.agg #[.slice Axv0 x1.length cxv0, .slice Axv1 x2.length cxv1, .slice Axv2 x3.length cxv2, .slice Axv3 x4.length cxv3, .int .i64 x5], .agg #[.int .i64 t1, .int .i64 t2, .string t3]] (by rfl) rfl rfl (by (try simp only [List.map_toArray, List.map_cons, List.map_nil]); first | done | rfl) ?_
      have HC_ := impl_StepNet.calls (n := ⟨x1, x2, x3, x4, x5⟩) (sepNc HS 2) T3.out
      refine HC_.mono ?_
      clear HC_ hHeld
      rintro e W_ ⟨gv0, gv1, gv2, gv3, rfl, hc_, hb_⟩
      refine ⟨_, rfl, ?_⟩
      replace HS := HS.news hb_ hc_
      clear hc_ hb_
      dsimp only [netA, List.cons_append, List.nil_append] at HS
      obtain ⟨z80, z81, z82, z83, z84, f80, f81, f82, f83, f84⟩ := box5 (HS.blk 5)
      obtain ⟨z30, z31, z32, f30, f31, f32⟩ := box3 (HS.blk 15)
      obtain ⟨z20, z21, z22, z23, z24, f20, f21, f22, f23, f24⟩ := box5 (HS.blk 16)
      refine hK.out _ _ ⟨z80, z81, z82, z83, z84, z30, z31, z32, z20, z21, z22, z23, z24⟩ (fun hHeld => ?_)
      clear hK K z80 z81 z82 z83 z84 f80 f81 f82 f83 f84 z30 z31 z32 f30 f31 f32 z20 z21 z22 z23 z24 f20 f21 f22 f23 f24
      refine norm_ (a' := ?_) ?_ ?_
      rotate_left
      ·show Act.put _ (some 40) _ = _
       simp only [Act.put, List.setIfInBounds_toArray, List.set_cons_zero, List.set_cons_succ, i64_w, i32_w]
       rfl
      refine pureA 4 (some 36) 10 159 HT_ ?_
      refine pureA 5 (some 41) 10 191 HT_ ?_
      refine pureA 6 (some 42) 10 255 HT_ ?_
      exact norm_ (by simp only [putAll, Act.put, List.setIfInBounds_toArray, List.set_cons_zero, List.set_cons_succ]) (hCont (gv0, gv1, gv2, gv3, b9) _ (HS.fr16.fr16.fr16.fr16.fr16.fr16.fr16.fr16.fr16.fr16.fr16.fr16.fr15.fr15.fr15.fr15.fr16))
    ·skip
     clear hHeld
     refine box_step ?hg (N := 9) ?hd (cs := #[.slice none 0 0, .slice none 0 0, .slice none 0 0, .slice none 0 0, .int .i64 0]) (t := 27) ?hr ?_; (case hd => rfl); (case hg => rfl); (case hr => first | (go_simp; done) | (go_simp; rfl))
     intro b9 hg_ W_ ho_ hb_
     replace HS := HS.box hg_ ho_ hb_
     clear hg_ ho_ hb_
     obtain ⟨z80, z81, z82, z83, z84, f80, f81, f82, f83, f84⟩ := box5 (HS.blk 1)
     obtain ⟨z30, z31, z32, f30, f31, f32⟩ := box3 (HS.blk 11)
     obtain ⟨z20, z21, z22, z23, z24, f20, f21, f22, f23, f24⟩ := box5 (HS.blk 12)
     refine hK.out _ _ ⟨z80, z81, z82, z83, z84, z30, z31, z32, z20, z21, z22, z23, z24⟩ (fun hHeld => ?_)
     clear hK K z80 z81 z82 z83 z84 f80 f81 f82 f83 f84 z30 z31 z32 f30 f31 f32 z20 z21 z22 z23 z24 f20 f21 f22 f23 f24
     refine norm_ (a' := ?_) ?_ ?_
     rotate_left
     ·show Act.put _ (some 9) _ = _
      simp only [Act.put, List.setIfInBounds_toArray, List.set_cons_zero, List.set_cons_succ, i64_w, i32_w]
      rfl
     refine oneA 2 (some 39) 10 135 HT_ (fun K hK => ?_)
     refine goes_ Tryz.func29 (by kernel_rfl) rfl #[.agg #[.int .i64 a1_0, .int .i64 a1_1, .string a1_2]] (by rfl) rfl rfl (by (try simp only [List.map_toArray, List.map_cons, List.map_nil]); first | done | rfl) ?_
     refine (laws_toNetStep.calls a1_0 a1_1 a1_2 t1 t2 t3 _ T8.out).mono ?_
     clear hHeld
     rintro e W_ ⟨rfl, hb_⟩
     refine ⟨_, rfl, ?_⟩
     replace HS := HS.below hb_
     clear hb_
     obtain ⟨z80, z81, z82, z83, z84, f80, f81, f82, f83, f84⟩ := box5 (HS.blk 1)
     obtain ⟨z30, z31, z32, f30, f31, f32⟩ := box3 (HS.blk 11)
     obtain ⟨z20, z21, z22, z23, z24, f20, f21, f22, f23, f24⟩ := box5 (HS.blk 12)
     refine hK.out _ _ ⟨z80, z81, z82, z83, z84, z30, z31, z32, z20, z21, z22, z23, z24⟩ (fun hHeld => ?_)
     clear hK K z80 z81 z82 z83 z84 f80 f81 f82 f83 f84 z30 z31 z32 f30 f31 f32 z20 z21 z22 z23 z24 f20 f21 f22 f23 f24
     refine norm_ (a' := ?_) ?_ ?_
     rotate_left
     ·show Act.put _ (some 39) _ = _
      simp only [Act.put, List.setIfInBounds_toArray, List.set_cons_zero, List.set_cons_succ, i64_w, i32_w]
      rfl
     refine oneA 3 (some 40) 10 143 HT_ (fun K hK => ?_)
     refine goes_ Tryz.func30 (by kernel_rfl) rfl #[.agg #[.slice Axv0 x1.length cxv0, .slice Axv1 x2.length cxv1, .slice Axv2 x3.length cxv2, .slice Axv3 x4.length cxv3, .int .i64 x5], .agg #[.int .i64 t1, .int .i64 t2, .string t3]] (by rfl) rfl rfl (by (try simp only [List.map_toArray, List.map_cons, List.map_nil]); first | done | rfl) ?_
     have HC_ := impl_StepNet.calls (n := ⟨x1, x2, x3, x4, x5⟩) (sepNc HS 2) T3.out
     refine HC_.mono ?_
     clear HC_ hHeld
     rintro e W_ ⟨gv0, gv1, gv2, gv3, rfl, hc_, hb_⟩
     refine ⟨_, rfl, ?_⟩
     replace HS := HS.news hb_ hc_
     clear hc_ hb_
     dsimp only [netA, List.cons_append, List.nil_append] at HS
     obtain ⟨z80, z81, z82, z83, z84, f80, f81, f82, f83, f84⟩ := box5 (HS.blk 5)
     obtain ⟨z30, z31, z32, f30, f31, f32⟩ := box3 (HS.blk 15)
     obtain ⟨z20, z21, z22, z23, z24, f20, f21, f22, f23, f24⟩ := box5 (HS.blk 16)
     refine hK.out _ _ ⟨z80, z81, z82, z83, z84, z30, z31, z32, z20, z21, z22, z23, z24⟩ (fun hHeld => ?_)
     clear hK K z80 z81 z82 z83 z84 f80 f81 f82 f83 f84 z30 z31 z32 f30 f31 f32 z20 z21 z22 z23 z24 f20 f21 f22 f23 f24
     refine norm_ (a' := ?_) ?_ ?_
     rotate_left
     ·show Act.put _ (some 40) _ = _
      simp only [Act.put, List.setIfInBounds_toArray, List.set_cons_zero, List.set_cons_succ, i64_w, i32_w]
      rfl
     refine pureA 4 (some 36) 10 159 HT_ ?_
     refine pureA 5 (some 41) 10 191 HT_ ?_
     refine pureA 6 (some 42) 10 255 HT_ ?_
     exact norm_ (by simp only [putAll, Act.put, List.setIfInBounds_toArray, List.set_cons_zero, List.set_cons_succ]) (hCont (gv0, gv1, gv2, gv3, b9) _ (HS.fr16.fr16.fr16.fr16.fr16.fr16.fr16.fr16.fr16.fr16.fr16.fr16.fr15.fr15.fr15.fr15.fr16))
   clear HS hHeld
   intro s_ W_ HS
   obtain ⟨gv0, gv1, gv2, gv3, b9⟩ := s_
   dsimp only at HS
   have hHeld := True.intro
   obtain ⟨Agv0, cgv0, rfl⟩ := HS.slR 1
   obtain ⟨Agv1, cgv1, rfl⟩ := HS.slS 2
   obtain ⟨Agv2, cgv2, rfl⟩ := HS.slS 3
   obtain ⟨Agv3, cgv3, rfl⟩ := HS.slS 4
   refine norm_ (a' := ?_) ?_ ?_
   rotate_left
   ·show putAll _ _ = _
    simp only [putAll, Act.put, List.setIfInBounds_toArray, List.set_cons_zero, List.set_cons_succ, i64_w, i32_w]
    rfl
   refine oneA 8 none 10 511 HT_ (fun K hK => ?_)
   clear hHeld
   obtain ⟨z90, z91, z92, z93, z94, f90, f91, f92, f93, f94⟩ := box5 (HS.blk 0)
   refine skip_ (w1 := ?_) (by rfl) rfl ?_ ?_
   rotate_left
   ·go_simp
    rfl
   replace HS := (((((HS.putI 0 0 (.slice Agv0 g1.length cgv0) #[.slice Agv0 g1.length cgv0, .slice none 0 0, .slice none 0 0, .slice none 0 0, .int .i64 0]).putI 0 1 (.slice Agv1 g2.length cgv1) #[.slice Agv0 g1.length cgv0, .slice Agv1 g2.length cgv1, .slice none 0 0, .slice none 0 0, .int .i64 0]).putI 0 2 (.slice Agv2 g3.length cgv2) #[.slice Agv0 g1.length cgv0, .slice Agv1 g2.length cgv1, .slice Agv2 g3.length cgv2, .slice none 0 0, .int .i64 0]).putI 0 3 (.slice Agv3 g4.length cgv3) #[.slice Agv0 g1.length cgv0, .slice Agv1 g2.length cgv1, .slice Agv2 g3.length cgv2, .slice Agv3 g4.length cgv3, .int .i64 0]).putI 0 4 (.int .i64 g5) #[.slice Agv0 g1.length cgv0, .slice Agv1 g2.length cgv1, .slice Agv2 g3.length cgv2, .slice Agv3 g4.length cgv3, .int .i64 g5])
   clear z90 z91 z92 z93 z94 f90 f91 f92 f93 f94
   obtain ⟨z80, z81, z82, z83, z84, f80, f81, f82, f83, f84⟩ := box5 (HS.blk 5)
   obtain ⟨z30, z31, z32, f30, f31, f32⟩ := box3 (HS.blk 15)
   obtain ⟨z20, z21, z22, z23, z24, f20, f21, f22, f23, f24⟩ := box5 (HS.blk 16)
   refine hK.out _ _ ⟨z80, z81, z82, z83, z84, z30, z31, z32, z20, z21, z22, z23, z24⟩ (fun hHeld => ?_)
   clear hK K z80 z81 z82 z83 z84 f80 f81 f82 f83 f84 z30 z31 z32 f30 f31 f32 z20 z21 z22 z23 z24 f20 f21 f22 f23 f24
   refine pureA 9 (some 10) 10 1023 HT_ ?_
   refine done_ (done_of HT_.out (by kernel_rfl)) ?_
   clear HT_ HW_ hHeld
   obtain ⟨z90, z91, z92, z93, z94, f90, f91, f92, f93, f94⟩ := box5 (HS.blk 0)
   obtain ⟨z80, z81, z82, z83, z84, f80, f81, f82, f83, f84⟩ := box5 (HS.blk 5)
   obtain ⟨z60, z61, z62, z63, z64, f60, f61, f62, f63, f64⟩ := box5 (HS.blk 10)
   obtain ⟨z20, z21, z22, z23, z24, f20, f21, f22, f23, f24⟩ := box5 (HS.blk 16)
   obtain ⟨z30, z31, z32, f30, f31, f32⟩ := box3 (HS.blk 15)
   go_upto_region 13 with (first | (go_at_call 12; have HC_ := nw_eq (n := ⟨g1, g2, g3, g4, g5⟩) (m := ⟨w1, w2, w3, w4, w5⟩) (sepNc HS 1) (sepNc HS 11) T4.out; refine HC_.mono ?_; clear HC_; rintro e W_ ⟨rfl, hb_⟩; replace HS := HS.below hb_; clear hb_; clear z90 z91 z92 z93 z94 f90 f91 f92 f93 f94 z80 z81 z82 z83 z84 f80 f81 f82 f83 f84 z60 z61 z62 z63 z64 f60 f61 f62 f63 f64 z20 z21 z22 z23 z24 f20 f21 f22 f23 f24 z30 z31 z32 f30 f31 f32; obtain ⟨z90, z91, z92, z93, z94, f90, f91, f92, f93, f94⟩ := box5 (HS.blk 0); obtain ⟨z80, z81, z82, z83, z84, f80, f81, f82, f83, f84⟩ := box5 (HS.blk 5); obtain ⟨z60, z61, z62, z63, z64, f60, f61, f62, f63, f64⟩ := box5 (HS.blk 10); obtain ⟨z20, z21, z22, z23, z24, f20, f21, f22, f23, f24⟩ := box5 (HS.blk 16); obtain ⟨z30, z31, z32, f30, f31, f32⟩ := box3 (HS.blk 15)))
   go_upto_region 13 with fail
   clear z90 z91 z92 z93 z94 f90 f91 f92 f93 f94 z80 z81 z82 z83 z84 f80 f81 f82 f83 f84 z60 z61 z62 z63 z64 f60 f61 f62 f63 f64 z20 z21 z22 z23 z24 f20 f21 f22 f23 f24 z30 z31 z32 f30 f31 f32
   obtain ⟨z80, z81, z82, z83, z84, f80, f81, f82, f83, f84⟩ := box5 (HS.blk 5)
   obtain ⟨z20, z21, z22, z23, z24, f20, f21, f22, f23, f24⟩ := box5 (HS.blk 16)
   refine start_ (n := 5) (S := fun w' => w'.cell? ⟨b8, 0, none⟩ = some (.slice Axv0 x1.length cxv0) ∧ w'.cell? ⟨b8, 1, none⟩ = some (.slice Axv1 x2.length cxv1) ∧ w'.cell? ⟨b8, 2, none⟩ = some (.slice Axv2 x3.length cxv2) ∧ w'.cell? ⟨b8, 3, none⟩ = some (.slice Axv3 x4.length cxv3) ∧ w'.cell? ⟨b8, 4, none⟩ = some (.int .i64 x5) ∧ w'.cell? ⟨b2, 0, none⟩ = some (.slice A0_0 l0_0.length c0_0) ∧ w'.cell? ⟨b2, 1, none⟩ = some (.slice A0_1 l0_1.length c0_1) ∧ w'.cell? ⟨b2, 2, none⟩ = some (.slice A0_2 l0_2.length c0_2) ∧ w'.cell? ⟨b2, 3, none⟩ = some (.slice A0_3 l0_3.length c0_3) ∧ w'.cell? ⟨b2, 4, none⟩ = some (.int .i64 a0_4)) (ds := []) (bl 5 0) (by kernel_rfl) rfl rfl ⟨z80, z81, z82, z83, z84, z20, z21, z22, z23, z24⟩ (fun hHeld => ?_); refine with_tabW laws_FnExactStepNet.tab13 laws_FnExactStepNet.bits13 (fun HT_ HW_ => ?_)
   clear z80 z81 z82 z83 z84 f80 f81 f82 f83 f84 z20 z21 z22 z23 z24 f20 f21 f22 f23 f24
   replace HS := HS.drew
   generalize World.drew _ = W9_ at HS hHeld ⊢
   refine takeA 0 (some 52) 5 1 HT_ HW_ hHeld ?_ (hy := by rintro w' ⟨s0, s1, s2, s3, s4, s5, s6, s7, s8, s9⟩; go_simp; with_reducible rfl)
   refine takeA 1 (some 53) 5 3 HT_ HW_ hHeld ?_ (hy := by rintro w' ⟨s0, s1, s2, s3, s4, s5, s6, s7, s8, s9⟩; go_simp; with_reducible rfl)
   refine oneA 2 (some 54) 5 7 HT_ (fun K hK => ?_)
   refine goes_ Tryz.func10 (by kernel_rfl) rfl #[.agg #[.slice A0_0 l0_0.length c0_0, .slice A0_1 l0_1.length c0_1, .slice A0_2 l0_2.length c0_2, .slice A0_3 l0_3.length c0_3, .int .i64 a0_4]] (by rfl) rfl rfl (by (try simp only [List.map_toArray, List.map_cons, List.map_nil]); first | done | rfl) ?_
   have HC_ := nw_to (n := ⟨l0_0, l0_1, l0_2, l0_3, a0_4⟩) (HN.out.below HS.base) T1.out
   refine HC_.mono ?_
   clear HC_ hHeld
   rintro e W_ ⟨yv0, yv1, yv2, yv3, rfl, hc_, hb_⟩
   refine ⟨_, rfl, ?_⟩
   obtain ⟨c_, hc_⟩ := hc_
   obtain ⟨⟨Ayv0, cyv0, rfl⟩, ⟨Ayv1, cyv1, rfl⟩, ⟨Ayv2, cyv2, rfl⟩, ⟨Ayv3, cyv3, rfl⟩⟩ := (NC.of hc_).slices
   replace HS := HS.news hb_ ⟨c_, hc_⟩
   clear hc_ hb_
   obtain ⟨z80, z81, z82, z83, z84, f80, f81, f82, f83, f84⟩ := box5 (HS.blk 9)
   obtain ⟨z20, z21, z22, z23, z24, f20, f21, f22, f23, f24⟩ := box5 (HS.blk 20)
   refine hK.out _ _ ⟨z80, z81, z82, z83, z84, z20, z21, z22, z23, z24⟩ (fun hHeld => ?_)
   clear hK K z80 z81 z82 z83 z84 f80 f81 f82 f83 f84 z20 z21 z22 z23 z24 f20 f21 f22 f23 f24
   refine norm_ (a' := ?_) ?_ ?_
   rotate_left
   ·show Act.put _ (some 54) _ = _
    simp only [Act.put, List.setIfInBounds_toArray, List.set_cons_zero, List.set_cons_succ, i64_w, i32_w]
    rfl
   refine oneA 3 (some 55) 5 15 HT_ (fun K hK => ?_)
   refine goes_ Tryz.func12 (by kernel_rfl) rfl #[.agg #[.slice Axv0 x1.length cxv0, .slice Axv1 x2.length cxv1, .slice Axv2 x3.length cxv2, .slice Axv3 x4.length cxv3, .int .i64 x5], .agg #[.slice Ayv0 x1.length cyv0, .slice Ayv1 x2.length cyv1, .slice Ayv2 x3.length cyv2, .slice Ayv3 x4.length cyv3, .int .i64 x5]] (by rfl) rfl rfl (by (try simp only [List.map_toArray, List.map_cons, List.map_nil]); first | done | rfl) ?_
   have HC_ := nw_eq (n := ⟨x1, x2, x3, x4, x5⟩) (m := ⟨x1, x2, x3, x4, x5⟩) (sepNc HS 10) (sepNc HS 0) T5.out
   refine HC_.mono ?_
   clear HC_ hHeld
   rintro e W_ ⟨rfl, hb_⟩
   refine ⟨_, rfl, ?_⟩
   replace HS := HS.below hb_
   clear hb_
   obtain ⟨z80, z81, z82, z83, z84, f80, f81, f82, f83, f84⟩ := box5 (HS.blk 9)
   obtain ⟨z20, z21, z22, z23, z24, f20, f21, f22, f23, f24⟩ := box5 (HS.blk 20)
   refine hK.out _ _ ⟨z80, z81, z82, z83, z84, z20, z21, z22, z23, z24⟩ (fun hHeld => ?_)
   clear hK K z80 z81 z82 z83 z84 f80 f81 f82 f83 f84 z20 z21 z22 z23 z24 f20 f21 f22 f23 f24
   refine norm_ (a' := ?_) ?_ ?_
   rotate_left
   ·show Act.put _ (some 55) _ = _
    simp only [Act.put, List.setIfInBounds_toArray, List.set_cons_zero, List.set_cons_succ, i64_w, i32_w]
    rfl
   refine pureA 4 (some 56) 5 31 HT_ ?_
   refine done_ (done_of HT_.out (by kernel_rfl)) ?_
   clear HT_ HW_ hHeld
   dsimp only [netA, List.cons_append, List.nil_append] at HS
   replace HS := HS.tail
   replace HS := HS.tail
   replace HS := HS.tail
   replace HS := HS.tail
   obtain ⟨z90, z91, z92, z93, z94, f90, f91, f92, f93, f94⟩ := box5 (HS.blk 0)
   obtain ⟨z80, z81, z82, z83, z84, f80, f81, f82, f83, f84⟩ := box5 (HS.blk 5)
   obtain ⟨z60, z61, z62, z63, z64, f60, f61, f62, f63, f64⟩ := box5 (HS.blk 10)
   obtain ⟨z20, z21, z22, z23, z24, f20, f21, f22, f23, f24⟩ := box5 (HS.blk 16)
   obtain ⟨z30, z31, z32, f30, f31, f32⟩ := box3 (HS.blk 15)
   go_upto_region 27 with (first | (go_at_call 13; have HC_ := nw_mark (n := ⟨x1, x2, x3, x4, x5⟩) (HS.fr9.fr9.fr9.fr9) T6.out; refine HC_.mono ?_; clear HC_; rintro e W_ ⟨rfl, HS'_⟩; clear HS; have HS := HS'_; clear HS'_; dsimp only [netA, List.cons_append, List.nil_append] at HS; clear z90 z91 z92 z93 z94 f90 f91 f92 f93 f94 z80 z81 z82 z83 z84 f80 f81 f82 f83 f84 z60 z61 z62 z63 z64 f60 f61 f62 f63 f64 z20 z21 z22 z23 z24 f20 f21 f22 f23 f24 z30 z31 z32 f30 f31 f32; obtain ⟨z90, z91, z92, z93, z94, f90, f91, f92, f93, f94⟩ := box5 (HS.blk 4); obtain ⟨z80, z81, z82, z83, z84, f80, f81, f82, f83, f84⟩ := box5 (HS.blk 9); obtain ⟨z60, z61, z62, z63, z64, f60, f61, f62, f63, f64⟩ := box5 (HS.blk 10); obtain ⟨z20, z21, z22, z23, z24, f20, f21, f22, f23, f24⟩ := box5 (HS.blk 16); obtain ⟨z30, z31, z32, f30, f31, f32⟩ := box3 (HS.blk 15)) | (go_at_call 12; have HC_ := nw_eq (n := ⟨g1, g2, g3, g4, g5⟩) (m := ⟨w1, w2, w3, w4, w5⟩) (sepNc HS 5) (sepNc HS 11) T4.out; refine HC_.mono ?_; clear HC_; rintro e W_ ⟨rfl, hb_⟩; replace HS := HS.below hb_; clear hb_; clear z90 z91 z92 z93 z94 f90 f91 f92 f93 f94 z80 z81 z82 z83 z84 f80 f81 f82 f83 f84 z60 z61 z62 z63 z64 f60 f61 f62 f63 f64 z20 z21 z22 z23 z24 f20 f21 f22 f23 f24 z30 z31 z32 f30 f31 f32; obtain ⟨z90, z91, z92, z93, z94, f90, f91, f92, f93, f94⟩ := box5 (HS.blk 4); obtain ⟨z80, z81, z82, z83, z84, f80, f81, f82, f83, f84⟩ := box5 (HS.blk 9); obtain ⟨z60, z61, z62, z63, z64, f60, f61, f62, f63, f64⟩ := box5 (HS.blk 10); obtain ⟨z20, z21, z22, z23, z24, f20, f21, f22, f23, f24⟩ := box5 (HS.blk 16); obtain ⟨z30, z31, z32, f30, f31, f32⟩ := box3 (HS.blk 15)) | (go_at_call 13; have HC_ := nw_mark (n := ⟨g1, g2, g3, g4, g5⟩) (HS.fr8.fr8.fr8.fr8) T7.out; refine HC_.mono ?_; clear HC_; rintro e W_ ⟨rfl, HS'_⟩; clear HS; have HS := HS'_; clear HS'_; dsimp only [netA, List.cons_append, List.nil_append] at HS; clear z90 z91 z92 z93 z94 f90 f91 f92 f93 f94 z80 z81 z82 z83 z84 f80 f81 f82 f83 f84 z60 z61 z62 z63 z64 f60 f61 f62 f63 f64 z20 z21 z22 z23 z24 f20 f21 f22 f23 f24 z30 z31 z32 f30 f31 f32; obtain ⟨z90, z91, z92, z93, z94, f90, f91, f92, f93, f94⟩ := box5 (HS.blk 8); obtain ⟨z80, z81, z82, z83, z84, f80, f81, f82, f83, f84⟩ := box5 (HS.blk 9); obtain ⟨z60, z61, z62, z63, z64, f60, f61, f62, f63, f64⟩ := box5 (HS.blk 10); obtain ⟨z20, z21, z22, z23, z24, f20, f21, f22, f23, f24⟩ := box5 (HS.blk 16); obtain ⟨z30, z31, z32, f30, f31, f32⟩ := box3 (HS.blk 15)) | (go_at_call 14; have HC_ := nw_held (n := ⟨q1, q2, q3, q4, g5⟩) (sepNc HS 0) T10.out; refine HC_.mono ?_; clear HC_; rintro e W_ ⟨rfl, hb_⟩; replace HS := HS.below hb_; clear hb_; clear z90 z91 z92 z93 z94 f90 f91 f92 f93 f94 z80 z81 z82 z83 z84 f80 f81 f82 f83 f84 z60 z61 z62 z63 z64 f60 f61 f62 f63 f64 z20 z21 z22 z23 z24 f20 f21 f22 f23 f24 z30 z31 z32 f30 f31 f32; obtain ⟨z90, z91, z92, z93, z94, f90, f91, f92, f93, f94⟩ := box5 (HS.blk 8); obtain ⟨z80, z81, z82, z83, z84, f80, f81, f82, f83, f84⟩ := box5 (HS.blk 9); obtain ⟨z60, z61, z62, z63, z64, f60, f61, f62, f63, f64⟩ := box5 (HS.blk 10); obtain ⟨z20, z21, z22, z23, z24, f20, f21, f22, f23, f24⟩ := box5 (HS.blk 16); obtain ⟨z30, z31, z32, f30, f31, f32⟩ := box3 (HS.blk 15)))
   go_upto_region 27 with fail
   clear z90 z91 z92 z93 z94 f90 f91 f92 f93 f94 z80 z81 z82 z83 z84 f80 f81 f82 f83 f84 z60 z61 z62 z63 z64 f60 f61 f62 f63 f64 z20 z21 z22 z23 z24 f20 f21 f22 f23 f24 z30 z31 z32 f30 f31 f32
   obtain ⟨z30, z31, z32, f30, f31, f32⟩ := box3 (HS.blk 15)
   obtain ⟨z20, z21, z22, z23, z24, f20, f21, f22, f23, f24⟩ := box5 (HS.blk 16)
   refine start_ (n := 11) (S := fun w' => w'.cell? ⟨b3, 0, none⟩ = some (.int .i64 a1_0) ∧ w'.cell? ⟨b3, 1, none⟩ = some (.int .i64 a1_1) ∧ w'.cell? ⟨b3, 2, none⟩ = some (.string a1_2) ∧ w'.cell? ⟨b2, 0, none⟩ = some (.slice A0_0 l0_0.length c0_0) ∧ w'.cell? ⟨b2, 1, none⟩ = some (.slice A0_1 l0_1.length c0_1) ∧ w'.cell? ⟨b2, 2, none⟩ = some (.slice A0_2 l0_2.length c0_2) ∧ w'.cell? ⟨b2, 3, none⟩ = some (.slice A0_3 l0_3.length c0_3) ∧ w'.cell? ⟨b2, 4, none⟩ = some (.int .i64 a0_4)) (ds := []) (bl 11 0) (by kernel_rfl) rfl rfl ⟨z30, z31, z32, z20, z21, z22, z23, z24⟩ (fun hHeld => ?_); refine with_tabW laws_FnExactStepNet.tab27 laws_FnExactStepNet.bits27 (fun HT_ HW_ => ?_)
   clear z30 z31 z32 f30 f31 f32 z20 z21 z22 z23 z24 f20 f21 f22 f23 f24
   replace HS := HS.drew
   generalize World.drew _ = W9_ at HS hHeld ⊢
   refine takeA 0 (some 85) 11 1 HT_ HW_ hHeld ?_ (hy := by rintro w' ⟨s0, s1, s2, s3, s4, s5, s6, s7⟩; go_simp; with_reducible rfl)
   refine takeA 2 (some 87) 11 5 HT_ HW_ hHeld ?_ (hy := by rintro w' ⟨s0, s1, s2, s3, s4, s5, s6, s7⟩; go_simp; with_reducible rfl)
   refine join_ (σ := Value × Value × Value × Value × Value × Value × Value × Value × Nat) 2 (bl 11 511) (fun s_ => [(86, .agg #[s_.1, s_.2.1, s_.2.2.1, s_.2.2.2.1, .int .i64 x5]), (88, .agg #[.int .i64 t1, .int .i64 t2, .string t3]), (89, .tuple #[.agg #[s_.2.2.2.2.1, s_.2.2.2.2.2.1, s_.2.2.2.2.2.2.1, s_.2.2.2.2.2.2.2.1, .int .i64 g5], .bool g6]), (84, .tuple #[.agg #[s_.2.2.2.2.1, s_.2.2.2.2.2.1, s_.2.2.2.2.2.2.1, s_.2.2.2.2.2.2.2.1, .int .i64 g5], .bool g6]), (90, .agg #[s_.2.2.2.2.1, s_.2.2.2.2.2.1, s_.2.2.2.2.2.2.1, s_.2.2.2.2.2.2.2.1, .int .i64 g5]), (91, .bool g6), (14, .pointer (some ⟨s_.2.2.2.2.2.2.2.2, 0, none⟩))]) (fun s_ w' => Sep w w' (bA s_.2.2.2.2.2.2.2.2 #[.slice none 0 0, .slice none 0 0, .slice none 0 0, .slice none 0 0, .int .i64 0] 27 :: rA KI 3 (s_.1) x1 :: sA KT 62 (s_.2.1) x2 :: sA KT 62 (s_.2.2.1) x3 :: sA KT 62 (s_.2.2.2.1) x4 :: rA KI 3 (s_.2.2.2.2.1) g1 :: sA KT 62 (s_.2.2.2.2.2.1) g2 :: sA KT 62 (s_.2.2.2.2.2.2.1) g3 :: sA KT 62 (s_.2.2.2.2.2.2.2.1) g4 :: rA KI 3 (.slice Agv0 g1.length cgv0) q1 :: sA KT 62 (.slice Agv1 g2.length cgv1) q2 :: sA KT 62 (.slice Agv2 g3.length cgv2) q3 :: sA KT 62 (.slice Agv3 g4.length cgv3) q4 :: rA KI 3 (.slice Axv0 x1.length cxv0) m1 :: sA KT 62 (.slice Axv1 x2.length cxv1) m2 :: sA KT 62 (.slice Axv2 x3.length cxv2) m3 :: sA KT 62 (.slice Axv3 x4.length cxv3) m4 :: bA b9 #[.slice Agv0 g1.length cgv0, .slice Agv1 g2.length cgv1, .slice Agv2 g3.length cgv2, .slice Agv3 g4.length cgv3, .int .i64 g5] 27 :: bA b8 #[.slice Axv0 x1.length cxv0, .slice Axv1 x2.length cxv1, .slice Axv2 x3.length cxv2, .slice Axv3 x4.length cxv3, .int .i64 x5] 27 :: bA b6 #[.slice Awv0 w1.length cwv0, .slice Awv1 w2.length cwv1, .slice Awv2 w3.length cwv2, .slice Awv3 w4.length cwv3, .int .i64 w5] 27 :: rA KI 3 (.slice Awv0 w1.length cwv0) w1 :: sA KT 62 (.slice Awv1 w2.length cwv1) w2 :: sA KT 62 (.slice Awv2 w3.length cwv2) w3 :: sA KT 62 (.slice Awv3 w4.length cwv3) w4 :: bA b3 #[.int .i64 a1_0, .int .i64 a1_1, .string a1_2] 50 :: bA b2 #[.slice A0_0 l0_0.length c0_0, .slice A0_1 l0_1.length c0_1, .slice A0_2 l0_2.length c0_2, .slice A0_3 l0_3.length c0_3, .int .i64 a0_4] 25 :: [])) ?_ ?_
   rotate_left
   ·intro hCont
    refine two_ (i := 1) (j := 8) (Ni := some 86) (Nj := some 14) (bl 11 7) (bl 11 261) rfl rfl rfl rfl (by kernel_rfl) (by decide) (by decide) (fun K hK => ?_) (fun K hK => ?_)
    ·skip
     refine goes_ Tryz.func10 (by kernel_rfl) rfl #[.agg #[.slice A0_0 l0_0.length c0_0, .slice A0_1 l0_1.length c0_1, .slice A0_2 l0_2.length c0_2, .slice A0_3 l0_3.length c0_3, .int .i64 a0_4]] (by rfl) rfl rfl (by (try simp only [List.map_toArray, List.map_cons, List.map_nil]); first | done | rfl) ?_
     have HC_ := nw_to (n := ⟨l0_0, l0_1, l0_2, l0_3, a0_4⟩) (HN.out.below HS.base) T1.out
     refine HC_.mono ?_
     clear HC_ hHeld
     rintro e W_ ⟨zv0, zv1, zv2, zv3, rfl, hc_, hb_⟩
     refine ⟨_, rfl, ?_⟩
     replace HS := HS.news hb_ hc_
     clear hc_ hb_
     dsimp only [netA, List.cons_append, List.nil_append] at HS
     obtain ⟨z30, z31, z32, f30, f31, f32⟩ := box3 (HS.blk 19)
     obtain ⟨z20, z21, z22, z23, z24, f20, f21, f22, f23, f24⟩ := box5 (HS.blk 20)
     refine hK.out _ _ ⟨z30, z31, z32, z20, z21, z22, z23, z24⟩ (fun hHeld => ?_)
     clear hK K z30 z31 z32 f30 f31 f32 z20 z21 z22 z23 z24 f20 f21 f22 f23 f24
     refine norm_ (a' := ?_) ?_ ?_
     rotate_left
     ·show Act.put _ (some 86) _ = _
      simp only [Act.put, List.setIfInBounds_toArray, List.set_cons_zero, List.set_cons_succ, i64_w, i32_w]
      rfl
     refine two_ (i := 3) (j := 8) (Ni := some 88) (Nj := some 14) (bl 11 15) (bl 11 263) rfl rfl rfl rfl (by kernel_rfl) (by decide) (by decide) (fun K hK => ?_) (fun K hK => ?_)
     ·skip
      refine goes_ Tryz.func29 (by kernel_rfl) rfl #[.agg #[.int .i64 a1_0, .int .i64 a1_1, .string a1_2]] (by rfl) rfl rfl (by (try simp only [List.map_toArray, List.map_cons, List.map_nil]); first | done | rfl) ?_
      refine (laws_toNetStep.calls a1_0 a1_1 a1_2 t1 t2 t3 _ T8.out).mono ?_
      clear hHeld
      rintro e W_ ⟨rfl, hb_⟩
      refine ⟨_, rfl, ?_⟩
      replace HS := HS.below hb_
      clear hb_
      obtain ⟨z30, z31, z32, f30, f31, f32⟩ := box3 (HS.blk 19)
      obtain ⟨z20, z21, z22, z23, z24, f20, f21, f22, f23, f24⟩ := box5 (HS.blk 20)
      refine hK.out _ _ ⟨z30, z31, z32, z20, z21, z22, z23, z24⟩ (fun hHeld => ?_)
      clear hK K z30 z31 z32 f30 f31 f32 z20 z21 z22 z23 z24 f20 f21 f22 f23 f24
      refine norm_ (a' := ?_) ?_ ?_
      rotate_left
      ·show Act.put _ (some 88) _ = _
       simp only [Act.put, List.setIfInBounds_toArray, List.set_cons_zero, List.set_cons_succ, i64_w, i32_w]
       rfl
      refine two_ (i := 4) (j := 8) (Ni := some 89) (Nj := some 14) (bl 11 31) (bl 11 271) rfl rfl rfl rfl (by kernel_rfl) (by decide) (by decide) (fun K hK => ?_) (fun K hK => ?_)
      ·skip
       refine goes_ Tryz.func30 (by kernel_rfl) rfl #[.agg #[zv0, zv1, zv2, zv3, .int .i64 x5], .agg #[.int .i64 t1, .int .i64 t2, .string t3]] (by rfl) rfl rfl (by (try simp only [List.map_toArray, List.map_cons, List.map_nil]); first | done | rfl) ?_
       have HC_ := impl_StepNet.calls (n := ⟨x1, x2, x3, x4, x5⟩) (sepNc HS 0) T3.out
       refine HC_.mono ?_
       clear HC_ hHeld
       rintro e W_ ⟨hv0, hv1, hv2, hv3, rfl, hc_, hb_⟩
       refine ⟨_, rfl, ?_⟩
       replace HS := HS.news hb_ hc_
       clear hc_ hb_
       dsimp only [netA, List.cons_append, List.nil_append] at HS
       obtain ⟨z30, z31, z32, f30, f31, f32⟩ := box3 (HS.blk 23)
       obtain ⟨z20, z21, z22, z23, z24, f20, f21, f22, f23, f24⟩ := box5 (HS.blk 24)
       refine hK.out _ _ ⟨z30, z31, z32, z20, z21, z22, z23, z24⟩ (fun hHeld => ?_)
       clear hK K z30 z31 z32 f30 f31 f32 z20 z21 z22 z23 z24 f20 f21 f22 f23 f24
       refine norm_ (a' := ?_) ?_ ?_
       rotate_left
       ·show Act.put _ (some 89) _ = _
        simp only [Act.put, List.setIfInBounds_toArray, List.set_cons_zero, List.set_cons_succ, i64_w, i32_w]
        rfl
       refine pureA 5 (some 84) 11 63 HT_ ?_
       refine pureA 6 (some 90) 11 127 HT_ ?_
       refine pureA 7 (some 91) 11 255 HT_ ?_
       refine oneA 8 (some 14) 11 511 HT_ (fun K hK => ?_)
       clear hHeld
       refine box_step ?hg (N := 14) ?hd (cs := #[.slice none 0 0, .slice none 0 0, .slice none 0 0, .slice none 0 0, .int .i64 0]) (t := 27) ?hr ?_; (case hd => rfl); (case hg => rfl); (case hr => first | (go_simp; done) | (go_simp; rfl))
       intro b14 hg_ W_ ho_ hb_
       replace HS := HS.box hg_ ho_ hb_
       clear hg_ ho_ hb_
       obtain ⟨z30, z31, z32, f30, f31, f32⟩ := box3 (HS.blk 24)
       obtain ⟨z20, z21, z22, z23, z24, f20, f21, f22, f23, f24⟩ := box5 (HS.blk 25)
       refine hK.out _ _ ⟨z30, z31, z32, z20, z21, z22, z23, z24⟩ (fun hHeld => ?_)
       clear hK K z30 z31 z32 f30 f31 f32 z20 z21 z22 z23 z24 f20 f21 f22 f23 f24
       refine norm_ (a' := ?_) ?_ ?_
       rotate_left
       ·show Act.put _ (some 14) _ = _
        simp only [Act.put, List.setIfInBounds_toArray, List.set_cons_zero, List.set_cons_succ, i64_w, i32_w]
        rfl
       exact norm_ (by simp only [putAll, Act.put, List.setIfInBounds_toArray, List.set_cons_zero, List.set_cons_succ]) (hCont (zv0, zv1, zv2, zv3, hv0, hv1, hv2, hv3, b14) _ (HS.fr25.fr25.fr25.fr25.fr25.fr25.fr25.fr25.fr25.fr25.fr25.fr25.fr25.fr25.fr25.fr25.fr25.fr21.fr21.fr21.fr21.fr25.fr25.fr25.fr25.fr25))
      ·skip
       clear hHeld
       refine box_step ?hg (N := 14) ?hd (cs := #[.slice none 0 0, .slice none 0 0, .slice none 0 0, .slice none 0 0, .int .i64 0]) (t := 27) ?hr ?_; (case hd => rfl); (case hg => rfl); (case hr => first | (go_simp; done) | (go_simp; rfl))
       intro b14 hg_ W_ ho_ hb_
       replace HS := HS.box hg_ ho_ hb_
       clear hg_ ho_ hb_
       obtain ⟨z30, z31, z32, f30, f31, f32⟩ := box3 (HS.blk 20)
       obtain ⟨z20, z21, z22, z23, z24, f20, f21, f22, f23, f24⟩ := box5 (HS.blk 21)
       refine hK.out _ _ ⟨z30, z31, z32, z20, z21, z22, z23, z24⟩ (fun hHeld => ?_)
       clear hK K z30 z31 z32 f30 f31 f32 z20 z21 z22 z23 z24 f20 f21 f22 f23 f24
       refine norm_ (a' := ?_) ?_ ?_
       rotate_left
       ·show Act.put _ (some 14) _ = _
        simp only [Act.put, List.setIfInBounds_toArray, List.set_cons_zero, List.set_cons_succ, i64_w, i32_w]
        rfl
       refine oneA 4 (some 89) 11 287 HT_ (fun K hK => ?_)
       refine goes_ Tryz.func30 (by kernel_rfl) rfl #[.agg #[zv0, zv1, zv2, zv3, .int .i64 x5], .agg #[.int .i64 t1, .int .i64 t2, .string t3]] (by rfl) rfl rfl (by (try simp only [List.map_toArray, List.map_cons, List.map_nil]); first | done | rfl) ?_
       have HC_ := impl_StepNet.calls (n := ⟨x1, x2, x3, x4, x5⟩) (sepNc HS 1) T3.out
       refine HC_.mono ?_
       clear HC_ hHeld
       rintro e W_ ⟨hv0, hv1, hv2, hv3, rfl, hc_, hb_⟩
       refine ⟨_, rfl, ?_⟩
       replace HS := HS.news hb_ hc_
       clear hc_ hb_
       dsimp only [netA, List.cons_append, List.nil_append] at HS
       obtain ⟨z30, z31, z32, f30, f31, f32⟩ := box3 (HS.blk 24)
       obtain ⟨z20, z21, z22, z23, z24, f20, f21, f22, f23, f24⟩ := box5 (HS.blk 25)
       refine hK.out _ _ ⟨z30, z31, z32, z20, z21, z22, z23, z24⟩ (fun hHeld => ?_)
       clear hK K z30 z31 z32 f30 f31 f32 z20 z21 z22 z23 z24 f20 f21 f22 f23 f24
       refine norm_ (a' := ?_) ?_ ?_
       rotate_left
       ·show Act.put _ (some 89) _ = _
        simp only [Act.put, List.setIfInBounds_toArray, List.set_cons_zero, List.set_cons_succ, i64_w, i32_w]
        rfl
       refine pureA 5 (some 84) 11 319 HT_ ?_
       refine pureA 6 (some 90) 11 383 HT_ ?_
       refine pureA 7 (some 91) 11 511 HT_ ?_
       exact norm_ (by simp only [putAll, Act.put, List.setIfInBounds_toArray, List.set_cons_zero, List.set_cons_succ]) (hCont (zv0, zv1, zv2, zv3, hv0, hv1, hv2, hv3, b14) _ (HS.fr25.fr25.fr25.fr25.fr25.fr25.fr25.fr25.fr25.fr25.fr25.fr25.fr25.fr25.fr25.fr25.fr25.fr20.fr20.fr20.fr20.fr25.fr25.fr25.fr25.fr25))
     ·skip
      clear hHeld
      refine box_step ?hg (N := 14) ?hd (cs := #[.slice none 0 0, .slice none 0 0, .slice none 0 0, .slice none 0 0, .int .i64 0]) (t := 27) ?hr ?_; (case hd => rfl); (case hg => rfl); (case hr => first | (go_simp; done) | (go_simp; rfl))
      intro b14 hg_ W_ ho_ hb_
      replace HS := HS.box hg_ ho_ hb_
      clear hg_ ho_ hb_
      obtain ⟨z30, z31, z32, f30, f31, f32⟩ := box3 (HS.blk 20)
      obtain ⟨z20, z21, z22, z23, z24, f20, f21, f22, f23, f24⟩ := box5 (HS.blk 21)
      refine hK.out _ _ ⟨z30, z31, z32, z20, z21, z22, z23, z24⟩ (fun hHeld => ?_)
      clear hK K z30 z31 z32 f30 f31 f32 z20 z21 z22 z23 z24 f20 f21 f22 f23 f24
      refine norm_ (a' := ?_) ?_ ?_
      rotate_left
      ·show Act.put _ (some 14) _ = _
       simp only [Act.put, List.setIfInBounds_toArray, List.set_cons_zero, List.set_cons_succ, i64_w, i32_w]
       rfl
      refine oneA 3 (some 88) 11 271 HT_ (fun K hK => ?_)
      refine goes_ Tryz.func29 (by kernel_rfl) rfl #[.agg #[.int .i64 a1_0, .int .i64 a1_1, .string a1_2]] (by rfl) rfl rfl (by (try simp only [List.map_toArray, List.map_cons, List.map_nil]); first | done | rfl) ?_
      refine (laws_toNetStep.calls a1_0 a1_1 a1_2 t1 t2 t3 _ T8.out).mono ?_
      clear hHeld
      rintro e W_ ⟨rfl, hb_⟩
      refine ⟨_, rfl, ?_⟩
      replace HS := HS.below hb_
      clear hb_
      obtain ⟨z30, z31, z32, f30, f31, f32⟩ := box3 (HS.blk 20)
      obtain ⟨z20, z21, z22, z23, z24, f20, f21, f22, f23, f24⟩ := box5 (HS.blk 21)
      refine hK.out _ _ ⟨z30, z31, z32, z20, z21, z22, z23, z24⟩ (fun hHeld => ?_)
      clear hK K z30 z31 z32 f30 f31 f32 z20 z21 z22 z23 z24 f20 f21 f22 f23 f24
      refine norm_ (a' := ?_) ?_ ?_
      rotate_left
      ·show Act.put _ (some 88) _ = _
       simp only [Act.put, List.setIfInBounds_toArray, List.set_cons_zero, List.set_cons_succ, i64_w, i32_w]
       rfl
      refine oneA 4 (some 89) 11 287 HT_ (fun K hK => ?_)
      refine goes_ Tryz.func30 (by kernel_rfl) rfl #[.agg #[zv0, zv1, zv2, zv3, .int .i64 x5], .agg #[.int .i64 t1, .int .i64 t2, .string t3]] (by rfl) rfl rfl (by (try simp only [List.map_toArray, List.map_cons, List.map_nil]); first | done | rfl) ?_
      have HC_ := impl_StepNet.calls (n := ⟨x1, x2, x3, x4, x5⟩) (sepNc HS 1) T3.out
      refine HC_.mono ?_
      clear HC_ hHeld
      rintro e W_ ⟨hv0, hv1, hv2, hv3, rfl, hc_, hb_⟩
      refine ⟨_, rfl, ?_⟩
      replace HS := HS.news hb_ hc_
      clear hc_ hb_
      dsimp only [netA, List.cons_append, List.nil_append] at HS
      obtain ⟨z30, z31, z32, f30, f31, f32⟩ := box3 (HS.blk 24)
      obtain ⟨z20, z21, z22, z23, z24, f20, f21, f22, f23, f24⟩ := box5 (HS.blk 25)
      refine hK.out _ _ ⟨z30, z31, z32, z20, z21, z22, z23, z24⟩ (fun hHeld => ?_)
      clear hK K z30 z31 z32 f30 f31 f32 z20 z21 z22 z23 z24 f20 f21 f22 f23 f24
      refine norm_ (a' := ?_) ?_ ?_
      rotate_left
      ·show Act.put _ (some 89) _ = _
       simp only [Act.put, List.setIfInBounds_toArray, List.set_cons_zero, List.set_cons_succ, i64_w, i32_w]
       rfl
      refine pureA 5 (some 84) 11 319 HT_ ?_
      refine pureA 6 (some 90) 11 383 HT_ ?_
      refine pureA 7 (some 91) 11 511 HT_ ?_
      exact norm_ (by simp only [putAll, Act.put, List.setIfInBounds_toArray, List.set_cons_zero, List.set_cons_succ]) (hCont (zv0, zv1, zv2, zv3, hv0, hv1, hv2, hv3, b14) _ (HS.fr25.fr25.fr25.fr25.fr25.fr25.fr25.fr25.fr25.fr25.fr25.fr25.fr25.fr25.fr25.fr25.fr25.fr20.fr20.fr20.fr20.fr25.fr25.fr25.fr25.fr25))
    ·skip
     clear hHeld
     refine box_step ?hg (N := 14) ?hd (cs := #[.slice none 0 0, .slice none 0 0, .slice none 0 0, .slice none 0 0, .int .i64 0]) (t := 27) ?hr ?_; (case hd => rfl); (case hg => rfl); (case hr => first | (go_simp; done) | (go_simp; rfl))
     intro b14 hg_ W_ ho_ hb_
     replace HS := HS.box hg_ ho_ hb_
     clear hg_ ho_ hb_
     obtain ⟨z30, z31, z32, f30, f31, f32⟩ := box3 (HS.blk 16)
     obtain ⟨z20, z21, z22, z23, z24, f20, f21, f22, f23, f24⟩ := box5 (HS.blk 17)
     refine hK.out _ _ ⟨z30, z31, z32, z20, z21, z22, z23, z24⟩ (fun hHeld => ?_)
     clear hK K z30 z31 z32 f30 f31 f32 z20 z21 z22 z23 z24 f20 f21 f22 f23 f24
     refine norm_ (a' := ?_) ?_ ?_
     rotate_left
     ·show Act.put _ (some 14) _ = _
      simp only [Act.put, List.setIfInBounds_toArray, List.set_cons_zero, List.set_cons_succ, i64_w, i32_w]
      rfl
     refine oneA 1 (some 86) 11 263 HT_ (fun K hK => ?_)
     refine goes_ Tryz.func10 (by kernel_rfl) rfl #[.agg #[.slice A0_0 l0_0.length c0_0, .slice A0_1 l0_1.length c0_1, .slice A0_2 l0_2.length c0_2, .slice A0_3 l0_3.length c0_3, .int .i64 a0_4]] (by rfl) rfl rfl (by (try simp only [List.map_toArray, List.map_cons, List.map_nil]); first | done | rfl) ?_
     have HC_ := nw_to (n := ⟨l0_0, l0_1, l0_2, l0_3, a0_4⟩) (HN.out.below HS.base) T1.out
     refine HC_.mono ?_
     clear HC_ hHeld
     rintro e W_ ⟨zv0, zv1, zv2, zv3, rfl, hc_, hb_⟩
     refine ⟨_, rfl, ?_⟩
     replace HS := HS.news hb_ hc_
     clear hc_ hb_
     dsimp only [netA, List.cons_append, List.nil_append] at HS
     obtain ⟨z30, z31, z32, f30, f31, f32⟩ := box3 (HS.blk 20)
     obtain ⟨z20, z21, z22, z23, z24, f20, f21, f22, f23, f24⟩ := box5 (HS.blk 21)
     refine hK.out _ _ ⟨z30, z31, z32, z20, z21, z22, z23, z24⟩ (fun hHeld => ?_)
     clear hK K z30 z31 z32 f30 f31 f32 z20 z21 z22 z23 z24 f20 f21 f22 f23 f24
     refine norm_ (a' := ?_) ?_ ?_
     rotate_left
     ·show Act.put _ (some 86) _ = _
      simp only [Act.put, List.setIfInBounds_toArray, List.set_cons_zero, List.set_cons_succ, i64_w, i32_w]
      rfl
     refine oneA 3 (some 88) 11 271 HT_ (fun K hK => ?_)
     refine goes_ Tryz.func29 (by kernel_rfl) rfl #[.agg #[.int .i64 a1_0, .int .i64 a1_1, .string a1_2]] (by rfl) rfl rfl (by (try simp only [List.map_toArray, List.map_cons, List.map_nil]); first | done | rfl) ?_
     refine (laws_toNetStep.calls a1_0 a1_1 a1_2 t1 t2 t3 _ T8.out).mono ?_
     clear hHeld
     rintro e W_ ⟨rfl, hb_⟩
     refine ⟨_, rfl, ?_⟩
     replace HS := HS.below hb_
     clear hb_
     obtain ⟨z30, z31, z32, f30, f31, f32⟩ := box3 (HS.blk 20)
     obtain ⟨z20, z21, z22, z23, z24, f20, f21, f22, f23, f24⟩ := box5 (HS.blk 21)
     refine hK.out _ _ ⟨z30, z31, z32, z20, z21, z22, z23, z24⟩ (fun hHeld => ?_)
     clear hK K z30 z31 z32 f30 f31 f32 z20 z21 z22 z23 z24 f20 f21 f22 f23 f24
     refine norm_ (a' := ?_) ?_ ?_
     rotate_left
     ·show Act.put _ (some 88) _ = _
      simp only [Act.put, List.setIfInBounds_toArray, List.set_cons_zero, List.set_cons_succ, i64_w, i32_w]
      rfl
     refine oneA 4 (some 89) 11 287 HT_ (fun K hK => ?_)
     refine goes_ Tryz.func30 (by kernel_rfl) rfl #[.agg #[zv0, zv1, zv2, zv3, .int .i64 x5], .agg #[.int .i64 t1, .int .i64 t2, .string t3]] (by rfl) rfl rfl (by (try simp only [List.map_toArray, List.map_cons, List.map_nil]); first | done | rfl) ?_
     have HC_ := impl_StepNet.calls (n := ⟨x1, x2, x3, x4, x5⟩) (sepNc HS 0) T3.out
     refine HC_.mono ?_
     clear HC_ hHeld
     rintro e W_ ⟨hv0, hv1, hv2, hv3, rfl, hc_, hb_⟩
     refine ⟨_, rfl, ?_⟩
     replace HS := HS.news hb_ hc_
     clear hc_ hb_
     dsimp only [netA, List.cons_append, List.nil_append] at HS
     obtain ⟨z30, z31, z32, f30, f31, f32⟩ := box3 (HS.blk 24)
     obtain ⟨z20, z21, z22, z23, z24, f20, f21, f22, f23, f24⟩ := box5 (HS.blk 25)
     refine hK.out _ _ ⟨z30, z31, z32, z20, z21, z22, z23, z24⟩ (fun hHeld => ?_)
     clear hK K z30 z31 z32 f30 f31 f32 z20 z21 z22 z23 z24 f20 f21 f22 f23 f24
     refine norm_ (a' := ?_) ?_ ?_
     rotate_left
     ·show Act.put _ (some 89) _ = _
      simp only [Act.put, List.setIfInBounds_toArray, List.set_cons_zero, List.set_cons_succ, i64_w, i32_w]
      rfl
     refine pureA 5 (some 84) 11 319 HT_ ?_
     refine pureA 6 (some 90) 11 383 HT_ ?_
     refine pureA 7 (some 91) 11 511 HT_ ?_
     exact norm_ (by simp only [putAll, Act.put, List.setIfInBounds_toArray, List.set_cons_zero, List.set_cons_succ]) (hCont (zv0, zv1, zv2, zv3, hv0, hv1, hv2, hv3, b14) _ (HS.fr25.fr25.fr25.fr25.fr25.fr25.fr25.fr25.fr25.fr25.fr25.fr25.fr25.fr25.fr25.fr25.fr25.fr20.fr20.fr20.fr20.fr24.fr24.fr24.fr24.fr25))
   clear HS hHeld
   intro s_ W_ HS
   obtain ⟨zv0, zv1, zv2, zv3, hv0, hv1, hv2, hv3, b14⟩ := s_
   dsimp only at HS
   have hHeld := True.intro
   obtain ⟨Azv0, czv0, rfl⟩ := HS.slR 1
   obtain ⟨Azv1, czv1, rfl⟩ := HS.slS 2
   obtain ⟨Azv2, czv2, rfl⟩ := HS.slS 3
   obtain ⟨Azv3, czv3, rfl⟩ := HS.slS 4
   obtain ⟨Ahv0, chv0, rfl⟩ := HS.slR 5
   obtain ⟨Ahv1, chv1, rfl⟩ := HS.slS 6
   obtain ⟨Ahv2, chv2, rfl⟩ := HS.slS 7
   obtain ⟨Ahv3, chv3, rfl⟩ := HS.slS 8
   refine norm_ (a' := ?_) ?_ ?_
   rotate_left
   ·show putAll _ _ = _
    simp only [putAll, Act.put, List.setIfInBounds_toArray, List.set_cons_zero, List.set_cons_succ, i64_w, i32_w]
    rfl
   refine oneA 9 none 11 1023 HT_ (fun K hK => ?_)
   clear hHeld
   obtain ⟨z140, z141, z142, z143, z144, f140, f141, f142, f143, f144⟩ := box5 (HS.blk 0)
   refine skip_ (w1 := ?_) (by rfl) rfl ?_ ?_
   rotate_left
   ·go_simp
    rfl
   replace HS := (((((HS.putI 0 0 (.slice Ahv0 g1.length chv0) #[.slice Ahv0 g1.length chv0, .slice none 0 0, .slice none 0 0, .slice none 0 0, .int .i64 0]).putI 0 1 (.slice Ahv1 g2.length chv1) #[.slice Ahv0 g1.length chv0, .slice Ahv1 g2.length chv1, .slice none 0 0, .slice none 0 0, .int .i64 0]).putI 0 2 (.slice Ahv2 g3.length chv2) #[.slice Ahv0 g1.length chv0, .slice Ahv1 g2.length chv1, .slice Ahv2 g3.length chv2, .slice none 0 0, .int .i64 0]).putI 0 3 (.slice Ahv3 g4.length chv3) #[.slice Ahv0 g1.length chv0, .slice Ahv1 g2.length chv1, .slice Ahv2 g3.length chv2, .slice Ahv3 g4.length chv3, .int .i64 0]).putI 0 4 (.int .i64 g5) #[.slice Ahv0 g1.length chv0, .slice Ahv1 g2.length chv1, .slice Ahv2 g3.length chv2, .slice Ahv3 g4.length chv3, .int .i64 g5])
   clear z140 z141 z142 z143 z144 f140 f141 f142 f143 f144
   obtain ⟨z30, z31, z32, f30, f31, f32⟩ := box3 (HS.blk 24)
   obtain ⟨z20, z21, z22, z23, z24, f20, f21, f22, f23, f24⟩ := box5 (HS.blk 25)
   refine hK.out _ _ ⟨z30, z31, z32, z20, z21, z22, z23, z24⟩ (fun hHeld => ?_)
   clear hK K z30 z31 z32 f30 f31 f32 z20 z21 z22 z23 z24 f20 f21 f22 f23 f24
   refine pureA 10 (some 15) 11 2047 HT_ ?_
   refine done_ (done_of HT_.out (by kernel_rfl)) ?_
   clear HT_ HW_ hHeld
   obtain ⟨z140, z141, z142, z143, z144, f140, f141, f142, f143, f144⟩ := box5 (HS.blk 0)
   obtain ⟨z90, z91, z92, z93, z94, f90, f91, f92, f93, f94⟩ := box5 (HS.blk 17)
   obtain ⟨z80, z81, z82, z83, z84, f80, f81, f82, f83, f84⟩ := box5 (HS.blk 18)
   obtain ⟨z60, z61, z62, z63, z64, f60, f61, f62, f63, f64⟩ := box5 (HS.blk 19)
   obtain ⟨z20, z21, z22, z23, z24, f20, f21, f22, f23, f24⟩ := box5 (HS.blk 25)
   obtain ⟨z30, z31, z32, f30, f31, f32⟩ := box3 (HS.blk 24)
   go_wp2_with (first | (go_at_call 12; have HC_ := nw_eq (n := ⟨g1, g2, g3, g4, g5⟩) (m := ⟨w1, w2, w3, w4, w5⟩) (sepNc HS 5) (sepNc HS 20) T4.out; refine HC_.mono ?_; clear HC_; rintro e W_ ⟨rfl, hb_⟩; replace HS := HS.below hb_; clear hb_; clear z140 z141 z142 z143 z144 f140 f141 f142 f143 f144 z90 z91 z92 z93 z94 f90 f91 f92 f93 f94 z80 z81 z82 z83 z84 f80 f81 f82 f83 f84 z60 z61 z62 z63 z64 f60 f61 f62 f63 f64 z20 z21 z22 z23 z24 f20 f21 f22 f23 f24 z30 z31 z32 f30 f31 f32; obtain ⟨z140, z141, z142, z143, z144, f140, f141, f142, f143, f144⟩ := box5 (HS.blk 0); obtain ⟨z90, z91, z92, z93, z94, f90, f91, f92, f93, f94⟩ := box5 (HS.blk 17); obtain ⟨z80, z81, z82, z83, z84, f80, f81, f82, f83, f84⟩ := box5 (HS.blk 18); obtain ⟨z60, z61, z62, z63, z64, f60, f61, f62, f63, f64⟩ := box5 (HS.blk 19); obtain ⟨z20, z21, z22, z23, z24, f20, f21, f22, f23, f24⟩ := box5 (HS.blk 25); obtain ⟨z30, z31, z32, f30, f31, f32⟩ := box3 (HS.blk 24)) | (go_at_call 14; have HC_ := nw_held (n := ⟨q1, q2, q3, q4, g5⟩) (sepNc HS 9) T10.out; refine HC_.mono ?_; clear HC_; rintro e W_ ⟨rfl, hb_⟩; replace HS := HS.below hb_; clear hb_; clear z140 z141 z142 z143 z144 f140 f141 f142 f143 f144 z90 z91 z92 z93 z94 f90 f91 f92 f93 f94 z80 z81 z82 z83 z84 f80 f81 f82 f83 f84 z60 z61 z62 z63 z64 f60 f61 f62 f63 f64 z20 z21 z22 z23 z24 f20 f21 f22 f23 f24 z30 z31 z32 f30 f31 f32; obtain ⟨z140, z141, z142, z143, z144, f140, f141, f142, f143, f144⟩ := box5 (HS.blk 0); obtain ⟨z90, z91, z92, z93, z94, f90, f91, f92, f93, f94⟩ := box5 (HS.blk 17); obtain ⟨z80, z81, z82, z83, z84, f80, f81, f82, f83, f84⟩ := box5 (HS.blk 18); obtain ⟨z60, z61, z62, z63, z64, f60, f61, f62, f63, f64⟩ := box5 (HS.blk 19); obtain ⟨z20, z21, z22, z23, z24, f20, f21, f22, f23, f24⟩ := box5 (HS.blk 25); obtain ⟨z30, z31, z32, f30, f31, f32⟩ := box3 (HS.blk 24)))
   go_ret
   exact ⟨er, HS.base⟩

/-- THE ONE PURE STATEMENT of laws_FnExactStepNet. -/
def laws_FnExactStepNet.Pure : Prop := ∀ (l0_0 : List Int) (l0_1 : List (List ByteArray)) (l0_2 : List (List ByteArray)) (l0_3 : List (List ByteArray)) (a0_4 : Int) (a1_0 : Int) (a1_1 : Int) (a1_2 : ByteArray), W25 (⟨l0_0, l0_1, l0_2, l0_3, a0_4⟩ : S25) → W50 (⟨a1_0, a1_1, a1_2⟩ : S50) → ∃ k, laws_FnExactStepNet.f k l0_0 l0_1 l0_2 l0_3 a0_4 a1_0 a1_1 a1_2 = some true
theorem laws_FnExactStepNet.walk (P : laws_FnExactStepNet.Pure) (A0_0 : Option Addr) (c0_0 : Nat) (l0_0 : List Int) (A0_1 : Option Addr) (c0_1 : Nat) (l0_1 : List (List ByteArray)) (A0_2 : Option Addr) (c0_2 : Nat) (l0_2 : List (List ByteArray)) (A0_3 : Option Addr) (c0_3 : Nat) (l0_3 : List (List ByteArray)) (a0_4 : Int) (a1_0 : Int) (a1_1 : Int) (a1_2 : ByteArray) (w : World) (hr0_0 : Kd.C (Kd.int .i64) w A0_0 l0_0.length l0_0) (hc0_0 : l0_0.length ≤ c0_0) (hr0_1 : Kd.C (Kd.slice 9 Kd.string) w A0_1 l0_1.length l0_1) (hc0_1 : l0_1.length ≤ c0_1) (hr0_2 : Kd.C (Kd.slice 9 Kd.string) w A0_2 l0_2.length l0_2) (hc0_2 : l0_2.length ≤ c0_2) (hr0_3 : Kd.C (Kd.slice 9 Kd.string) w A0_3 l0_3.length l0_3) (hc0_3 : l0_3.length ≤ c0_3) (g0 : W25 (⟨l0_0, l0_1, l0_2, l0_3, a0_4⟩ : S25)) (g1 : W50 (⟨a1_0, a1_1, a1_2⟩ : S50)) :
  Calls Tryz.prog 5 #[.agg #[.slice A0_0 l0_0.length c0_0, .slice A0_1 l0_1.length c0_1, .slice A0_2 l0_2.length c0_2, .slice A0_3 l0_3.length c0_3, .int .i64 a0_4], .agg #[.int .i64 a1_0, .int .i64 a1_1, .string a1_2]] w fun e w' => e = .returned (.bool true) ∧ Below w.heap.size w w' := by
 obtain ⟨k, h⟩ := P l0_0 l0_1 l0_2 l0_3 a0_4 a1_0 a1_1 a1_2 g0 g1
 refine (laws_FnExactStepNet.calls k _ _ l0_0 _ _ l0_1 _ _ l0_2 _ _ l0_3 a0_4 a1_0 a1_1 a1_2 true w hr0_0 hc0_0 hr0_1 hc0_1 hr0_2 hc0_2 hr0_3 hc0_3 h rfl).mono ?_
 rintro e w' ⟨rfl, hd⟩
 exact ⟨rfl, hd⟩

end Go.Proofs.YtihekdlcfohkkaaGreatDoor.QFnExactStepNet
