-- printed by this session's own program (wip/tools/pp.py: the kit's print.py with changes); Lean checks it
import Derived.Test.YtkgogglnipdcfaaQFnBoardx0
import Derived.Test.YtkgogglnipdcfaaQFnBoardx1
import Derived.Test.YtkgogglnipdcfaaQFnBoardx5
import Derived.Test.YtkgogglnipdcfaaQFnBoardx6
import Derived.Test.YtkgogglnipdcfaaQFnBoardx8
import Derived.Test.YtkgogglnipdcfaaQFnBoardx9
namespace Go.Proofs.Ytkgogglnipdcfaa.QFnBoard
open Go.RowKit Go.Proofs.YtkgogglnipdcfaaW.PrintWords Go.Proofs.YtkgogglnipdcfaaW.PrintLast Go.Proofs.YtkgogglnipdcfaaW.PrintMore
attribute [local go_sem] max2_int min2_int max_two min_two max_three min_three max_four min_four strLss strGtr strLeq strGeq   -- for this text's walks alone
set_option linter.unusedVariables false
set_option linter.unusedSimpArgs false

/-! ### spec.l13Step (121) -/
section
variable {w0 w : World} {g : Nat} {row : Option Nat} {f0 f1 : Int} {v2 v3 v4 : Value} {l2 : List (List Int)} {l3 l4 : List Int} {W W1 : World}
/-- What l1Put hands back comes into the place of the lists. -/
theorem BdIn.put4 (h : BdIn w0 w g row f0 f1 v2 v3 v4 l2 l3 l4 W) {u : Value} {y : List Int} (hu : Kd.R (Kd.int .i64) 3 W1 w0.heap.size (fun k_ => some k_ = v4.ownBlock ∨ W.heap.size ≤ k_) u y) (hb : Below w0.heap.size w0 W1) (hk : Kept W W1 (fun k_ => some k_ = v4.ownBlock)) :
    W1.heap[g]? = some (.cells #[.int .i64 f0, .int .i64 f1, v2, v3, v4] 47 (0, 0)) ∧ BdIn w0 (W1.setCell ⟨g, 4, none⟩ u) g row f0 f1 v2 v3 u l2 l3 y (W1.setCell ⟨g, 4, none⟩ u) := by
 have hg := (hk.2 g (blk_lt h.blk) (Kd.R_ne h.r4 h.blk (by decide))).trans h.blk
 have ne : ∀ k_, k_ < W.heap.size → some k_ ≠ v4.ownBlock → some k_ ≠ u.ownBlock := fun k_ h1 h2 h3 => (hu.1 k_ h3.symm).elim h2 (fun h4 => by omega)
 refine ⟨hg, ?_⟩
 have H := BdIn.put (w := W1) (row := row) 4 u hg rfl h.ge (Kd.S_mono (Kd.S_step (Kd.S_bound h.s2) (fun k_ h1 h2 => hk.2 k_ h2 h1.1.2)) (fun k_ h1 => ⟨h1.1.1, ne k_ h1.2.2.1 h1.1.2⟩)) (Kd.R_mono (Kd.R_step (Kd.R_bound h.r3) (fun k_ h1 h2 => hk.2 k_ h2 h1.1)) (fun k_ h1 => ne k_ h1.2.2.1 h1.1)) (Kd.R_mono hu (fun k_ h1 h3 => h1.elim (fun h4 => h.r4.1 k_ h4.symm h3) (fun h4 => by have := Kd.R_lt h.r3 k_ h3.symm; omega))) hb (KeepBut.refl _ _ _)
 exact H.rebase row
end
/-- What lies elsewhere lies as it lay. -/
def Lk (w W : World) (p q : Option Nat) : Prop := w.heap.size ≤ W.heap.size ∧ ∀ i, i < w.heap.size → some i ≠ p → some i ≠ q → W.heap[i]? = w.heap[i]?
section
variable {w W W1 : World} {p q : Option Nat}
theorem Lk.refl (w : World) (p q : Option Nat) : Lk w w p q := ⟨Nat.le_refl _, fun _ _ _ _ => rfl⟩
theorem Lk.step (h : Lk w W p q) (hb : Below W.heap.size W W1) : Lk w W1 p q := ⟨Nat.le_trans h.1 hb.size, fun i hi h1 h2 => (hb.block i (Nat.lt_of_lt_of_le hi h.1)).trans (h.2 i hi h1 h2)⟩
theorem Lk.drewN (h : Lk w W p q) (n : Nat) : Lk w (W.drewN n) p q := h.step (by first | exact pw_below_drewN (Below.refl _ W) n | exact Below.drewN (Below.refl _ W) n)
theorem Lk.grown (h : Lk w W p q) (hg : W.grownBy W1 p) : Lk w W1 p q := ⟨Nat.le_trans h.1 hg.size, fun i hi h1 h2 => (hg.block i (Nat.lt_of_lt_of_le hi h.1) h1).trans (h.2 i hi h1 h2)⟩
theorem Lk.kept (h : Lk w W p q) (hk : Kept W W1 (fun k_ => some k_ = q)) : Lk w W1 p q := ⟨Nat.le_trans h.1 hk.1, fun i hi h1 h2 => (hk.2 i (Nat.lt_of_lt_of_le hi h.1) h2).trans (h.2 i hi h1 h2)⟩
theorem Lk.set (h : Lk w W p q) {g : Nat} (hg : w.heap.size ≤ g) (i : Nat) (u : Value) : Lk w (W.setCell ⟨g, i, none⟩ u) p q := ⟨Nat.le_trans h.1 (Nat.le_of_eq (World.size_setCell _ _ _).symm), fun k hi h1 h2 => (Below.heap_setCell W ⟨g, i, none⟩ u k (Nat.ne_of_lt (Nat.lt_of_lt_of_le hi hg))).trans (h.2 k hi h1 h2)⟩
theorem Lk.st5 (h : Lk w W p q) {g : Nat} (hg : w.heap.size ≤ g) (a0 a1 a2 a3 a4 : Value) : Lk w (st5 W g a0 a1 a2 a3 a4) p q := ((((h.set hg 0 a0).set hg 1 a1).set hg 2 a2).set hg 3 a3).set hg 4 a4
end
def spec_l13Step.f (k : Nat) (f0 f1 : Int) (l2 : List (List Int)) (l3 l4 : List Int) (a b c : Int) : Option (Int × List (List Int) × List Int × Bool) :=
  (spec_QuorumFor.f f0).bind fun q => if a = 1 then (if b = 0 then ((spec_l13List.f c).bind fun t1 => if t1 = true then ((spec_l1Has.f k l4 c).bind fun t2 => if t2 = true then some (f1, l2, l4, false) else ((spec_l1Put.f k l4 c).bind fun y => some (f1, l2, y, true))) else some (f1, l2, l4, false)) else some (f1, l2, l4, false))
  else (if a = 2 then ((spec_l1In.f b 0 (wrap64 (q.1 - 1))).bind fun t1 => if t1 = true then ((spec_l1Has.f k l4 c).bind fun t2 => if t2 = true then (if (l2.length : Int) < 200 then ((spec_l13Has.f k f0 f1 l2 l3 l4 f1 b c).bind fun t3 => if t3 = true then some (f1, l2, l4, false) else ((spec_l1Has.f k l3 b).bind fun t4 => if t4 = true then some (f1, l2 ++ [[f1, b, c]], l4, true) else ((spec_l13Has.f k f0 f1 l2 l3 l4 f1 b (-1)).bind fun t5 => if t5 = true then some (f1, l2, l4, false) else some (f1, l2 ++ [[f1, b, c]], l4, true)))) else some (f1, l2, l4, false)) else some (f1, l2, l4, false)) else some (f1, l2, l4, false))
  else (if a = 3 then (if b = 0 then (if c = 0 then (if f1 < 20 then some (wrap64 (f1 + 1), l2, [], true) else some (f1, l2, l4, false)) else some (f1, l2, l4, false)) else some (f1, l2, l4, false)) else some (f1, l2, l4, false)))
set_option maxRecDepth 100000 in
theorem spec_l13Step.mono : ∀ a0 a1 a2 a3 a4 a5 a6 a7 k, LeO (spec_l13Step.f k a0 a1 a2 a3 a4 a5 a6 a7) (spec_l13Step.f (k + 1) a0 a1 a2 a3 a4 a5 a6 a7) := by
 intro a0 a1 a2 a3 a4 a5 a6 a7 k
 unfold spec_l13Step.f
 repeat' (first | exact LeO.refl _ | exact spec_l1Has.mono _ _ _ | exact spec_l1Put.mono _ _ _ | exact spec_l13Has.mono _ _ _ _ _ _ _ _ _ | refine LeO.ite ?_ ?_ | refine LeO.bind ?_ (fun _ => ?_))
set_option maxHeartbeats 8000000 in
set_option maxRecDepth 100000 in
theorem spec_l13Step.calls (k : Nat) (f0 f1 : Int) (v2 v3 v4 : Value) (l2 : List (List Int)) (l3 l4 : List Int) (a b c : Int) (r1 : Int) (r2 : List (List Int)) (r4 : List Int) (r : Bool) (w0 w : World) (hB : Below w0.heap.size w0 w) (s2 : Kd.S (Kd.slice 3 (Kd.int .i64)) 23 w w0.heap.size (fun k_ => some k_ ≠ v3.ownBlock ∧ some k_ ≠ v4.ownBlock) v2 l2) (h3 : Kd.R (Kd.int .i64) 3 w w0.heap.size (fun k_ => some k_ ≠ v4.ownBlock) v3 l3) (h4 : Kd.R (Kd.int .i64) 3 w w0.heap.size (fun k_ => some k_ ≠ v3.ownBlock) v4 l4) (h : spec_l13Step.f k f0 f1 l2 l3 l4 a b c = some (r1, r2, r4, r)) :
  Calls Try.prog 121 #[.agg #[.int .i64 f0, .int .i64 f1, v2, v3, v4], .agg #[.int .i64 a, .int .i64 b, .int .i64 c]] w fun e w' => ∃ u2 u4 : Value, e = .returned (.tuple #[.agg #[.int .i64 f0, .int .i64 r1, u2, v3, u4], .bool r]) ∧ Kd.S (Kd.slice 3 (Kd.int .i64)) 23 w' w0.heap.size (fun k_ => some k_ ≠ v3.ownBlock ∧ some k_ ≠ u4.ownBlock) u2 r2 ∧ Kd.R (Kd.int .i64) 3 w' w0.heap.size (fun k_ => some k_ ≠ u4.ownBlock) v3 l3 ∧ Kd.R (Kd.int .i64) 3 w' w0.heap.size (fun k_ => some k_ ≠ v3.ownBlock) u4 r4 ∧ Below w0.heap.size w0 w' ∧ Lk w w' v2.ownBlock v4.ownBlock := by
 obtain ⟨X2, Y2, rfl⟩ := Kd.S_slice s2
 obtain ⟨X3, Y3, rfl⟩ := Kd.R_slice h3
 obtain ⟨X4, Y4, rfl⟩ := Kd.R_slice h4
 have HB := Aside0.mk hB; have HS := Aside0.mk s2; have H3 := Aside0.mk h3; have H4 := Aside0.mk h4; have LK := Aside0.mk (Lk.refl w (Value.slice X2 l2.length Y2).ownBlock (Value.slice X4 l4.length Y4).ownBlock)
 clear hB s2 h3 h4
 have hu47 := Try.underlying47
 have hu158 := Try.underlying158
 unfold spec_l13Step.f at h
 replace h := bS h; obtain ⟨⟨q1, q2, q3⟩, N1, h⟩ := h
 dsimp only at h
 go_enter Try.func121, Try.ntmps121
 go_upto_region 3 with (first | ((with_reducible refine gate_dst (N := 2) rfl ?_); refine boxev 2 #[.int .i64 f0, .int .i64 f1, .slice X2 l2.length Y2, .slice X3 l3.length Y3, .slice X4 l4.length Y4] 47 ?_; intro gb hg_ w4 hbox hb; have BI := ak (⟨hbox, hgl hg_ HB.out, Kd.S_below HS.out hb, Kd.R_below H3.out hb, Kd.R_below H4.out hb, below_step HB.out hb, KeepBut.refl _ _ _⟩ : BdIn w0 w4 gb none f0 f1 (.slice X2 l2.length Y2) (.slice X3 l3.length Y3) (.slice X4 l4.length Y4) l2 l3 l4 w4); have GBW := ak (Nat.le_trans LK.out.1 (Nat.le_of_eq hg_.symm)); replace LK := ak (LK.out.step hb); clear hb hbox hg_ HB HS H3 H4) | ((with_reducible refine gate_dst (N := 3) rfl ?_); refine boxev 3 #[.int .i64 a, .int .i64 b, .int .i64 c] 158 ?_; intro gs hg_ w5 hbox hb; have BS := ak hbox; replace LK := ak (LK.out.step hb); replace BI := ak (BI.out.step hb); clear hb hbox hg_) | ((with_reducible refine gate_dst (N := 4) rfl ?_); refine boxev 4 #[.int .i64 0, .int .i64 0, .slice none 0 0, .slice none 0 0, .slice none 0 0] 47 ?_; intro gr hg_ w6 hbox hb; have BR := ak hbox; have GR := ak (hgl hg_ BI.out.below); have NB1 : gb ≠ gr := (by rw [hg_]; exact Nat.ne_of_lt (blk_lt BI.out.blk)); have NB2 : gr ≠ gb := Ne.symm NB1; replace BI := ak (BI.out.step hb); replace BS := ak (blk_below BS.out hb); have GRW := ak (Nat.le_trans LK.out.1 (Nat.le_of_eq hg_.symm)); replace LK := ak (LK.out.step hb); (try clear hs0 hs1 hs2 hy0 hy1 hy2); (try clear hx0 hx1 hx2 hx3 hx4 hg0 hg1 hg2 hg3 hg4); (try clear hz0 hz1 hz2 hz3 hz4 hq0 hq1 hq2 hq3 hq4); obtain ⟨hs0, hs1, hs2, hy0, hy1, hy2⟩ := box3 BS; obtain ⟨hx0, hx1, hx2, hx3, hx4, hg0, hg1, hg2, hg3, hg4⟩ := box5 (ak BI.out.blk); obtain ⟨hz0, hz1, hz2, hz3, hz4, hq0, hq1, hq2, hq3, hq4⟩ := box5 BR; clear hb hbox hg_) | (go_at_call 193; (with_reducible refine (spec_QuorumFor.calls f0 q1 q2 q3 _ N1.out).mono ?_); rintro e w' ⟨rfl, ⟨nd, rfl⟩⟩; replace BI := ak (BI.out.drewN nd); replace BS := ak (blk_drewN BS.out nd); replace BR := ak (blk_drewN BR.out nd); replace LK := ak (LK.out.drewN nd); generalize World.drewN _ nd = w7 at BI BS BR LK ⊢; (try clear hs0 hs1 hs2 hy0 hy1 hy2); (try clear hx0 hx1 hx2 hx3 hx4 hg0 hg1 hg2 hg3 hg4); (try clear hz0 hz1 hz2 hz3 hz4 hq0 hq1 hq2 hq3 hq4); obtain ⟨hs0, hs1, hs2, hy0, hy1, hy2⟩ := box3 BS; obtain ⟨hx0, hx1, hx2, hx3, hx4, hg0, hg1, hg2, hg3, hg4⟩ := box5 (ak BI.out.blk); obtain ⟨hz0, hz1, hz2, hz3, hz4, hq0, hq1, hq2, hq3, hq4⟩ := box5 BR))
 by_cases ca : a = 1
 ·rw [if_pos ca] at h
  have cx2 : ¬ a = 2 := by omega
  have cx3 : ¬ a = 3 := by omega
  have cab0 : decide (a = 1) = true := decide_eq_true ca
  have cab1 : (a == 1) = true := beq_iff_eq.mpr ca
  have cab2 : (a != 1) = false := bne_eq_false_iff_eq.mpr ca
  clear ca
  have cx2b0 : decide (a = 2) = false := decide_eq_false cx2
  have cx2b1 : (a == 2) = false := beq_eq_false_iff_ne.mpr cx2
  have cx2b2 : (a != 2) = true := bne_iff_ne.mpr cx2
  clear cx2
  have cx3b0 : decide (a = 3) = false := decide_eq_false cx3
  have cx3b1 : (a == 3) = false := beq_eq_false_iff_ne.mpr cx3
  have cx3b2 : (a != 3) = true := bne_iff_ne.mpr cx3
  clear cx3
  by_cases cb : b = 0
  ·rw [if_pos cb] at h
   have cbb0 : decide (b = 0) = true := decide_eq_true cb
   have cbb1 : (b == 0) = true := beq_iff_eq.mpr cb
   have cbb2 : (b != 0) = false := bne_eq_false_iff_eq.mpr cb
   clear cb
   replace h := bS h; obtain ⟨t1, A1, h⟩ := h
   cases t1 with
   | false =>
    rw [if_neg (by decide)] at h
    simp only [Option.some.injEq, Prod.mk.injEq] at h
    obtain ⟨rfl, rfl, rfl, rfl⟩ := h
    go_wp2_with (first | (go_at_call 194; (with_reducible refine (spec_l13List.calls c _ _ A1.out).mono ?_); rintro e w' ⟨rfl, ⟨nd, rfl⟩⟩; replace BI := ak (BI.out.drewN nd); replace BS := ak (blk_drewN BS.out nd); replace BR := ak (blk_drewN BR.out nd); replace LK := ak (LK.out.drewN nd); generalize World.drewN _ nd = w7 at BI BS BR LK ⊢; (try clear hs0 hs1 hs2 hy0 hy1 hy2); (try clear hx0 hx1 hx2 hx3 hx4 hg0 hg1 hg2 hg3 hg4); (try clear hz0 hz1 hz2 hz3 hz4 hq0 hq1 hq2 hq3 hq4); obtain ⟨hs0, hs1, hs2, hy0, hy1, hy2⟩ := box3 BS; obtain ⟨hx0, hx1, hx2, hx3, hx4, hg0, hg1, hg2, hg3, hg4⟩ := box5 (ak BI.out.blk); obtain ⟨hz0, hz1, hz2, hz3, hz4, hq0, hq1, hq2, hq3, hq4⟩ := box5 BR))
    refine bodyPost_ret (results_ct rfl _ _ gr 47 #[.int .i64 f0, .int .i64 f1, .slice X2 l2.length Y2, .slice X3 l3.length Y3, .slice X4 l4.length Y4] (0, 0) _ rfl (st5_blk BR.out _ _ _ _ _) Try.underlying47 rfl (by kernel_rfl)) rfl ?_
    have BF := st5_in (f0 := f0) (f1 := f1) BR.out GR.out BI.out.s2 BI.out.r3 BI.out.r4 BI.out.below none
    exact ⟨_, _, by first | rfl | (simp; done) | trace_state, BF.s2, BF.r3, BF.r4, BF.below, LK.out.st5 GRW.out _ _ _ _ _⟩
   | true =>
    rw [if_pos rfl] at h
    replace h := bS h; obtain ⟨t2, A2, h⟩ := h
    cases t2 with
    | true =>
     rw [if_pos rfl] at h
     simp only [Option.some.injEq, Prod.mk.injEq] at h
     obtain ⟨rfl, rfl, rfl, rfl⟩ := h
     go_wp2_with (first | (go_at_call 194; (with_reducible refine (spec_l13List.calls c _ _ A1.out).mono ?_); rintro e w' ⟨rfl, ⟨nd, rfl⟩⟩; replace BI := ak (BI.out.drewN nd); replace BS := ak (blk_drewN BS.out nd); replace BR := ak (blk_drewN BR.out nd); replace LK := ak (LK.out.drewN nd); generalize World.drewN _ nd = w7 at BI BS BR LK ⊢; (try clear hs0 hs1 hs2 hy0 hy1 hy2); (try clear hx0 hx1 hx2 hx3 hx4 hg0 hg1 hg2 hg3 hg4); (try clear hz0 hz1 hz2 hz3 hz4 hq0 hq1 hq2 hq3 hq4); obtain ⟨hs0, hs1, hs2, hy0, hy1, hy2⟩ := box3 BS; obtain ⟨hx0, hx1, hx2, hx3, hx4, hg0, hg1, hg2, hg3, hg4⟩ := box5 (ak BI.out.blk); obtain ⟨hz0, hz1, hz2, hz3, hz4, hq0, hq1, hq2, hq3, hq4⟩ := box5 BR) | (go_at_call 173; (with_reducible refine (spec_l1Has.calls k _ _ l4 c _ _ ?side1 ?side2 A2.out).mono ?_); (case side1 => exact cd (Kd.R_reads' BI.out.r4).2.2); (case side2 => exact (Kd.R_reads' BI.out.r4).2.1); rintro e w' ⟨rfl, ⟨nd, rfl⟩⟩; replace BI := ak (BI.out.drewN nd); replace BS := ak (blk_drewN BS.out nd); replace BR := ak (blk_drewN BR.out nd); replace LK := ak (LK.out.drewN nd); generalize World.drewN _ nd = w7 at BI BS BR LK ⊢; (try clear hs0 hs1 hs2 hy0 hy1 hy2); (try clear hx0 hx1 hx2 hx3 hx4 hg0 hg1 hg2 hg3 hg4); (try clear hz0 hz1 hz2 hz3 hz4 hq0 hq1 hq2 hq3 hq4); obtain ⟨hs0, hs1, hs2, hy0, hy1, hy2⟩ := box3 BS; obtain ⟨hx0, hx1, hx2, hx3, hx4, hg0, hg1, hg2, hg3, hg4⟩ := box5 (ak BI.out.blk); obtain ⟨hz0, hz1, hz2, hz3, hz4, hq0, hq1, hq2, hq3, hq4⟩ := box5 BR))
     refine bodyPost_ret (results_ct rfl _ _ gr 47 #[.int .i64 f0, .int .i64 f1, .slice X2 l2.length Y2, .slice X3 l3.length Y3, .slice X4 l4.length Y4] (0, 0) _ rfl (st5_blk BR.out _ _ _ _ _) Try.underlying47 rfl (by kernel_rfl)) rfl ?_
     have BF := st5_in (f0 := f0) (f1 := f1) BR.out GR.out BI.out.s2 BI.out.r3 BI.out.r4 BI.out.below none
     exact ⟨_, _, by first | rfl | (simp; done) | trace_state, BF.s2, BF.r3, BF.r4, BF.below, LK.out.st5 GRW.out _ _ _ _ _⟩
    | false =>
     rw [if_neg (by decide)] at h
     replace h := bS h; obtain ⟨y, A3, h⟩ := h
     simp only [Option.some.injEq, Prod.mk.injEq] at h
     obtain ⟨rfl, rfl, rfl, rfl⟩ := h
     go_upto_region 12 with (first | (go_at_call 194; (with_reducible refine (spec_l13List.calls c _ _ A1.out).mono ?_); rintro e w' ⟨rfl, ⟨nd, rfl⟩⟩; replace BI := ak (BI.out.drewN nd); replace BS := ak (blk_drewN BS.out nd); replace BR := ak (blk_drewN BR.out nd); replace LK := ak (LK.out.drewN nd); generalize World.drewN _ nd = w7 at BI BS BR LK ⊢; (try clear hs0 hs1 hs2 hy0 hy1 hy2); (try clear hx0 hx1 hx2 hx3 hx4 hg0 hg1 hg2 hg3 hg4); (try clear hz0 hz1 hz2 hz3 hz4 hq0 hq1 hq2 hq3 hq4); obtain ⟨hs0, hs1, hs2, hy0, hy1, hy2⟩ := box3 BS; obtain ⟨hx0, hx1, hx2, hx3, hx4, hg0, hg1, hg2, hg3, hg4⟩ := box5 (ak BI.out.blk); obtain ⟨hz0, hz1, hz2, hz3, hz4, hq0, hq1, hq2, hq3, hq4⟩ := box5 BR) | (go_at_call 173; (with_reducible refine (spec_l1Has.calls k _ _ l4 c _ _ ?side1 ?side2 A2.out).mono ?_); (case side1 => exact cd (Kd.R_reads' BI.out.r4).2.2); (case side2 => exact (Kd.R_reads' BI.out.r4).2.1); rintro e w' ⟨rfl, ⟨nd, rfl⟩⟩; replace BI := ak (BI.out.drewN nd); replace BS := ak (blk_drewN BS.out nd); replace BR := ak (blk_drewN BR.out nd); replace LK := ak (LK.out.drewN nd); generalize World.drewN _ nd = w7 at BI BS BR LK ⊢; (try clear hs0 hs1 hs2 hy0 hy1 hy2); (try clear hx0 hx1 hx2 hx3 hx4 hg0 hg1 hg2 hg3 hg4); (try clear hz0 hz1 hz2 hz3 hz4 hq0 hq1 hq2 hq3 hq4); obtain ⟨hs0, hs1, hs2, hy0, hy1, hy2⟩ := box3 BS; obtain ⟨hx0, hx1, hx2, hx3, hx4, hg0, hg1, hg2, hg3, hg4⟩ := box5 (ak BI.out.blk); obtain ⟨hz0, hz1, hz2, hz3, hz4, hq0, hq1, hq2, hq3, hq4⟩ := box5 BR) | (go_at_call 176; (with_reducible refine (spec_l1Put.calls k (fun k_ => some k_ = (Value.slice X4 l4.length Y4).ownBlock) _ l4 c y w0 _ BI.out.below (Kd.R_tight rfl BI.out.r4) A3.out).mono ?_); rintro e w9 ⟨u, rfl, ho, hb, hk⟩; have BP := ak (BI.out.put4 ho hb hk); replace BS := ak ((hk.2 gs (blk_lt BS.out) (Kd.R_ne BI.out.r4 BS.out (by decide))).trans BS.out); replace BR := ak ((hk.2 gr (blk_lt BR.out) (Kd.R_ne BI.out.r4 BR.out (by decide))).trans BR.out); have HU := ak ho; replace LK := ak (LK.out.kept hk); clear ho hb hk; obtain ⟨XU, YU, eU⟩ := Kd.R_slice HU.out; subst eU; (try clear hs0 hs1 hs2 hy0 hy1 hy2); (try clear hx0 hx1 hx2 hx3 hx4 hg0 hg1 hg2 hg3 hg4); (try clear hz0 hz1 hz2 hz3 hz4 hq0 hq1 hq2 hq3 hq4); obtain ⟨hs0, hs1, hs2, hy0, hy1, hy2⟩ := box3 BS; obtain ⟨hx0, hx1, hx2, hx3, hx4, hg0, hg1, hg2, hg3, hg4⟩ := box5 (ak BP.out.1); obtain ⟨hz0, hz1, hz2, hz3, hz4, hq0, hq1, hq2, hq3, hq4⟩ := box5 BR))
     have BN := ak BP.out.2
     replace BR := ak (blk_far (p := ⟨gb, 4, none⟩) BR.out NB2 (.slice XU y.length YU))
     replace LK := ak (LK.out.set GBW.out 4 (.slice XU y.length YU))
     clear BI BP BS hs0 hs1 hs2 hy0 hy1 hy2 hx0 hx1 hx2 hx3 hx4 hg0 hg1 hg2 hg3 hg4 hz0 hz1 hz2 hz3 hz4 hq0 hq1 hq2 hq3 hq4
     generalize w9.setCell ⟨gb, 4, none⟩ (.slice XU y.length YU) = w20 at BN BR LK ⊢
     have BI := ak (BN.out.rebase none)
     obtain ⟨hx0, hx1, hx2, hx3, hx4, hg0, hg1, hg2, hg3, hg4⟩ := box5 (ak BI.out.blk); obtain ⟨hz0, hz1, hz2, hz3, hz4, hq0, hq1, hq2, hq3, hq4⟩ := box5 BR
     go_wp2
     refine bodyPost_ret (results_ct rfl _ _ gr 47 #[.int .i64 f0, .int .i64 f1, .slice X2 l2.length Y2, .slice X3 l3.length Y3, .slice XU y.length YU] (0, 0) _ rfl (st5_blk BR.out _ _ _ _ _) Try.underlying47 rfl (by kernel_rfl)) rfl ?_
     have BF := st5_in (f0 := f0) (f1 := f1) BR.out GR.out BI.out.s2 BI.out.r3 BI.out.r4 BI.out.below none
     exact ⟨_, _, by first | rfl | (simp; done) | trace_state, BF.s2, BF.r3, BF.r4, BF.below, LK.out.st5 GRW.out _ _ _ _ _⟩
  ·rw [if_neg cb] at h
   have cbb0 : decide (b = 0) = false := decide_eq_false cb
   have cbb1 : (b == 0) = false := beq_eq_false_iff_ne.mpr cb
   have cbb2 : (b != 0) = true := bne_iff_ne.mpr cb
   clear cb
   simp only [Option.some.injEq, Prod.mk.injEq] at h
   obtain ⟨rfl, rfl, rfl, rfl⟩ := h
   go_wp2
   refine bodyPost_ret (results_ct rfl _ _ gr 47 #[.int .i64 f0, .int .i64 f1, .slice X2 l2.length Y2, .slice X3 l3.length Y3, .slice X4 l4.length Y4] (0, 0) _ rfl (st5_blk BR.out _ _ _ _ _) Try.underlying47 rfl (by kernel_rfl)) rfl ?_
   have BF := st5_in (f0 := f0) (f1 := f1) BR.out GR.out BI.out.s2 BI.out.r3 BI.out.r4 BI.out.below none
   exact ⟨_, _, by first | rfl | (simp; done) | trace_state, BF.s2, BF.r3, BF.r4, BF.below, LK.out.st5 GRW.out _ _ _ _ _⟩
 ·rw [if_neg ca] at h
  have cab0 : decide (a = 1) = false := decide_eq_false ca
  have cab1 : (a == 1) = false := beq_eq_false_iff_ne.mpr ca
  have cab2 : (a != 1) = true := bne_iff_ne.mpr ca
  clear ca
  by_cases cd2 : a = 2
  ·rw [if_pos cd2] at h
   have cx3 : ¬ a = 3 := by omega
   have cd2b0 : decide (a = 2) = true := decide_eq_true cd2
   have cd2b1 : (a == 2) = true := beq_iff_eq.mpr cd2
   have cd2b2 : (a != 2) = false := bne_eq_false_iff_eq.mpr cd2
   clear cd2
   have cx3b0 : decide (a = 3) = false := decide_eq_false cx3
   have cx3b1 : (a == 3) = false := beq_eq_false_iff_ne.mpr cx3
   have cx3b2 : (a != 3) = true := bne_iff_ne.mpr cx3
   clear cx3
   replace h := bS h; obtain ⟨t1, A1, h⟩ := h
   cases t1 with
   | false =>
    rw [if_neg (by decide)] at h
    simp only [Option.some.injEq, Prod.mk.injEq] at h
    obtain ⟨rfl, rfl, rfl, rfl⟩ := h
    go_wp2_with (first | (go_at_call 153; (with_reducible refine (spec_l1In.calls b 0 (wrap64 (q1 - 1)) _ _ A1.out).mono ?_); rintro e w' ⟨rfl, ⟨nd, rfl⟩⟩; replace BI := ak (BI.out.drewN nd); replace BS := ak (blk_drewN BS.out nd); replace BR := ak (blk_drewN BR.out nd); replace LK := ak (LK.out.drewN nd); generalize World.drewN _ nd = w7 at BI BS BR LK ⊢; (try clear hs0 hs1 hs2 hy0 hy1 hy2); (try clear hx0 hx1 hx2 hx3 hx4 hg0 hg1 hg2 hg3 hg4); (try clear hz0 hz1 hz2 hz3 hz4 hq0 hq1 hq2 hq3 hq4); obtain ⟨hs0, hs1, hs2, hy0, hy1, hy2⟩ := box3 BS; obtain ⟨hx0, hx1, hx2, hx3, hx4, hg0, hg1, hg2, hg3, hg4⟩ := box5 (ak BI.out.blk); obtain ⟨hz0, hz1, hz2, hz3, hz4, hq0, hq1, hq2, hq3, hq4⟩ := box5 BR))
    refine bodyPost_ret (results_ct rfl _ _ gr 47 #[.int .i64 f0, .int .i64 f1, .slice X2 l2.length Y2, .slice X3 l3.length Y3, .slice X4 l4.length Y4] (0, 0) _ rfl (st5_blk BR.out _ _ _ _ _) Try.underlying47 rfl (by kernel_rfl)) rfl ?_
    have BF := st5_in (f0 := f0) (f1 := f1) BR.out GR.out BI.out.s2 BI.out.r3 BI.out.r4 BI.out.below none
    exact ⟨_, _, by first | rfl | (simp; done) | trace_state, BF.s2, BF.r3, BF.r4, BF.below, LK.out.st5 GRW.out _ _ _ _ _⟩
   | true =>
    rw [if_pos rfl] at h
    replace h := bS h; obtain ⟨t2, A2, h⟩ := h
    cases t2 with
    | false =>
     rw [if_neg (by decide)] at h
     simp only [Option.some.injEq, Prod.mk.injEq] at h
     obtain ⟨rfl, rfl, rfl, rfl⟩ := h
     go_wp2_with (first | (go_at_call 153; (with_reducible refine (spec_l1In.calls b 0 (wrap64 (q1 - 1)) _ _ A1.out).mono ?_); rintro e w' ⟨rfl, ⟨nd, rfl⟩⟩; replace BI := ak (BI.out.drewN nd); replace BS := ak (blk_drewN BS.out nd); replace BR := ak (blk_drewN BR.out nd); replace LK := ak (LK.out.drewN nd); generalize World.drewN _ nd = w7 at BI BS BR LK ⊢; (try clear hs0 hs1 hs2 hy0 hy1 hy2); (try clear hx0 hx1 hx2 hx3 hx4 hg0 hg1 hg2 hg3 hg4); (try clear hz0 hz1 hz2 hz3 hz4 hq0 hq1 hq2 hq3 hq4); obtain ⟨hs0, hs1, hs2, hy0, hy1, hy2⟩ := box3 BS; obtain ⟨hx0, hx1, hx2, hx3, hx4, hg0, hg1, hg2, hg3, hg4⟩ := box5 (ak BI.out.blk); obtain ⟨hz0, hz1, hz2, hz3, hz4, hq0, hq1, hq2, hq3, hq4⟩ := box5 BR) | (go_at_call 173; (with_reducible refine (spec_l1Has.calls k _ _ l4 c _ _ ?side1 ?side2 A2.out).mono ?_); (case side1 => exact cd (Kd.R_reads' BI.out.r4).2.2); (case side2 => exact (Kd.R_reads' BI.out.r4).2.1); rintro e w' ⟨rfl, ⟨nd, rfl⟩⟩; replace BI := ak (BI.out.drewN nd); replace BS := ak (blk_drewN BS.out nd); replace BR := ak (blk_drewN BR.out nd); replace LK := ak (LK.out.drewN nd); generalize World.drewN _ nd = w7 at BI BS BR LK ⊢; (try clear hs0 hs1 hs2 hy0 hy1 hy2); (try clear hx0 hx1 hx2 hx3 hx4 hg0 hg1 hg2 hg3 hg4); (try clear hz0 hz1 hz2 hz3 hz4 hq0 hq1 hq2 hq3 hq4); obtain ⟨hs0, hs1, hs2, hy0, hy1, hy2⟩ := box3 BS; obtain ⟨hx0, hx1, hx2, hx3, hx4, hg0, hg1, hg2, hg3, hg4⟩ := box5 (ak BI.out.blk); obtain ⟨hz0, hz1, hz2, hz3, hz4, hq0, hq1, hq2, hq3, hq4⟩ := box5 BR))
     refine bodyPost_ret (results_ct rfl _ _ gr 47 #[.int .i64 f0, .int .i64 f1, .slice X2 l2.length Y2, .slice X3 l3.length Y3, .slice X4 l4.length Y4] (0, 0) _ rfl (st5_blk BR.out _ _ _ _ _) Try.underlying47 rfl (by kernel_rfl)) rfl ?_
     have BF := st5_in (f0 := f0) (f1 := f1) BR.out GR.out BI.out.s2 BI.out.r3 BI.out.r4 BI.out.below none
     exact ⟨_, _, by first | rfl | (simp; done) | trace_state, BF.s2, BF.r3, BF.r4, BF.below, LK.out.st5 GRW.out _ _ _ _ _⟩
    | true =>
     rw [if_pos rfl] at h
     by_cases c2 : (l2.length : Int) < 200
     ·rw [if_pos c2] at h
      have HL := ak c2
      have c2b0 : decide ((l2.length : Int) < 200) = true := decide_eq_true c2
      clear c2
      go_upto_region 6 with (first | (go_at_call 153; (with_reducible refine (spec_l1In.calls b 0 (wrap64 (q1 - 1)) _ _ A1.out).mono ?_); rintro e w' ⟨rfl, ⟨nd, rfl⟩⟩; replace BI := ak (BI.out.drewN nd); replace BS := ak (blk_drewN BS.out nd); replace BR := ak (blk_drewN BR.out nd); replace LK := ak (LK.out.drewN nd); generalize World.drewN _ nd = w7 at BI BS BR LK ⊢; (try clear hs0 hs1 hs2 hy0 hy1 hy2); (try clear hx0 hx1 hx2 hx3 hx4 hg0 hg1 hg2 hg3 hg4); (try clear hz0 hz1 hz2 hz3 hz4 hq0 hq1 hq2 hq3 hq4); obtain ⟨hs0, hs1, hs2, hy0, hy1, hy2⟩ := box3 BS; obtain ⟨hx0, hx1, hx2, hx3, hx4, hg0, hg1, hg2, hg3, hg4⟩ := box5 (ak BI.out.blk); obtain ⟨hz0, hz1, hz2, hz3, hz4, hq0, hq1, hq2, hq3, hq4⟩ := box5 BR) | (go_at_call 173; (with_reducible refine (spec_l1Has.calls k _ _ l4 c _ _ ?side1 ?side2 A2.out).mono ?_); (case side1 => exact cd (Kd.R_reads' BI.out.r4).2.2); (case side2 => exact (Kd.R_reads' BI.out.r4).2.1); rintro e w' ⟨rfl, ⟨nd, rfl⟩⟩; replace BI := ak (BI.out.drewN nd); replace BS := ak (blk_drewN BS.out nd); replace BR := ak (blk_drewN BR.out nd); replace LK := ak (LK.out.drewN nd); generalize World.drewN _ nd = w7 at BI BS BR LK ⊢; (try clear hs0 hs1 hs2 hy0 hy1 hy2); (try clear hx0 hx1 hx2 hx3 hx4 hg0 hg1 hg2 hg3 hg4); (try clear hz0 hz1 hz2 hz3 hz4 hq0 hq1 hq2 hq3 hq4); obtain ⟨hs0, hs1, hs2, hy0, hy1, hy2⟩ := box3 BS; obtain ⟨hx0, hx1, hx2, hx3, hx4, hg0, hg1, hg2, hg3, hg4⟩ := box5 (ak BI.out.blk); obtain ⟨hz0, hz1, hz2, hz3, hz4, hq0, hq1, hq2, hq3, hq4⟩ := box5 BR))
      replace h := bS h; obtain ⟨t3, A3, h⟩ := h
      cases t3 with
      | true =>
       rw [if_pos rfl] at h
       simp only [Option.some.injEq, Prod.mk.injEq] at h
       obtain ⟨rfl, rfl, rfl, rfl⟩ := h
       go_wp2_with (first | (go_at_call 195; (with_reducible refine (spec_l13Has.calls k f0 f1 _ _ l2 _ _ l3 _ _ l4 f1 b c _ _ ?side1 ?side2 ?side3 ?side4 ?side5 ?side6 A3.out).mono ?_); (case side1 => exact cd (Kd.S_reads' BI.out.s2).2.2); (case side2 => exact (Kd.S_reads' BI.out.s2).2.1); (case side3 => exact cd (Kd.R_reads' BI.out.r3).2.2); (case side4 => exact (Kd.R_reads' BI.out.r3).2.1); (case side5 => exact cd (Kd.R_reads' BI.out.r4).2.2); (case side6 => exact (Kd.R_reads' BI.out.r4).2.1); rintro e w9 ⟨rfl, hb⟩; replace BI := ak (BI.out.step hb); replace BS := ak (blk_below BS.out hb); replace BR := ak (blk_below BR.out hb); replace LK := ak (LK.out.step hb); clear hb; (try clear hs0 hs1 hs2 hy0 hy1 hy2); (try clear hx0 hx1 hx2 hx3 hx4 hg0 hg1 hg2 hg3 hg4); (try clear hz0 hz1 hz2 hz3 hz4 hq0 hq1 hq2 hq3 hq4); obtain ⟨hs0, hs1, hs2, hy0, hy1, hy2⟩ := box3 BS; obtain ⟨hx0, hx1, hx2, hx3, hx4, hg0, hg1, hg2, hg3, hg4⟩ := box5 (ak BI.out.blk); obtain ⟨hz0, hz1, hz2, hz3, hz4, hq0, hq1, hq2, hq3, hq4⟩ := box5 BR))
       refine bodyPost_ret (results_ct rfl _ _ gr 47 #[.int .i64 f0, .int .i64 f1, .slice X2 l2.length Y2, .slice X3 l3.length Y3, .slice X4 l4.length Y4] (0, 0) _ rfl (st5_blk BR.out _ _ _ _ _) Try.underlying47 rfl (by kernel_rfl)) rfl ?_
       have BF := st5_in (f0 := f0) (f1 := f1) BR.out GR.out BI.out.s2 BI.out.r3 BI.out.r4 BI.out.below none
       exact ⟨_, _, by first | rfl | (simp; done) | trace_state, BF.s2, BF.r3, BF.r4, BF.below, LK.out.st5 GRW.out _ _ _ _ _⟩
      | false =>
       rw [if_neg (by decide)] at h
       replace h := bS h; obtain ⟨t4, A4, h⟩ := h
       cases t4 with
       | true =>
        rw [if_pos rfl] at h
        simp only [Option.some.injEq, Prod.mk.injEq] at h
        obtain ⟨rfl, rfl, rfl, rfl⟩ := h
        go_upto_region 12 with (first | (go_at_call 173; (with_reducible refine (spec_l1Has.calls k _ _ l3 b _ _ ?side1 ?side2 A4.out).mono ?_); (case side1 => exact cd (Kd.R_reads' BI.out.r3).2.2); (case side2 => exact (Kd.R_reads' BI.out.r3).2.1); rintro e w' ⟨rfl, ⟨nd, rfl⟩⟩; replace BI := ak (BI.out.drewN nd); replace BS := ak (blk_drewN BS.out nd); replace BR := ak (blk_drewN BR.out nd); replace LK := ak (LK.out.drewN nd); generalize World.drewN _ nd = w7 at BI BS BR LK ⊢; (try clear hs0 hs1 hs2 hy0 hy1 hy2); (try clear hx0 hx1 hx2 hx3 hx4 hg0 hg1 hg2 hg3 hg4); (try clear hz0 hz1 hz2 hz3 hz4 hq0 hq1 hq2 hq3 hq4); obtain ⟨hs0, hs1, hs2, hy0, hy1, hy2⟩ := box3 BS; obtain ⟨hx0, hx1, hx2, hx3, hx4, hg0, hg1, hg2, hg3, hg4⟩ := box5 (ak BI.out.blk); obtain ⟨hz0, hz1, hz2, hz3, hz4, hq0, hq1, hq2, hq3, hq4⟩ := box5 BR) | (go_at_call 195; (with_reducible refine (spec_l13Has.calls k f0 f1 _ _ l2 _ _ l3 _ _ l4 f1 b c _ _ ?side1 ?side2 ?side3 ?side4 ?side5 ?side6 A3.out).mono ?_); (case side1 => exact cd (Kd.S_reads' BI.out.s2).2.2); (case side2 => exact (Kd.S_reads' BI.out.s2).2.1); (case side3 => exact cd (Kd.R_reads' BI.out.r3).2.2); (case side4 => exact (Kd.R_reads' BI.out.r3).2.1); (case side5 => exact cd (Kd.R_reads' BI.out.r4).2.2); (case side6 => exact (Kd.R_reads' BI.out.r4).2.1); rintro e w9 ⟨rfl, hb⟩; replace BI := ak (BI.out.step hb); replace BS := ak (blk_below BS.out hb); replace BR := ak (blk_below BR.out hb); replace LK := ak (LK.out.step hb); clear hb; (try clear hs0 hs1 hs2 hy0 hy1 hy2); (try clear hx0 hx1 hx2 hx3 hx4 hg0 hg1 hg2 hg3 hg4); (try clear hz0 hz1 hz2 hz3 hz4 hq0 hq1 hq2 hq3 hq4); obtain ⟨hs0, hs1, hs2, hy0, hy1, hy2⟩ := box3 BS; obtain ⟨hx0, hx1, hx2, hx3, hx4, hg0, hg1, hg2, hg3, hg4⟩ := box5 (ak BI.out.blk); obtain ⟨hz0, hz1, hz2, hz3, hz4, hq0, hq1, hq2, hq3, hq4⟩ := box5 BR) | ((with_reducible refine gate_dst (N := 102) rfl ?_); refine Kd.R_lit (Kd.int .i64) _ 3 ?hg (N := 102) ?hd (xs := ([f1, b, c] : List Int)) (inner := [.int .i64 f1, .int .i64 b, .int .i64 c]) (ok := fun _ => True) (okp := fun _ => True) ?hr ?hp (fun _ hk => hk) trivial (Below.refl _ _) (Nat.le_refl _) (by simp) ?_; (case hd => rfl); (case hg => rfl); (case hr => first | (go_simp; done) | (go_simp; rfl)); (case hp => exact (Reps.one (show Kd.M (Kd.int .i64) _ _ _ f1 [.int .i64 f1] from rfl) (Reps.one (show Kd.M (Kd.int .i64) _ _ _ b [.int .i64 b] from rfl) (Reps.one (show Kd.M (Kd.int .i64) _ _ _ c [.int .i64 c] from rfl) (Reps.none _ _))))); intro vN w11 ho hb hg_ hnew_; clear hg_ hnew_; have HS := ak (Kd.S_elder' BI.out.s2 (Kd.R_base ho) hb); have HF := ak (And.intro (Kd.fresh' (Kd.R_lt BI.out.r3)) (And.intro (Kd.fresh' (Kd.R_lt BI.out.r4)) (Kd.fresh' (Kd.S_lt BI.out.s2)))); have HV := ak (Kd.R_base ho); have HN := ak (Kd.R_lower ho BI.out.below.size); replace LK := ak (LK.out.step hb); replace BI := ak (BI.out.step hb); replace BS := ak (blk_below BS.out hb); replace BR := ak (blk_below BR.out hb); clear ho hb; obtain ⟨XN, YN, eN⟩ := Kd.R_slice HN.out; subst eN; (try clear hs0 hs1 hs2 hy0 hy1 hy2); (try clear hx0 hx1 hx2 hx3 hx4 hg0 hg1 hg2 hg3 hg4); (try clear hz0 hz1 hz2 hz3 hz4 hq0 hq1 hq2 hq3 hq4); obtain ⟨hs0, hs1, hs2, hy0, hy1, hy2⟩ := box3 BS; obtain ⟨hx0, hx1, hx2, hx3, hx4, hg0, hg1, hg2, hg3, hg4⟩ := box5 (ak BI.out.blk); obtain ⟨hz0, hz1, hz2, hz3, hz4, hq0, hq1, hq2, hq3, hq4⟩ := box5 BR) | ((with_reducible refine gate_builtin (b := .append) (xs := #[.tmp 95, .tmp 103]) rfl ?_); at_builtin; go_loud (refine Kd.S_append (Kd.slice 3 (Kd.int .i64)) (w0 := w0) w0.heap.size rfl (.tmp 95) (.tmp 103) 45 23 (.slice none 0 0) 24 rfl Try.underlying45 info23 rfl (by decide) (by omega) (.slice X2 l2.length Y2) l2 [f1, b, c] [.slice XN [f1, b, c].length YN] (fun k_ => some k_ ≠ (Value.slice X3 l3.length Y3).ownBlock ∧ some k_ ≠ (Value.slice X4 l4.length Y4).ownBlock) (fun k_ => some k_ = (Value.slice XN [f1, b, c].length YN).ownBlock) rfl rfl ?aP ?aQ ?aF ?aO ?aB ?aS ?aL ?_; (case aP => exact Kd.M_row (Kd.R_tight rfl HN.out)); (case aQ => exact fun k_ hk_ => ⟨⟨HF.out.1 k_ (HV.out k_ hk_.symm), HF.out.2.1 k_ (HV.out k_ hk_.symm)⟩, HF.out.2.2 k_ (HV.out k_ hk_.symm)⟩); (case aF => exact (fun k_ hk => ⟨Kd.fresh' (Kd.R_lt BI.out.r3) k_ hk, Kd.fresh' (Kd.R_lt BI.out.r4) k_ hk⟩)); (case aO => exact Kd.S_mono HS.out (fun k_ hk => ⟨hk.1, fun e_ => hk.2 e_⟩)); (case aB => exact BI.out.below); (case aS => exact BI.out.below.size); (case aL => have := HL.out; omega); intro u2 w12 ho hb hg hat; clear hat; have HG := ak (blk_grown BI.out.blk hg (Kd.S_ne BI.out.s2 BI.out.blk (by decide))); have K3 := ak (Kd.R_over' BI.out.r3 (Kd.S_typed BI.out.s2) (by decide) hg); have K4 := ak (Kd.R_over' BI.out.r4 (Kd.S_typed BI.out.s2) (by decide) hg); replace BS := ak (blk_grown BS.out hg (Kd.S_ne BI.out.s2 BS.out (by decide))); replace BR := ak (blk_grown BR.out hg (Kd.S_ne BI.out.s2 BR.out (by decide))); have HBB := ak hb; replace LK := ak (LK.out.grown hg); have GE := ak BI.out.ge; have HO := ak ho; clear ho hb hg HS; obtain ⟨X5, Y5, e5⟩ := Kd.S_slice HO.out; rw [show (l2 ++ [[f1, b, c]]).length = l2.length + 1 by simp] at e5; subst e5; (try clear hs0 hs1 hs2 hy0 hy1 hy2); (try clear hx0 hx1 hx2 hx3 hx4 hg0 hg1 hg2 hg3 hg4); (try clear hz0 hz1 hz2 hz3 hz4 hq0 hq1 hq2 hq3 hq4); obtain ⟨hs0, hs1, hs2, hy0, hy1, hy2⟩ := box3 BS; obtain ⟨hx0, hx1, hx2, hx3, hx4, hg0, hg1, hg2, hg3, hg4⟩ := box5 HG; obtain ⟨hz0, hz1, hz2, hz3, hz4, hq0, hq1, hq2, hq3, hq4⟩ := box5 BR)))
        have BN := ak (BdIn.put (w := w12) (row := none) (f0 := f0) (f1 := f1) 2 (.slice X5 (l2.length + 1) Y5) HG.out rfl GE.out HO.out K3.out K4.out HBB.out (KeepBut.refl _ _ _))
        replace BR := ak (blk_far (p := ⟨gb, 2, none⟩) BR.out NB2 (.slice X5 (l2.length + 1) Y5))
        replace LK := ak (LK.out.set GBW.out 2 (.slice X5 (l2.length + 1) Y5))
        clear BI BS hs0 hs1 hs2 hy0 hy1 hy2 hx0 hx1 hx2 hx3 hx4 hg0 hg1 hg2 hg3 hg4 hz0 hz1 hz2 hz3 hz4 hq0 hq1 hq2 hq3 hq4
        generalize w12.setCell ⟨gb, 2, none⟩ (.slice X5 (l2.length + 1) Y5) = w20 at BN BR LK ⊢
        have BI := ak (BN.out.rebase none)
        obtain ⟨hx0, hx1, hx2, hx3, hx4, hg0, hg1, hg2, hg3, hg4⟩ := box5 (ak BI.out.blk); obtain ⟨hz0, hz1, hz2, hz3, hz4, hq0, hq1, hq2, hq3, hq4⟩ := box5 BR
        go_wp2
        refine bodyPost_ret (results_ct rfl _ _ gr 47 #[.int .i64 f0, .int .i64 f1, .slice X5 (l2.length + 1) Y5, .slice X3 l3.length Y3, .slice X4 l4.length Y4] (0, 0) _ rfl (st5_blk BR.out _ _ _ _ _) Try.underlying47 rfl (by kernel_rfl)) rfl ?_
        have BF := st5_in (f0 := f0) (f1 := f1) BR.out GR.out BI.out.s2 BI.out.r3 BI.out.r4 BI.out.below none
        exact ⟨_, _, by first | rfl | (simp; done) | trace_state, BF.s2, BF.r3, BF.r4, BF.below, LK.out.st5 GRW.out _ _ _ _ _⟩
       | false =>
        rw [if_neg (by decide)] at h
        replace h := bS h; obtain ⟨t5, A5, h⟩ := h
        cases t5 with
        | true =>
         rw [if_pos rfl] at h
         simp only [Option.some.injEq, Prod.mk.injEq] at h
         obtain ⟨rfl, rfl, rfl, rfl⟩ := h
         go_wp2_with (first | (go_at_call 173; (with_reducible refine (spec_l1Has.calls k _ _ l3 b _ _ ?side1 ?side2 A4.out).mono ?_); (case side1 => exact cd (Kd.R_reads' BI.out.r3).2.2); (case side2 => exact (Kd.R_reads' BI.out.r3).2.1); rintro e w' ⟨rfl, ⟨nd, rfl⟩⟩; replace BI := ak (BI.out.drewN nd); replace BS := ak (blk_drewN BS.out nd); replace BR := ak (blk_drewN BR.out nd); replace LK := ak (LK.out.drewN nd); generalize World.drewN _ nd = w7 at BI BS BR LK ⊢; (try clear hs0 hs1 hs2 hy0 hy1 hy2); (try clear hx0 hx1 hx2 hx3 hx4 hg0 hg1 hg2 hg3 hg4); (try clear hz0 hz1 hz2 hz3 hz4 hq0 hq1 hq2 hq3 hq4); obtain ⟨hs0, hs1, hs2, hy0, hy1, hy2⟩ := box3 BS; obtain ⟨hx0, hx1, hx2, hx3, hx4, hg0, hg1, hg2, hg3, hg4⟩ := box5 (ak BI.out.blk); obtain ⟨hz0, hz1, hz2, hz3, hz4, hq0, hq1, hq2, hq3, hq4⟩ := box5 BR) | (go_at_call 195; (with_reducible refine (spec_l13Has.calls k f0 f1 _ _ l2 _ _ l3 _ _ l4 f1 b c _ _ ?side1 ?side2 ?side3 ?side4 ?side5 ?side6 A3.out).mono ?_); (case side1 => exact cd (Kd.S_reads' BI.out.s2).2.2); (case side2 => exact (Kd.S_reads' BI.out.s2).2.1); (case side3 => exact cd (Kd.R_reads' BI.out.r3).2.2); (case side4 => exact (Kd.R_reads' BI.out.r3).2.1); (case side5 => exact cd (Kd.R_reads' BI.out.r4).2.2); (case side6 => exact (Kd.R_reads' BI.out.r4).2.1); rintro e w9 ⟨rfl, hb⟩; replace BI := ak (BI.out.step hb); replace BS := ak (blk_below BS.out hb); replace BR := ak (blk_below BR.out hb); replace LK := ak (LK.out.step hb); clear hb; (try clear hs0 hs1 hs2 hy0 hy1 hy2); (try clear hx0 hx1 hx2 hx3 hx4 hg0 hg1 hg2 hg3 hg4); (try clear hz0 hz1 hz2 hz3 hz4 hq0 hq1 hq2 hq3 hq4); obtain ⟨hs0, hs1, hs2, hy0, hy1, hy2⟩ := box3 BS; obtain ⟨hx0, hx1, hx2, hx3, hx4, hg0, hg1, hg2, hg3, hg4⟩ := box5 (ak BI.out.blk); obtain ⟨hz0, hz1, hz2, hz3, hz4, hq0, hq1, hq2, hq3, hq4⟩ := box5 BR) | (go_at_call 195; (with_reducible refine (spec_l13Has.calls k f0 f1 _ _ l2 _ _ l3 _ _ l4 f1 b (-1) _ _ ?side1 ?side2 ?side3 ?side4 ?side5 ?side6 A5.out).mono ?_); (case side1 => exact cd (Kd.S_reads' BI.out.s2).2.2); (case side2 => exact (Kd.S_reads' BI.out.s2).2.1); (case side3 => exact cd (Kd.R_reads' BI.out.r3).2.2); (case side4 => exact (Kd.R_reads' BI.out.r3).2.1); (case side5 => exact cd (Kd.R_reads' BI.out.r4).2.2); (case side6 => exact (Kd.R_reads' BI.out.r4).2.1); rintro e w9 ⟨rfl, hb⟩; replace BI := ak (BI.out.step hb); replace BS := ak (blk_below BS.out hb); replace BR := ak (blk_below BR.out hb); replace LK := ak (LK.out.step hb); clear hb; (try clear hs0 hs1 hs2 hy0 hy1 hy2); (try clear hx0 hx1 hx2 hx3 hx4 hg0 hg1 hg2 hg3 hg4); (try clear hz0 hz1 hz2 hz3 hz4 hq0 hq1 hq2 hq3 hq4); obtain ⟨hs0, hs1, hs2, hy0, hy1, hy2⟩ := box3 BS; obtain ⟨hx0, hx1, hx2, hx3, hx4, hg0, hg1, hg2, hg3, hg4⟩ := box5 (ak BI.out.blk); obtain ⟨hz0, hz1, hz2, hz3, hz4, hq0, hq1, hq2, hq3, hq4⟩ := box5 BR))
         refine bodyPost_ret (results_ct rfl _ _ gr 47 #[.int .i64 f0, .int .i64 f1, .slice X2 l2.length Y2, .slice X3 l3.length Y3, .slice X4 l4.length Y4] (0, 0) _ rfl (st5_blk BR.out _ _ _ _ _) Try.underlying47 rfl (by kernel_rfl)) rfl ?_
         have BF := st5_in (f0 := f0) (f1 := f1) BR.out GR.out BI.out.s2 BI.out.r3 BI.out.r4 BI.out.below none
         exact ⟨_, _, by first | rfl | (simp; done) | trace_state, BF.s2, BF.r3, BF.r4, BF.below, LK.out.st5 GRW.out _ _ _ _ _⟩
        | false =>
         rw [if_neg (by decide)] at h
         simp only [Option.some.injEq, Prod.mk.injEq] at h
         obtain ⟨rfl, rfl, rfl, rfl⟩ := h
         go_upto_region 12 with (first | (go_at_call 173; (with_reducible refine (spec_l1Has.calls k _ _ l3 b _ _ ?side1 ?side2 A4.out).mono ?_); (case side1 => exact cd (Kd.R_reads' BI.out.r3).2.2); (case side2 => exact (Kd.R_reads' BI.out.r3).2.1); rintro e w' ⟨rfl, ⟨nd, rfl⟩⟩; replace BI := ak (BI.out.drewN nd); replace BS := ak (blk_drewN BS.out nd); replace BR := ak (blk_drewN BR.out nd); replace LK := ak (LK.out.drewN nd); generalize World.drewN _ nd = w7 at BI BS BR LK ⊢; (try clear hs0 hs1 hs2 hy0 hy1 hy2); (try clear hx0 hx1 hx2 hx3 hx4 hg0 hg1 hg2 hg3 hg4); (try clear hz0 hz1 hz2 hz3 hz4 hq0 hq1 hq2 hq3 hq4); obtain ⟨hs0, hs1, hs2, hy0, hy1, hy2⟩ := box3 BS; obtain ⟨hx0, hx1, hx2, hx3, hx4, hg0, hg1, hg2, hg3, hg4⟩ := box5 (ak BI.out.blk); obtain ⟨hz0, hz1, hz2, hz3, hz4, hq0, hq1, hq2, hq3, hq4⟩ := box5 BR) | (go_at_call 195; (with_reducible refine (spec_l13Has.calls k f0 f1 _ _ l2 _ _ l3 _ _ l4 f1 b c _ _ ?side1 ?side2 ?side3 ?side4 ?side5 ?side6 A3.out).mono ?_); (case side1 => exact cd (Kd.S_reads' BI.out.s2).2.2); (case side2 => exact (Kd.S_reads' BI.out.s2).2.1); (case side3 => exact cd (Kd.R_reads' BI.out.r3).2.2); (case side4 => exact (Kd.R_reads' BI.out.r3).2.1); (case side5 => exact cd (Kd.R_reads' BI.out.r4).2.2); (case side6 => exact (Kd.R_reads' BI.out.r4).2.1); rintro e w9 ⟨rfl, hb⟩; replace BI := ak (BI.out.step hb); replace BS := ak (blk_below BS.out hb); replace BR := ak (blk_below BR.out hb); replace LK := ak (LK.out.step hb); clear hb; (try clear hs0 hs1 hs2 hy0 hy1 hy2); (try clear hx0 hx1 hx2 hx3 hx4 hg0 hg1 hg2 hg3 hg4); (try clear hz0 hz1 hz2 hz3 hz4 hq0 hq1 hq2 hq3 hq4); obtain ⟨hs0, hs1, hs2, hy0, hy1, hy2⟩ := box3 BS; obtain ⟨hx0, hx1, hx2, hx3, hx4, hg0, hg1, hg2, hg3, hg4⟩ := box5 (ak BI.out.blk); obtain ⟨hz0, hz1, hz2, hz3, hz4, hq0, hq1, hq2, hq3, hq4⟩ := box5 BR) | (go_at_call 195; (with_reducible refine (spec_l13Has.calls k f0 f1 _ _ l2 _ _ l3 _ _ l4 f1 b (-1) _ _ ?side1 ?side2 ?side3 ?side4 ?side5 ?side6 A5.out).mono ?_); (case side1 => exact cd (Kd.S_reads' BI.out.s2).2.2); (case side2 => exact (Kd.S_reads' BI.out.s2).2.1); (case side3 => exact cd (Kd.R_reads' BI.out.r3).2.2); (case side4 => exact (Kd.R_reads' BI.out.r3).2.1); (case side5 => exact cd (Kd.R_reads' BI.out.r4).2.2); (case side6 => exact (Kd.R_reads' BI.out.r4).2.1); rintro e w9 ⟨rfl, hb⟩; replace BI := ak (BI.out.step hb); replace BS := ak (blk_below BS.out hb); replace BR := ak (blk_below BR.out hb); replace LK := ak (LK.out.step hb); clear hb; (try clear hs0 hs1 hs2 hy0 hy1 hy2); (try clear hx0 hx1 hx2 hx3 hx4 hg0 hg1 hg2 hg3 hg4); (try clear hz0 hz1 hz2 hz3 hz4 hq0 hq1 hq2 hq3 hq4); obtain ⟨hs0, hs1, hs2, hy0, hy1, hy2⟩ := box3 BS; obtain ⟨hx0, hx1, hx2, hx3, hx4, hg0, hg1, hg2, hg3, hg4⟩ := box5 (ak BI.out.blk); obtain ⟨hz0, hz1, hz2, hz3, hz4, hq0, hq1, hq2, hq3, hq4⟩ := box5 BR) | ((with_reducible refine gate_dst (N := 102) rfl ?_); refine Kd.R_lit (Kd.int .i64) _ 3 ?hg (N := 102) ?hd (xs := ([f1, b, c] : List Int)) (inner := [.int .i64 f1, .int .i64 b, .int .i64 c]) (ok := fun _ => True) (okp := fun _ => True) ?hr ?hp (fun _ hk => hk) trivial (Below.refl _ _) (Nat.le_refl _) (by simp) ?_; (case hd => rfl); (case hg => rfl); (case hr => first | (go_simp; done) | (go_simp; rfl)); (case hp => exact (Reps.one (show Kd.M (Kd.int .i64) _ _ _ f1 [.int .i64 f1] from rfl) (Reps.one (show Kd.M (Kd.int .i64) _ _ _ b [.int .i64 b] from rfl) (Reps.one (show Kd.M (Kd.int .i64) _ _ _ c [.int .i64 c] from rfl) (Reps.none _ _))))); intro vN w11 ho hb hg_ hnew_; clear hg_ hnew_; have HS := ak (Kd.S_elder' BI.out.s2 (Kd.R_base ho) hb); have HF := ak (And.intro (Kd.fresh' (Kd.R_lt BI.out.r3)) (And.intro (Kd.fresh' (Kd.R_lt BI.out.r4)) (Kd.fresh' (Kd.S_lt BI.out.s2)))); have HV := ak (Kd.R_base ho); have HN := ak (Kd.R_lower ho BI.out.below.size); replace LK := ak (LK.out.step hb); replace BI := ak (BI.out.step hb); replace BS := ak (blk_below BS.out hb); replace BR := ak (blk_below BR.out hb); clear ho hb; obtain ⟨XN, YN, eN⟩ := Kd.R_slice HN.out; subst eN; (try clear hs0 hs1 hs2 hy0 hy1 hy2); (try clear hx0 hx1 hx2 hx3 hx4 hg0 hg1 hg2 hg3 hg4); (try clear hz0 hz1 hz2 hz3 hz4 hq0 hq1 hq2 hq3 hq4); obtain ⟨hs0, hs1, hs2, hy0, hy1, hy2⟩ := box3 BS; obtain ⟨hx0, hx1, hx2, hx3, hx4, hg0, hg1, hg2, hg3, hg4⟩ := box5 (ak BI.out.blk); obtain ⟨hz0, hz1, hz2, hz3, hz4, hq0, hq1, hq2, hq3, hq4⟩ := box5 BR) | ((with_reducible refine gate_builtin (b := .append) (xs := #[.tmp 95, .tmp 103]) rfl ?_); at_builtin; go_loud (refine Kd.S_append (Kd.slice 3 (Kd.int .i64)) (w0 := w0) w0.heap.size rfl (.tmp 95) (.tmp 103) 45 23 (.slice none 0 0) 24 rfl Try.underlying45 info23 rfl (by decide) (by omega) (.slice X2 l2.length Y2) l2 [f1, b, c] [.slice XN [f1, b, c].length YN] (fun k_ => some k_ ≠ (Value.slice X3 l3.length Y3).ownBlock ∧ some k_ ≠ (Value.slice X4 l4.length Y4).ownBlock) (fun k_ => some k_ = (Value.slice XN [f1, b, c].length YN).ownBlock) rfl rfl ?aP ?aQ ?aF ?aO ?aB ?aS ?aL ?_; (case aP => exact Kd.M_row (Kd.R_tight rfl HN.out)); (case aQ => exact fun k_ hk_ => ⟨⟨HF.out.1 k_ (HV.out k_ hk_.symm), HF.out.2.1 k_ (HV.out k_ hk_.symm)⟩, HF.out.2.2 k_ (HV.out k_ hk_.symm)⟩); (case aF => exact (fun k_ hk => ⟨Kd.fresh' (Kd.R_lt BI.out.r3) k_ hk, Kd.fresh' (Kd.R_lt BI.out.r4) k_ hk⟩)); (case aO => exact Kd.S_mono HS.out (fun k_ hk => ⟨hk.1, fun e_ => hk.2 e_⟩)); (case aB => exact BI.out.below); (case aS => exact BI.out.below.size); (case aL => have := HL.out; omega); intro u2 w12 ho hb hg hat; clear hat; have HG := ak (blk_grown BI.out.blk hg (Kd.S_ne BI.out.s2 BI.out.blk (by decide))); have K3 := ak (Kd.R_over' BI.out.r3 (Kd.S_typed BI.out.s2) (by decide) hg); have K4 := ak (Kd.R_over' BI.out.r4 (Kd.S_typed BI.out.s2) (by decide) hg); replace BS := ak (blk_grown BS.out hg (Kd.S_ne BI.out.s2 BS.out (by decide))); replace BR := ak (blk_grown BR.out hg (Kd.S_ne BI.out.s2 BR.out (by decide))); have HBB := ak hb; replace LK := ak (LK.out.grown hg); have GE := ak BI.out.ge; have HO := ak ho; clear ho hb hg HS; obtain ⟨X5, Y5, e5⟩ := Kd.S_slice HO.out; rw [show (l2 ++ [[f1, b, c]]).length = l2.length + 1 by simp] at e5; subst e5; (try clear hs0 hs1 hs2 hy0 hy1 hy2); (try clear hx0 hx1 hx2 hx3 hx4 hg0 hg1 hg2 hg3 hg4); (try clear hz0 hz1 hz2 hz3 hz4 hq0 hq1 hq2 hq3 hq4); obtain ⟨hs0, hs1, hs2, hy0, hy1, hy2⟩ := box3 BS; obtain ⟨hx0, hx1, hx2, hx3, hx4, hg0, hg1, hg2, hg3, hg4⟩ := box5 HG; obtain ⟨hz0, hz1, hz2, hz3, hz4, hq0, hq1, hq2, hq3, hq4⟩ := box5 BR)))
         have BN := ak (BdIn.put (w := w12) (row := none) (f0 := f0) (f1 := f1) 2 (.slice X5 (l2.length + 1) Y5) HG.out rfl GE.out HO.out K3.out K4.out HBB.out (KeepBut.refl _ _ _))
         replace BR := ak (blk_far (p := ⟨gb, 2, none⟩) BR.out NB2 (.slice X5 (l2.length + 1) Y5))
         replace LK := ak (LK.out.set GBW.out 2 (.slice X5 (l2.length + 1) Y5))
         clear BI BS hs0 hs1 hs2 hy0 hy1 hy2 hx0 hx1 hx2 hx3 hx4 hg0 hg1 hg2 hg3 hg4 hz0 hz1 hz2 hz3 hz4 hq0 hq1 hq2 hq3 hq4
         generalize w12.setCell ⟨gb, 2, none⟩ (.slice X5 (l2.length + 1) Y5) = w20 at BN BR LK ⊢
         have BI := ak (BN.out.rebase none)
         obtain ⟨hx0, hx1, hx2, hx3, hx4, hg0, hg1, hg2, hg3, hg4⟩ := box5 (ak BI.out.blk); obtain ⟨hz0, hz1, hz2, hz3, hz4, hq0, hq1, hq2, hq3, hq4⟩ := box5 BR
         go_wp2
         refine bodyPost_ret (results_ct rfl _ _ gr 47 #[.int .i64 f0, .int .i64 f1, .slice X5 (l2.length + 1) Y5, .slice X3 l3.length Y3, .slice X4 l4.length Y4] (0, 0) _ rfl (st5_blk BR.out _ _ _ _ _) Try.underlying47 rfl (by kernel_rfl)) rfl ?_
         have BF := st5_in (f0 := f0) (f1 := f1) BR.out GR.out BI.out.s2 BI.out.r3 BI.out.r4 BI.out.below none
         exact ⟨_, _, by first | rfl | (simp; done) | trace_state, BF.s2, BF.r3, BF.r4, BF.below, LK.out.st5 GRW.out _ _ _ _ _⟩
     ·rw [if_neg c2] at h
      have c2b0 : decide ((l2.length : Int) < 200) = false := decide_eq_false c2
      clear c2
      simp only [Option.some.injEq, Prod.mk.injEq] at h
      obtain ⟨rfl, rfl, rfl, rfl⟩ := h
      go_wp2_with (first | (go_at_call 153; (with_reducible refine (spec_l1In.calls b 0 (wrap64 (q1 - 1)) _ _ A1.out).mono ?_); rintro e w' ⟨rfl, ⟨nd, rfl⟩⟩; replace BI := ak (BI.out.drewN nd); replace BS := ak (blk_drewN BS.out nd); replace BR := ak (blk_drewN BR.out nd); replace LK := ak (LK.out.drewN nd); generalize World.drewN _ nd = w7 at BI BS BR LK ⊢; (try clear hs0 hs1 hs2 hy0 hy1 hy2); (try clear hx0 hx1 hx2 hx3 hx4 hg0 hg1 hg2 hg3 hg4); (try clear hz0 hz1 hz2 hz3 hz4 hq0 hq1 hq2 hq3 hq4); obtain ⟨hs0, hs1, hs2, hy0, hy1, hy2⟩ := box3 BS; obtain ⟨hx0, hx1, hx2, hx3, hx4, hg0, hg1, hg2, hg3, hg4⟩ := box5 (ak BI.out.blk); obtain ⟨hz0, hz1, hz2, hz3, hz4, hq0, hq1, hq2, hq3, hq4⟩ := box5 BR) | (go_at_call 173; (with_reducible refine (spec_l1Has.calls k _ _ l4 c _ _ ?side1 ?side2 A2.out).mono ?_); (case side1 => exact cd (Kd.R_reads' BI.out.r4).2.2); (case side2 => exact (Kd.R_reads' BI.out.r4).2.1); rintro e w' ⟨rfl, ⟨nd, rfl⟩⟩; replace BI := ak (BI.out.drewN nd); replace BS := ak (blk_drewN BS.out nd); replace BR := ak (blk_drewN BR.out nd); replace LK := ak (LK.out.drewN nd); generalize World.drewN _ nd = w7 at BI BS BR LK ⊢; (try clear hs0 hs1 hs2 hy0 hy1 hy2); (try clear hx0 hx1 hx2 hx3 hx4 hg0 hg1 hg2 hg3 hg4); (try clear hz0 hz1 hz2 hz3 hz4 hq0 hq1 hq2 hq3 hq4); obtain ⟨hs0, hs1, hs2, hy0, hy1, hy2⟩ := box3 BS; obtain ⟨hx0, hx1, hx2, hx3, hx4, hg0, hg1, hg2, hg3, hg4⟩ := box5 (ak BI.out.blk); obtain ⟨hz0, hz1, hz2, hz3, hz4, hq0, hq1, hq2, hq3, hq4⟩ := box5 BR))
      refine bodyPost_ret (results_ct rfl _ _ gr 47 #[.int .i64 f0, .int .i64 f1, .slice X2 l2.length Y2, .slice X3 l3.length Y3, .slice X4 l4.length Y4] (0, 0) _ rfl (st5_blk BR.out _ _ _ _ _) Try.underlying47 rfl (by kernel_rfl)) rfl ?_
      have BF := st5_in (f0 := f0) (f1 := f1) BR.out GR.out BI.out.s2 BI.out.r3 BI.out.r4 BI.out.below none
      exact ⟨_, _, by first | rfl | (simp; done) | trace_state, BF.s2, BF.r3, BF.r4, BF.below, LK.out.st5 GRW.out _ _ _ _ _⟩
  ·rw [if_neg cd2] at h
   have cd2b0 : decide (a = 2) = false := decide_eq_false cd2
   have cd2b1 : (a == 2) = false := beq_eq_false_iff_ne.mpr cd2
   have cd2b2 : (a != 2) = true := bne_iff_ne.mpr cd2
   clear cd2
   by_cases ce : a = 3
   ·rw [if_pos ce] at h
    have ceb0 : decide (a = 3) = true := decide_eq_true ce
    have ceb1 : (a == 3) = true := beq_iff_eq.mpr ce
    have ceb2 : (a != 3) = false := bne_eq_false_iff_eq.mpr ce
    clear ce
    by_cases cb : b = 0
    ·rw [if_pos cb] at h
     have cbb0 : decide (b = 0) = true := decide_eq_true cb
     have cbb1 : (b == 0) = true := beq_iff_eq.mpr cb
     have cbb2 : (b != 0) = false := bne_eq_false_iff_eq.mpr cb
     clear cb
     by_cases cc : c = 0
     ·rw [if_pos cc] at h
      have ccb0 : decide (c = 0) = true := decide_eq_true cc
      have ccb1 : (c == 0) = true := beq_iff_eq.mpr cc
      have ccb2 : (c != 0) = false := bne_eq_false_iff_eq.mpr cc
      clear cc
      by_cases cf : f1 < 20
      ·rw [if_pos cf] at h
       have cfb0 : decide (f1 < 20) = true := decide_eq_true cf
       clear cf
       simp only [Option.some.injEq, Prod.mk.injEq] at h
       obtain ⟨rfl, rfl, rfl, rfl⟩ := h
       go_upto_region 12 with fail
       have BN := ak ((BI.out.set1 (wrap64 (f1 + 1))).none4)
       replace BR := ak (blk_far (p := ⟨gb, 4, none⟩) (blk_far (p := ⟨gb, 1, none⟩) BR.out NB2 (.int .i64 (wrap64 (f1 + 1)))) NB2 (.slice none 0 0))
       replace LK := ak ((LK.out.set GBW.out 1 (.int .i64 (wrap64 (f1 + 1)))).set GBW.out 4 (.slice none 0 0))
       clear BI BS hs0 hs1 hs2 hy0 hy1 hy2 hx0 hx1 hx2 hx3 hx4 hg0 hg1 hg2 hg3 hg4 hz0 hz1 hz2 hz3 hz4 hq0 hq1 hq2 hq3 hq4
       generalize (World.setCell _ ⟨gb, 1, none⟩ (.int .i64 (wrap64 (f1 + 1)))).setCell ⟨gb, 4, none⟩ (.slice none 0 0) = w20 at BN BR LK ⊢
       have BI := ak (BN.out.rebase none)
       obtain ⟨hx0, hx1, hx2, hx3, hx4, hg0, hg1, hg2, hg3, hg4⟩ := box5 (ak BI.out.blk); obtain ⟨hz0, hz1, hz2, hz3, hz4, hq0, hq1, hq2, hq3, hq4⟩ := box5 BR
       go_wp2
       refine bodyPost_ret (results_ct rfl _ _ gr 47 #[.int .i64 f0, .int .i64 (wrap64 (f1 + 1)), .slice X2 l2.length Y2, .slice X3 l3.length Y3, .slice none 0 0] (0, 0) _ rfl (st5_blk BR.out _ _ _ _ _) Try.underlying47 rfl (by kernel_rfl)) rfl ?_
       have BF := st5_in (f0 := f0) (f1 := (wrap64 (f1 + 1))) BR.out GR.out BI.out.s2 BI.out.r3 BI.out.r4 BI.out.below none
       exact ⟨_, _, by first | rfl | (simp; done) | trace_state, BF.s2, BF.r3, BF.r4, BF.below, LK.out.st5 GRW.out _ _ _ _ _⟩
      ·rw [if_neg cf] at h
       have cfb0 : decide (f1 < 20) = false := decide_eq_false cf
       clear cf
       simp only [Option.some.injEq, Prod.mk.injEq] at h
       obtain ⟨rfl, rfl, rfl, rfl⟩ := h
       go_wp2
       refine bodyPost_ret (results_ct rfl _ _ gr 47 #[.int .i64 f0, .int .i64 f1, .slice X2 l2.length Y2, .slice X3 l3.length Y3, .slice X4 l4.length Y4] (0, 0) _ rfl (st5_blk BR.out _ _ _ _ _) Try.underlying47 rfl (by kernel_rfl)) rfl ?_
       have BF := st5_in (f0 := f0) (f1 := f1) BR.out GR.out BI.out.s2 BI.out.r3 BI.out.r4 BI.out.below none
       exact ⟨_, _, by first | rfl | (simp; done) | trace_state, BF.s2, BF.r3, BF.r4, BF.below, LK.out.st5 GRW.out _ _ _ _ _⟩
     ·rw [if_neg cc] at h
      have ccb0 : decide (c = 0) = false := decide_eq_false cc
      have ccb1 : (c == 0) = false := beq_eq_false_iff_ne.mpr cc
      have ccb2 : (c != 0) = true := bne_iff_ne.mpr cc
      clear cc
      simp only [Option.some.injEq, Prod.mk.injEq] at h
      obtain ⟨rfl, rfl, rfl, rfl⟩ := h
      go_wp2
      refine bodyPost_ret (results_ct rfl _ _ gr 47 #[.int .i64 f0, .int .i64 f1, .slice X2 l2.length Y2, .slice X3 l3.length Y3, .slice X4 l4.length Y4] (0, 0) _ rfl (st5_blk BR.out _ _ _ _ _) Try.underlying47 rfl (by kernel_rfl)) rfl ?_
      have BF := st5_in (f0 := f0) (f1 := f1) BR.out GR.out BI.out.s2 BI.out.r3 BI.out.r4 BI.out.below none
      exact ⟨_, _, by first | rfl | (simp; done) | trace_state, BF.s2, BF.r3, BF.r4, BF.below, LK.out.st5 GRW.out _ _ _ _ _⟩
    ·rw [if_neg cb] at h
     have cbb0 : decide (b = 0) = false := decide_eq_false cb
     have cbb1 : (b == 0) = false := beq_eq_false_iff_ne.mpr cb
     have cbb2 : (b != 0) = true := bne_iff_ne.mpr cb
     clear cb
     simp only [Option.some.injEq, Prod.mk.injEq] at h
     obtain ⟨rfl, rfl, rfl, rfl⟩ := h
     go_wp2
     refine bodyPost_ret (results_ct rfl _ _ gr 47 #[.int .i64 f0, .int .i64 f1, .slice X2 l2.length Y2, .slice X3 l3.length Y3, .slice X4 l4.length Y4] (0, 0) _ rfl (st5_blk BR.out _ _ _ _ _) Try.underlying47 rfl (by kernel_rfl)) rfl ?_
     have BF := st5_in (f0 := f0) (f1 := f1) BR.out GR.out BI.out.s2 BI.out.r3 BI.out.r4 BI.out.below none
     exact ⟨_, _, by first | rfl | (simp; done) | trace_state, BF.s2, BF.r3, BF.r4, BF.below, LK.out.st5 GRW.out _ _ _ _ _⟩
   ·rw [if_neg ce] at h
    have ceb0 : decide (a = 3) = false := decide_eq_false ce
    have ceb1 : (a == 3) = false := beq_eq_false_iff_ne.mpr ce
    have ceb2 : (a != 3) = true := bne_iff_ne.mpr ce
    clear ce
    simp only [Option.some.injEq, Prod.mk.injEq] at h
    obtain ⟨rfl, rfl, rfl, rfl⟩ := h
    go_wp2
    refine bodyPost_ret (results_ct rfl _ _ gr 47 #[.int .i64 f0, .int .i64 f1, .slice X2 l2.length Y2, .slice X3 l3.length Y3, .slice X4 l4.length Y4] (0, 0) _ rfl (st5_blk BR.out _ _ _ _ _) Try.underlying47 rfl (by kernel_rfl)) rfl ?_
    have BF := st5_in (f0 := f0) (f1 := f1) BR.out GR.out BI.out.s2 BI.out.r3 BI.out.r4 BI.out.below none
    exact ⟨_, _, by first | rfl | (simp; done) | trace_state, BF.s2, BF.r3, BF.r4, BF.below, LK.out.st5 GRW.out _ _ _ _ _⟩
/-! ### spec.PlayBoard (29) -/
structure PbS where
  g : Nat
  u2 : Value
  u3 : Value
  u4 : Value
  t2 : Value
  t4 : Value
def spec_PlayBoard.l0 : Nat → List S158 → Int → Int → List Bool → Int → Int → List (List Int) → List Int → List Int → Option (Int × Int × List (List Int) × List Int × List Int × List Bool)
  | 0, _, _, _, _, _, _, _, _, _ => none
  | k + 1, xs, n, i, did, f0, f1, l2, l3, l4 => if i < n then (if 0 ≤ i then (if i < (xs.length : Int) then ((spec_l13Own.f k f0 f1 l2 l3 l4).bind fun o => ((spec_l13Step.f k o.1 o.2.1 o.2.2.1 o.2.2.2.1 o.2.2.2.2 (rd_T158 xs i).f0 (rd_T158 xs i).f1 (rd_T158 xs i).f2).bind fun q => if did.length < 1000 then (if q.2.2.2 = true then spec_PlayBoard.l0 k xs n (wrap64 (i + 1)) (did ++ [true]) o.1 q.1 q.2.1 o.2.2.2.1 q.2.2.1 else spec_PlayBoard.l0 k xs n (wrap64 (i + 1)) (did ++ [false]) f0 f1 l2 l3 l4) else none)) else none) else none) else some (f0, f1, l2, l3, l4, did)
def spec_PlayBoard.f (k : Nat) (a0 : Int) (l1 : List Int) (l2 : List S158) : Option (Int × Int × List (List Int) × List Int × List Int × List Bool × Bool) :=
  (spec_NewBoard.f k a0 l1).bind fun q => if q.2.2.2.2.2 = true then (if (l2.length : Int) > 60 then some (0, 0, [], [], [], [], false) else ((spec_PlayBoard.l0 k l2 (l2.length : Int) 0 [] q.1 q.2.1 q.2.2.1 q.2.2.2.1 q.2.2.2.2.1).bind fun z => ((spec_l13Own.f k z.1 z.2.1 z.2.2.1 z.2.2.2.1 z.2.2.2.2.1).bind fun o => some (o.1, o.2.1, o.2.2.1, o.2.2.2.1, o.2.2.2.2, z.2.2.2.2.2, true)))) else some (0, 0, [], [], [], [], false)
theorem spec_PlayBoard.mono_l : ∀ k, ∀ y0 y1 y2 y3 y4 y5 y6 y7 y8, LeO (spec_PlayBoard.l0 k y0 y1 y2 y3 y4 y5 y6 y7 y8) (spec_PlayBoard.l0 (k + 1) y0 y1 y2 y3 y4 y5 y6 y7 y8)
 | 0 => fun _ _ _ _ _ _ _ _ _ r h => by simp [spec_PlayBoard.l0] at h
 | k + 1 => by
  have ih0 := spec_PlayBoard.mono_l k
  intro y0 y1 y2 y3 y4 y5 y6 y7 y8
  unfold spec_PlayBoard.l0
  repeat' (first | exact ih0 _ _ _ _ _ _ _ _ _ | exact spec_l13Own.mono _ _ _ _ _ _ | exact spec_l13Step.mono _ _ _ _ _ _ _ _ _ | exact LeO.refl _ | refine LeO.ite ?_ ?_ | refine LeO.bind ?_ (fun _ => ?_))
theorem spec_PlayBoard.mono : ∀ a0 a1 a2 k, LeO (spec_PlayBoard.f k a0 a1 a2) (spec_PlayBoard.f (k + 1) a0 a1 a2) := by
 intro a0 a1 a2 k
 unfold spec_PlayBoard.f
 repeat' (first | exact spec_NewBoard.mono _ _ _ | exact spec_PlayBoard.mono_l _ _ _ _ _ _ _ _ _ _ | exact spec_l13Own.mono _ _ _ _ _ _ | exact LeO.refl _ | refine LeO.ite ?_ ?_ | refine LeO.bind ?_ (fun _ => ?_))
def spec_PlayBoard.T8 : Bool × List (List Nat × List Nat) := (true, [([], []), ([0], [0]), ([], []), ([1, 2, 1], [1, 2]), ([3], [3]), ([4], [4]), ([4], [4]), ([], []), ([7, 5, 3, 0, 1, 2, 3, 4, 5, 7], [5, 7]), ([6, 8, 0, 1, 2, 3, 4, 5, 6, 7, 8], [6])])
def spec_PlayBoard.B8 : List Nat := [0, 1, 0, 7, 15, 31, 31, 0, 191, 511]
theorem spec_PlayBoard.tab8 : rtab .any (opsOf Try.f29 8) = spec_PlayBoard.T8 := by kernel_rfl
theorem spec_PlayBoard.bits8 : waitsOk spec_PlayBoard.T8.2 spec_PlayBoard.B8 = true := by kernel_rfl
theorem bd_far5 {w0 w : World} {g : Nat} {row : Option Nat} {f0 f1 : Int} {v2 v3 v4 : Value} {l2 : List (List Int)} {l3 l4 : List Int} {W : World} (h : BdIn w0 w g row f0 f1 v2 v3 v4 l2 l3 l4 W) {gx : Nat} {cs : Array Value} (hb : W.heap[gx]? = some (.cells cs 47 (0, 0))) (hne : g ≠ gx) (hge : w0.heap.size ≤ gx) (a0 a1 a2 a3 a4 : Value) : BdIn w0 (st5 W gx a0 a1 a2 a3 a4) g row f0 f1 v2 v3 v4 l2 l3 l4 (st5 W gx a0 a1 a2 a3 a4) :=
  ⟨(st5_far W gx a0 a1 a2 a3 a4 g hne).trans h.blk, h.ge, Kd.S_mono (Kd.S_step (Kd.S_types h.s2 hb (by decide)) (fun k hk _ => st5_far W gx _ _ _ _ _ k hk.2)) (fun _ hk => hk.1), Kd.R_mono (Kd.R_step (Kd.R_types h.r3 hb (by decide)) (fun k hk _ => st5_far W gx _ _ _ _ _ k hk.2)) (fun _ hk => hk.1), Kd.R_mono (Kd.R_step (Kd.R_types h.r4 hb (by decide)) (fun k hk _ => st5_far W gx _ _ _ _ _ k hk.2)) (fun _ hk => hk.1), st5_below h.below hge _ _ _ _ _, KeepBut.refl _ _ _⟩
set_option maxHeartbeats 8000000 in
set_option maxRecDepth 100000 in
theorem spec_PlayBoard.calls (k : Nat) (a0 : Int) (A1 : Option Addr) (c1 : Nat) (l1 : List Int) (A2 : Option Addr) (c2 : Nat) (l2 : List S158) (r1 r2 : Int) (r3 : List (List Int)) (r4 r5 : List Int) (r6 : List Bool) (r7 : Bool) (w : World) (hr1 : Kd.C (Kd.int .i64) w A1 l1.length l1) (hc1 : l1.length ≤ c1) (hr2 : Kd.C k158 w A2 l2.length l2) (hc2 : l2.length ≤ c2) (h : spec_PlayBoard.f k a0 l1 l2 = some (r1, r2, r3, r4, r5, r6, r7)) :
  Calls Try.prog 29 #[.int .i64 a0, .slice A1 l1.length c1, .slice A2 l2.length c2] w fun e w' => ∃ v2_ v3_ v4_ v5_ : Value, e = .returned (.tuple #[.agg #[.int .i64 r1, .int .i64 r2, v2_, v3_, v4_], v5_, .bool r7]) ∧ Kd.S (Kd.slice 3 (Kd.int .i64)) 23 w' w.heap.size (fun k_ => some k_ ≠ (v3_ : Value).ownBlock ∧ some k_ ≠ (v4_ : Value).ownBlock) v2_ r3 ∧ Kd.R (Kd.int .i64) 3 w' w.heap.size (fun k_ => some k_ ≠ (v4_ : Value).ownBlock) v3_ r4 ∧ Kd.R (Kd.int .i64) 3 w' w.heap.size (fun k_ => some k_ ≠ (v3_ : Value).ownBlock) v4_ r5 ∧ Kd.R Kd.bool 4 w' w.heap.size (fun _ => True) v5_ r6 ∧ Below w.heap.size w w' := by
 have HR1 := Aside0.mk hr1; have HC1 := Aside0.mk hc1; have HR2 := Aside0.mk hr2; have HC2 := Aside0.mk hc2; clear hr1 hc1 hr2 hc2
 have HB := Aside0.mk (Below.refl w.heap.size w)
 have hu47 := Try.underlying47
 have hu158 := Try.underlying158
 unfold spec_PlayBoard.f at h
 replace h := bS h; obtain ⟨⟨b1, b2, b3, b4, b5, b6⟩, N1, h⟩ := h
 dsimp only at h
 go_enter Try.func29, Try.ntmps29
 go_upto_region 2 with (first | ((with_reducible refine gate_dst (N := 6) rfl ?_); refine boxev 6 #[.int .i64 0, .int .i64 0, .slice none 0 0, .slice none 0 0, .slice none 0 0] 47 ?_; intro gr hg_ w4 hbox hb; have BR := ak hbox; have GR := ak (hgl hg_ (belowd HB)); replace HB := ak (below_step HB.out hb); clear hb hbox hg_) | (go_at_call 120; go_loud ((with_reducible refine (spec_NewBoard.calls k a0 _ _ l1 b1 b2 b3 b4 b5 _ _ ?side1 ?side2 N1.out).mono ?_); (case side1 => exact cd (Kd.C_below HR1.out HB.out)); (case side2 => exact HC1.out); rintro e w5 ⟨u2, u3, u4, rfl, hs2, hs3, hs4, hb⟩; have HS2 := ak (Kd.S_lower hs2 HB.out.size); have HS3 := ak (Kd.R_lower hs3 HB.out.size); have HS4 := ak (Kd.R_lower hs4 HB.out.size); replace BR := ak (blk_below BR.out hb); replace HB := ak (below_step HB.out hb); clear hs2 hs3 hs4 hb; obtain ⟨X2, Y2, e2⟩ := Kd.S_slice HS2.out; subst e2; obtain ⟨X3, Y3, e3⟩ := Kd.R_slice HS3.out; subst e3; obtain ⟨X4, Y4, e4⟩ := Kd.R_slice HS4.out; subst e4)) | ((with_reducible refine gate_dst (N := 9) rfl ?_); refine boxev 9 #[.int .i64 0, .int .i64 0, .slice none 0 0, .slice none 0 0, .slice none 0 0] 47 ?_; intro gb hg_ w6 hbox hb; have NB1 : gr ≠ gb := (by rw [hg_]; exact Nat.ne_of_lt (blk_lt BR.out)); have NB2 : gb ≠ gr := Ne.symm NB1; have BB := ak hbox; have GB := ak (hgl hg_ HB.out); replace HS2 := ak (Kd.S_below HS2.out hb); replace HS3 := ak (Kd.R_below HS3.out hb); replace HS4 := ak (Kd.R_below HS4.out hb); replace BR := ak (blk_below BR.out hb); replace HB := ak (below_step HB.out hb); obtain ⟨hz0, hz1, hz2, hz3, hz4, hq0, hq1, hq2, hq3, hq4⟩ := box5 BB; clear hb hbox hg_))
 have BI := ak (st5_in (f0 := b1) (f1 := b2) BB.out GB.out HS2.out HS3.out HS4.out HB.out (Value.slice X2 b3.length Y2).ownBlock)
 have BR2 := ak ((st5_far w6 gb (.int .i64 b1) (.int .i64 b2) (.slice X2 b3.length Y2) (.slice X3 b4.length Y3) (.slice X4 b5.length Y4) gr NB1).trans BR.out)
 clear hz0 hz1 hz2 hz3 hz4 hq0 hq1 hq2 hq3 hq4 HS2 HS3 HS4 BR HB BB
 dsimp only [st5] at BI BR2
 generalize ((((w6.setCell ⟨gb, 0, none⟩ (.int .i64 b1)).setCell ⟨gb, 1, none⟩ (.int .i64 b2)).setCell ⟨gb, 2, none⟩ (.slice X2 b3.length Y2)).setCell ⟨gb, 3, none⟩ (.slice X3 b4.length Y3)).setCell ⟨gb, 4, none⟩ (.slice X4 b5.length Y4) = w7 at BI BR2 ⊢
 cases b6 with
 | false =>
  rw [if_neg (by decide)] at h
  simp only [Option.some.injEq, Prod.mk.injEq] at h
  obtain ⟨rfl, rfl, rfl, rfl, rfl, rfl, rfl⟩ := h
  obtain ⟨hz0, hz1, hz2, hz3, hz4, hq0, hq1, hq2, hq3, hq4⟩ := box5 BR2
  go_wp2
  refine bodyPost_ret (results_ctt rfl _ _ gr 47 #[.int .i64 0, .int .i64 0, .slice none 0 0, .slice none 0 0, .slice none 0 0] (0, 0) _ rfl (st5_blk BR2.out _ _ _ _ _) Try.underlying47 rfl (by kernel_rfl)) rfl ?_
  exact ⟨_, _, _, _, by first | rfl | (simp; done) | trace_state, Kd.S_nil _ _ _ _ _, Kd.R_nil _ _ _ _ _, Kd.R_nil _ _ _ _ _, Kd.R_nil _ _ _ _ _, st5_below BI.out.below GR.out _ _ _ _ _⟩
 | true =>
  rw [if_pos rfl] at h
  by_cases c6 : (l2.length : Int) > 60
  ·rw [if_pos c6] at h
   have c6b0 : decide ((l2.length : Int) > 60) = true := decide_eq_true c6
   have c6b1 : decide (60 < (l2.length : Int)) = true := decide_eq_true c6
   clear c6
   simp only [Option.some.injEq, Prod.mk.injEq] at h
   obtain ⟨rfl, rfl, rfl, rfl, rfl, rfl, rfl⟩ := h
   obtain ⟨hz0, hz1, hz2, hz3, hz4, hq0, hq1, hq2, hq3, hq4⟩ := box5 BR2
   go_wp2
   refine bodyPost_ret (results_ctt rfl _ _ gr 47 #[.int .i64 0, .int .i64 0, .slice none 0 0, .slice none 0 0, .slice none 0 0] (0, 0) _ rfl (st5_blk BR2.out _ _ _ _ _) Try.underlying47 rfl (by kernel_rfl)) rfl ?_
   exact ⟨_, _, _, _, by first | rfl | (simp; done) | trace_state, Kd.S_nil _ _ _ _ _, Kd.R_nil _ _ _ _ _, Kd.R_nil _ _ _ _ _, Kd.R_nil _ _ _ _ _, st5_below BI.out.below GR.out _ _ _ _ _⟩
  ·rw [if_neg c6] at h
   have c6b0 : decide ((l2.length : Int) > 60) = false := decide_eq_false c6
   have c6b1 : decide (60 < (l2.length : Int)) = false := decide_eq_false c6
   clear c6
   replace h := bS h; obtain ⟨⟨z0, z1, z2, z3, z4, zd⟩, A2, h⟩ := h
   replace h := bS h; obtain ⟨⟨o0, o1, o2, o3, o4⟩, A3, h⟩ := h
   dsimp only at A2 A3
   simp only [Option.some.injEq, Prod.mk.injEq] at h
   obtain ⟨rfl, rfl, rfl, rfl, rfl, rfl, rfl⟩ := h
   go_wp2
   go_loopg [11, 32] k (fun kq v11 v32 w' => ∃ (did : List Bool) (x f0 f1 : Int) (m2 : List (List Int)) (m3 m4 : List Int) (y2 y3 y4 : Value), v32 = .int .i64 x ∧ Aside0 (spec_PlayBoard.l0 kq l2 (l2.length : Int) x did f0 f1 m2 m3 m4 = some (z0, z1, z2, z3, z4, zd)) ∧ Aside0 (kq ≤ k) ∧ Aside0 (BdIn w w' gb y2.ownBlock f0 f1 y2 y3 y4 m2 m3 m4 w') ∧ Aside0 (Kd.R Kd.bool 4 w' w.heap.size (fun _ => True) v11 did) ∧ Aside0 (w'.heap[gr]? = some (.cells #[.int .i64 0, .int .i64 0, .slice none 0 0, .slice none 0 0, .slice none 0 0] 47 (0, 0))))
   case atStart => exact ⟨[], 0, b1, b2, b3, b4, b5, _, _, _, er, A2, ⟨Nat.le_refl _⟩, ak (BI.out.rebase _), ak (Kd.R_nil _ _ _ _ _), BR2⟩
   case round =>
    clear BI BR2 A2
    obtain ⟨did, x, f0, f1, m2, m3, m4, y2, y3, y4, rfl, HA, HK1, BI, HD, BR2⟩ := hrel
    cases gk with
    | zero => exact absurd HA.out (by simp [spec_PlayBoard.l0])
    | succ k1 =>
     have H := HA.out; clear HA
     simp only [spec_PlayBoard.l0] at H
     obtain ⟨J2, L2, e2⟩ := Kd.S_slice BI.out.s2; subst e2
     obtain ⟨J3, L3, e3⟩ := Kd.R_slice BI.out.r3; subst e3
     obtain ⟨J4, L4, e4⟩ := Kd.R_slice BI.out.r4; subst e4
     obtain ⟨JD, LD, eD⟩ := Kd.R_slice HD.out; subst eD
     by_cases c3 : x < (l2.length : Int)
     ·rw [if_pos c3] at H
      have c3b0 : decide (x < (l2.length : Int)) = true := decide_eq_true c3
      clear c3; replace H := ifS H; obtain ⟨c4, H⟩ := H; have c4b0 := decide_eq_true c4; clear c4; replace H := ifS H; obtain ⟨c5, H⟩ := H; have c5b0 := decide_eq_true c5; clear c5; replace H := bS H; obtain ⟨⟨o0, o1, o2, o3, o4⟩, A6, H⟩ := H; replace H := bS H; obtain ⟨⟨q1, q2, q4, qr⟩, A7, H⟩ := H
      replace H := ifS H; obtain ⟨cL, H⟩ := H; have CL := ak cL; clear cL
      dsimp only at H A7
      replace H := Aside0.mk H
      have p341 : 0 ≤ (x : Int) := da
      have q341 : x < (l2.length : Int) := da
      obtain ⟨ad, e341, hl0, hl1, hl2⟩ := at_T158 (Kd.C_below HR2.out BI.out.below) x p341 q341
      cases e341
      replace p341 := eq_true p341; replace q341 := eq_true q341
      go_upto_region 8 with (first | ((with_reducible refine gate_dst (N := 13) rfl ?_); refine boxev 13 #[.int .i64 0, .int .i64 0, .int .i64 0] 158 ?_; intro gs hg_ w10 hbox hb; have GSS := ak (hgl hg_ BI.out.below); clear hg_; have BS := ak hbox; replace BI := ak (BI.out.step hb); replace HD := ak (Kd.R_below HD.out hb); replace BR2 := ak (blk_below BR2.out hb); obtain ⟨ha0, ha1, ha2, hb0, hb1, hb2⟩ := box3 BS; clear hb hbox))
      have GS : w.heap.size ≤ gs := GSS.out
      have NR : gr ≠ gs := (by rintro rfl; have h_ := BR2.out.symm.trans BS.out; injection h_ with h_; injection h_ with _ h_; exact absurd h_ (by decide))
      have BI3 := ak (((BI.out.far BS.out GS 0 (.int .i64 (rd_T158 l2 x).f0)).far (blk_put BS.out 0 _ rfl) GS 1 (.int .i64 (rd_T158 l2 x).f1)).far (blk_put (blk_put BS.out 0 _ rfl) 1 _ rfl) GS 2 (.int .i64 (rd_T158 l2 x).f2))
      have BS3 := ak (blk_put (blk_put (blk_put BS.out 0 (.int .i64 (rd_T158 l2 x).f0) rfl) 1 (.int .i64 (rd_T158 l2 x).f1) rfl) 2 (.int .i64 (rd_T158 l2 x).f2) rfl)
      have BR3 := ak (blk_far (p := ⟨gs, 2, none⟩) (blk_far (p := ⟨gs, 1, none⟩) (blk_far (p := ⟨gs, 0, none⟩) BR2.out NR (.int .i64 (rd_T158 l2 x).f0)) NR (.int .i64 (rd_T158 l2 x).f1)) NR (.int .i64 (rd_T158 l2 x).f2))
      have HD3 := ak (Kd.R_mono (ok' := fun _ => True) (Kd.R_far (p := ⟨gs, 2, none⟩) (Kd.R_far (p := ⟨gs, 1, none⟩) (Kd.R_far (p := ⟨gs, 0, none⟩) (Kd.R_types HD.out BS.out (by decide)) (fun _ hk => hk.2) (.int .i64 (rd_T158 l2 x).f0)) (fun _ hk => hk.2) (.int .i64 (rd_T158 l2 x).f1)) (fun _ hk => hk.2) (.int .i64 (rd_T158 l2 x).f2)) (fun _ _ => trivial))
      clear ha0 ha1 ha2 hb0 hb1 hb2 BI BS BR2 HD hl0 hl1 hl2 GS NR
      generalize ((w10.setCell ⟨gs, 0, none⟩ (.int .i64 (rd_T158 l2 x).f0)).setCell ⟨gs, 1, none⟩ (.int .i64 (rd_T158 l2 x).f1)).setCell ⟨gs, 2, none⟩ (.int .i64 (rd_T158 l2 x).f2) = w11 at BI3 BS3 BR3 HD3 ⊢
      replace BI3 := ak (BI3.out.step (below_drew (Below.refl _ _)))
      replace BS3 := ak (blk_drew BS3.out)
      replace BR3 := ak (blk_drew BR3.out)
      replace HD3 := ak (Kd.R_below HD3.out (below_drew (Below.refl _ _)))
      refine start_ (n := 10) (S := fun w' => w'.cell? ⟨gb, 0, none⟩ = some (.int .i64 f0) ∧ w'.cell? ⟨gb, 1, none⟩ = some (.int .i64 f1) ∧ w'.cell? ⟨gb, 2, none⟩ = some (.slice J2 m2.length L2) ∧ w'.cell? ⟨gb, 3, none⟩ = some (.slice J3 m3.length L3) ∧ w'.cell? ⟨gb, 4, none⟩ = some (.slice J4 m4.length L4) ∧ w'.cell? ⟨gs, 0, none⟩ = some (.int .i64 (rd_T158 l2 x).f0) ∧ w'.cell? ⟨gs, 1, none⟩ = some (.int .i64 (rd_T158 l2 x).f1) ∧ w'.cell? ⟨gs, 2, none⟩ = some (.int .i64 (rd_T158 l2 x).f2)) (ds := [8]) (bl 10 0) (by kernel_rfl) rfl rfl ⟨BI3.out.c0, BI3.out.c1, BI3.out.c2, BI3.out.c3, BI3.out.c4, bs_0 BS3.out, bs_1 BS3.out, bs_2 BS3.out⟩ (fun hHeld => ?_); refine with_tabW spec_PlayBoard.tab8 spec_PlayBoard.bits8 (fun HT_ HW_ => ?_)
      generalize World.drew _ = w12 at BI3 BS3 BR3 HD3 hHeld ⊢
      have GLT := ak (blk_lt BI3.out.blk); have GLR := ak (blk_lt BR3.out); have BI3b := ak BI3.out.below.size
      refine takeA 0 (some 37) 10 1 HT_ HW_ hHeld ?_ (hy := by rintro w' ⟨s0, s1, s2, s3, s4, s5, s6, s7⟩; go_simp; with_reducible rfl)
      refine takeA 2 (some 39) 10 5 HT_ HW_ hHeld ?_ (hy := by rintro w' ⟨s0, s1, s2, s3, s4, s5, s6, s7⟩; go_simp; with_reducible rfl)
      refine join_ (σ := PbS) 2 (bl 10 255) (fun s_ => [(38, .agg #[.int .i64 o0, .int .i64 o1, s_.u2, s_.u3, s_.u4]), (40, .tuple #[.agg #[.int .i64 o0, .int .i64 q1, s_.t2, s_.u3, s_.t4], .bool qr]), (14, .pointer (some ⟨s_.g, 0, none⟩)), (36, .tuple #[.agg #[.int .i64 o0, .int .i64 q1, s_.t2, s_.u3, s_.t4], .bool qr]), (41, .agg #[.int .i64 o0, .int .i64 q1, s_.t2, s_.u3, s_.t4]), (42, .bool qr)]) (fun s_ w' => (w'.cell? ⟨gb, 0, none⟩ = some (.int .i64 f0) ∧ w'.cell? ⟨gb, 1, none⟩ = some (.int .i64 f1) ∧ w'.cell? ⟨gb, 2, none⟩ = some (.slice J2 m2.length L2) ∧ w'.cell? ⟨gb, 3, none⟩ = some (.slice J3 m3.length L3) ∧ w'.cell? ⟨gb, 4, none⟩ = some (.slice J4 m4.length L4) ∧ w'.cell? ⟨gs, 0, none⟩ = some (.int .i64 (rd_T158 l2 x).f0) ∧ w'.cell? ⟨gs, 1, none⟩ = some (.int .i64 (rd_T158 l2 x).f1) ∧ w'.cell? ⟨gs, 2, none⟩ = some (.int .i64 (rd_T158 l2 x).f2)) ∧ Aside0 (Below w12.heap.size w12 w') ∧ Aside0 (w'.heap[s_.g]? = some (.cells #[.int .i64 0, .int .i64 0, .slice none 0 0, .slice none 0 0, .slice none 0 0] 47 (0, 0))) ∧ Aside0 (w12.heap.size ≤ s_.g) ∧ Aside0 (Kd.S (Kd.slice 3 (Kd.int .i64)) 23 w' w.heap.size (fun k_ => some k_ ≠ s_.u3.ownBlock ∧ some k_ ≠ s_.t4.ownBlock) s_.t2 q2) ∧ Aside0 (Kd.R (Kd.int .i64) 3 w' w.heap.size (fun k_ => some k_ ≠ s_.t4.ownBlock) s_.u3 o3) ∧ Aside0 (Kd.R (Kd.int .i64) 3 w' w.heap.size (fun k_ => some k_ ≠ s_.u3.ownBlock) s_.t4 q4)) ?_ ?_
      rotate_left
      ·intro hCont
       refine two_ (i := 1) (j := 7) (Ni := some 38) (Nj := some 14) (bl 10 7) (bl 10 133) rfl rfl rfl rfl (two_of HT_.out (by kernel_rfl)) (by decide) (by decide) (fun K hK => ?_) (fun K hK => ?_)
       ·skip
        refine goes_ Try.func122 (by kernel_rfl) rfl #[.agg #[.int .i64 f0, .int .i64 f1, .slice J2 m2.length L2, .slice J3 m3.length L3, .slice J4 m4.length L4]] (by rfl) rfl rfl (by (try simp only [List.map_toArray, List.map_cons, List.map_nil]); first | done | rfl | (simp only [List.length_drop, List.length_take]; rfl)) ?_
        with_reducible refine (spec_l13Own.calls k1 f0 f1 _ _ m2 _ _ m3 _ _ m4 o0 o1 o2 o3 o4 _ ?side1 ?side2 ?side3 ?side4 ?side5 ?side6 A6.out).mono ?_
        (case side1 => exact cd (Kd.S_reads' BI3.out.s2).2.2)
        (case side2 => exact (Kd.S_reads' BI3.out.s2).2.1)
        (case side3 => exact cd (Kd.R_reads' BI3.out.r3).2.2)
        (case side4 => exact (Kd.R_reads' BI3.out.r3).2.1)
        (case side5 => exact cd (Kd.R_reads' BI3.out.r4).2.2)
        (case side6 => exact (Kd.R_reads' BI3.out.r4).2.1)
        rintro e w13 ⟨u2, u3, u4, rfl, hs2, hs3, hs4, hb⟩
        refine ⟨_, rfl, ?_⟩
        have O2 := ak hs2; have O3 := ak hs3; have O4 := ak hs4; have OB := ak hb
        have BW1 := ak (OB.out)
        clear hs2 hs3 hs4 hb
        refine hK.out _ _ ⟨(BI3.out.step BW1.out).c0, (BI3.out.step BW1.out).c1, (BI3.out.step BW1.out).c2, (BI3.out.step BW1.out).c3, (BI3.out.step BW1.out).c4, bs_0 (blk_below BS3.out BW1.out), bs_1 (blk_below BS3.out BW1.out), bs_2 (blk_below BS3.out BW1.out)⟩ (fun hHeld => ?_)
        clear hK K
        refine norm_ (a' := ?_) ?_ ?_
        rotate_left
        ·show Act.put _ (some 38) _ = _
         simp only [Act.put, List.setIfInBounds_toArray, List.set_cons_zero, List.set_cons_succ, i64_w, i32_w]
         rfl
        refine two_ (i := 3) (j := 7) (Ni := some 40) (Nj := some 14) (bl 10 15) (bl 10 135) rfl rfl rfl rfl (two_of HT_.out (by kernel_rfl)) (by decide) (by decide) (fun K hK => ?_) (fun K hK => ?_)
        ·skip
         refine goes_ Try.func121 (by kernel_rfl) rfl #[.agg #[.int .i64 o0, .int .i64 o1, u2, u3, u4], .agg #[.int .i64 (rd_T158 l2 x).f0, .int .i64 (rd_T158 l2 x).f1, .int .i64 (rd_T158 l2 x).f2]] (by rfl) rfl rfl (by (try simp only [List.map_toArray, List.map_cons, List.map_nil]); first | done | rfl | (simp only [List.length_drop, List.length_take]; rfl)) ?_
         with_reducible refine (spec_l13Step.calls k1 o0 o1 u2 u3 u4 o2 o3 o4 (rd_T158 l2 x).f0 (rd_T158 l2 x).f1 (rd_T158 l2 x).f2 q1 q2 q4 qr w12 _ OB.out O2.out O3.out O4.out A7.out).mono ?_
         rintro e w14 ⟨t2, t4, rfl, hs2, hs3, hs4, hb, hlk⟩
         refine ⟨_, rfl, ?_⟩
         have P2 := ak hs2; have P3 := ak hs3; have P4 := ak hs4; have PB := ak hb; have LK := ak hlk
         clear hs2 hs3 hs4 hb hlk
         refine hK.out _ _ ⟨(BI3.out.step PB.out).c0, (BI3.out.step PB.out).c1, (BI3.out.step PB.out).c2, (BI3.out.step PB.out).c3, (BI3.out.step PB.out).c4, bs_0 (blk_below BS3.out PB.out), bs_1 (blk_below BS3.out PB.out), bs_2 (blk_below BS3.out PB.out)⟩ (fun hHeld => ?_)
         clear hK K
         refine norm_ (a' := ?_) ?_ ?_
         rotate_left
         ·show Act.put _ (some 40) _ = _
          simp only [Act.put, List.setIfInBounds_toArray, List.set_cons_zero, List.set_cons_succ, i64_w, i32_w]
          rfl
         refine pureA 4 (some 36) 10 31 HT_ ?_
         refine pureA 5 (some 41) 10 63 HT_ ?_
         refine pureA 6 (some 42) 10 127 HT_ ?_
         refine oneA 7 (some 14) 10 255 HT_ (fun K hK => ?_)
         refine box_step ?hg (N := 14) ?hd (cs := #[.int .i64 0, .int .i64 0, .slice none 0 0, .slice none 0 0, .slice none 0 0]) (t := 47) ?hr ?_; (case hd => rfl); (case hg => rfl); (case hr => first | (go_simp; done) | (go_simp; rfl))
         intro gx hg w15 hbox hb
         have BW := ak (below_step PB.out hb); have HG := ak hbox; have HGE := ak (hgl hg PB.out); replace P2 := ak (Kd.S_below P2.out hb); replace P3 := ak (Kd.R_below P3.out hb); replace P4 := ak (Kd.R_below P4.out hb)
         clear hb hbox hg
         refine hK.out _ _ ⟨(BI3.out.step BW.out).c0, (BI3.out.step BW.out).c1, (BI3.out.step BW.out).c2, (BI3.out.step BW.out).c3, (BI3.out.step BW.out).c4, bs_0 (blk_below BS3.out BW.out), bs_1 (blk_below BS3.out BW.out), bs_2 (blk_below BS3.out BW.out)⟩ (fun hHeld => ?_)
         clear hK K
         refine norm_ (a' := ?_) ?_ ?_
         rotate_left
         ·show Act.put _ (some 14) _ = _
          simp only [Act.put, List.setIfInBounds_toArray, List.set_cons_zero, List.set_cons_succ, i64_w, i32_w]
          rfl
         exact norm_ (by simp only [putAll, Act.put, List.setIfInBounds_toArray, List.set_cons_zero, List.set_cons_succ]) (hCont ⟨gx, u2, u3, u4, t2, t4⟩ _ ⟨hHeld, BW, HG, HGE, ak (Kd.S_lower P2.out BI3.out.below.size), ak (Kd.R_lower P3.out BI3.out.below.size), ak (Kd.R_lower P4.out BI3.out.below.size)⟩)
        ·skip
         refine box_step ?hg (N := 14) ?hd (cs := #[.int .i64 0, .int .i64 0, .slice none 0 0, .slice none 0 0, .slice none 0 0]) (t := 47) ?hr ?_; (case hd => rfl); (case hg => rfl); (case hr => first | (go_simp; done) | (go_simp; rfl))
         intro gx hg w14 hbox hb
         have BW2 := ak (below_step BW1.out hb); have HG := ak hbox; have HGE := ak (hgl hg BW1.out); replace O2 := ak (Kd.S_below O2.out hb); replace O3 := ak (Kd.R_below O3.out hb); replace O4 := ak (Kd.R_below O4.out hb); replace OB := BW2
         clear hb hbox hg
         refine hK.out _ _ ⟨(BI3.out.step BW2.out).c0, (BI3.out.step BW2.out).c1, (BI3.out.step BW2.out).c2, (BI3.out.step BW2.out).c3, (BI3.out.step BW2.out).c4, bs_0 (blk_below BS3.out BW2.out), bs_1 (blk_below BS3.out BW2.out), bs_2 (blk_below BS3.out BW2.out)⟩ (fun hHeld => ?_)
         clear hK K
         refine norm_ (a' := ?_) ?_ ?_
         rotate_left
         ·show Act.put _ (some 14) _ = _
          simp only [Act.put, List.setIfInBounds_toArray, List.set_cons_zero, List.set_cons_succ, i64_w, i32_w]
          rfl
         refine oneA 3 (some 40) 10 143 HT_ (fun K hK => ?_)
         refine goes_ Try.func121 (by kernel_rfl) rfl #[.agg #[.int .i64 o0, .int .i64 o1, u2, u3, u4], .agg #[.int .i64 (rd_T158 l2 x).f0, .int .i64 (rd_T158 l2 x).f1, .int .i64 (rd_T158 l2 x).f2]] (by rfl) rfl rfl (by (try simp only [List.map_toArray, List.map_cons, List.map_nil]); first | done | rfl | (simp only [List.length_drop, List.length_take]; rfl)) ?_
         with_reducible refine (spec_l13Step.calls k1 o0 o1 u2 u3 u4 o2 o3 o4 (rd_T158 l2 x).f0 (rd_T158 l2 x).f1 (rd_T158 l2 x).f2 q1 q2 q4 qr w12 _ OB.out O2.out O3.out O4.out A7.out).mono ?_
         rintro e w15 ⟨t2, t4, rfl, hs2, hs3, hs4, hb, hlk⟩
         refine ⟨_, rfl, ?_⟩
         have P2 := ak hs2; have P3 := ak hs3; have P4 := ak hs4; have PB := ak hb; have LK := ak hlk
         clear hs2 hs3 hs4 hb hlk
         have BW := PB
         replace HG := ak ((LK.out.2 gx (blk_lt HG.out) (Kd.S_ne O2.out HG.out (by decide)) (Kd.R_ne O4.out HG.out (by decide))).trans HG.out)
         refine hK.out _ _ ⟨(BI3.out.step BW.out).c0, (BI3.out.step BW.out).c1, (BI3.out.step BW.out).c2, (BI3.out.step BW.out).c3, (BI3.out.step BW.out).c4, bs_0 (blk_below BS3.out BW.out), bs_1 (blk_below BS3.out BW.out), bs_2 (blk_below BS3.out BW.out)⟩ (fun hHeld => ?_)
         clear hK K
         refine norm_ (a' := ?_) ?_ ?_
         rotate_left
         ·show Act.put _ (some 40) _ = _
          simp only [Act.put, List.setIfInBounds_toArray, List.set_cons_zero, List.set_cons_succ, i64_w, i32_w]
          rfl
         refine pureA 4 (some 36) 10 159 HT_ ?_
         refine pureA 5 (some 41) 10 191 HT_ ?_
         refine pureA 6 (some 42) 10 255 HT_ ?_
         exact norm_ (by simp only [putAll, Act.put, List.setIfInBounds_toArray, List.set_cons_zero, List.set_cons_succ]) (hCont ⟨gx, u2, u3, u4, t2, t4⟩ _ ⟨hHeld, BW, HG, HGE, ak (Kd.S_lower P2.out BI3.out.below.size), ak (Kd.R_lower P3.out BI3.out.below.size), ak (Kd.R_lower P4.out BI3.out.below.size)⟩)
       ·skip
        refine box_step ?hg (N := 14) ?hd (cs := #[.int .i64 0, .int .i64 0, .slice none 0 0, .slice none 0 0, .slice none 0 0]) (t := 47) ?hr ?_; (case hd => rfl); (case hg => rfl); (case hr => first | (go_simp; done) | (go_simp; rfl))
        intro gx hg w13 hbox hb
        have BW1 := ak hb; have HG := ak hbox; have HGE := ak (hgl hg (Below.refl _ w12))
        clear hb hbox hg
        refine hK.out _ _ ⟨(BI3.out.step BW1.out).c0, (BI3.out.step BW1.out).c1, (BI3.out.step BW1.out).c2, (BI3.out.step BW1.out).c3, (BI3.out.step BW1.out).c4, bs_0 (blk_below BS3.out BW1.out), bs_1 (blk_below BS3.out BW1.out), bs_2 (blk_below BS3.out BW1.out)⟩ (fun hHeld => ?_)
        clear hK K
        refine norm_ (a' := ?_) ?_ ?_
        rotate_left
        ·show Act.put _ (some 14) _ = _
         simp only [Act.put, List.setIfInBounds_toArray, List.set_cons_zero, List.set_cons_succ, i64_w, i32_w]
         rfl
        refine oneA 1 (some 38) 10 135 HT_ (fun K hK => ?_)
        refine goes_ Try.func122 (by kernel_rfl) rfl #[.agg #[.int .i64 f0, .int .i64 f1, .slice J2 m2.length L2, .slice J3 m3.length L3, .slice J4 m4.length L4]] (by rfl) rfl rfl (by (try simp only [List.map_toArray, List.map_cons, List.map_nil]); first | done | rfl | (simp only [List.length_drop, List.length_take]; rfl)) ?_
        with_reducible refine (spec_l13Own.calls k1 f0 f1 _ _ m2 _ _ m3 _ _ m4 o0 o1 o2 o3 o4 _ ?side1 ?side2 ?side3 ?side4 ?side5 ?side6 A6.out).mono ?_
        (case side1 => exact cd (Kd.S_reads' (BI3.out.step BW1.out).s2).2.2)
        (case side2 => exact (Kd.S_reads' (BI3.out.step BW1.out).s2).2.1)
        (case side3 => exact cd (Kd.R_reads' (BI3.out.step BW1.out).r3).2.2)
        (case side4 => exact (Kd.R_reads' (BI3.out.step BW1.out).r3).2.1)
        (case side5 => exact cd (Kd.R_reads' (BI3.out.step BW1.out).r4).2.2)
        (case side6 => exact (Kd.R_reads' (BI3.out.step BW1.out).r4).2.1)
        rintro e w14 ⟨u2, u3, u4, rfl, hs2, hs3, hs4, hb⟩
        refine ⟨_, rfl, ?_⟩
        have O2 := ak hs2; have O3 := ak hs3; have O4 := ak hs4; have OB := ak hb
        have BW2 := ak (below_step BW1.out OB.out)
        clear hs2 hs3 hs4 hb
        refine hK.out _ _ ⟨(BI3.out.step BW2.out).c0, (BI3.out.step BW2.out).c1, (BI3.out.step BW2.out).c2, (BI3.out.step BW2.out).c3, (BI3.out.step BW2.out).c4, bs_0 (blk_below BS3.out BW2.out), bs_1 (blk_below BS3.out BW2.out), bs_2 (blk_below BS3.out BW2.out)⟩ (fun hHeld => ?_)
        clear hK K
        refine norm_ (a' := ?_) ?_ ?_
        rotate_left
        ·show Act.put _ (some 38) _ = _
         simp only [Act.put, List.setIfInBounds_toArray, List.set_cons_zero, List.set_cons_succ, i64_w, i32_w]
         rfl
        refine oneA 3 (some 40) 10 143 HT_ (fun K hK => ?_)
        refine goes_ Try.func121 (by kernel_rfl) rfl #[.agg #[.int .i64 o0, .int .i64 o1, u2, u3, u4], .agg #[.int .i64 (rd_T158 l2 x).f0, .int .i64 (rd_T158 l2 x).f1, .int .i64 (rd_T158 l2 x).f2]] (by rfl) rfl rfl (by (try simp only [List.map_toArray, List.map_cons, List.map_nil]); first | done | rfl | (simp only [List.length_drop, List.length_take]; rfl)) ?_
        with_reducible refine (spec_l13Step.calls k1 o0 o1 u2 u3 u4 o2 o3 o4 (rd_T158 l2 x).f0 (rd_T158 l2 x).f1 (rd_T158 l2 x).f2 q1 q2 q4 qr w13 _ OB.out O2.out O3.out O4.out A7.out).mono ?_
        rintro e w15 ⟨t2, t4, rfl, hs2, hs3, hs4, hb, hlk⟩
        refine ⟨_, rfl, ?_⟩
        have P2 := ak hs2; have P3 := ak hs3; have P4 := ak hs4; have PB := ak hb; have LK := ak hlk
        clear hs2 hs3 hs4 hb hlk
        have BW := ak (below_step BW1.out PB.out)
        replace HG := ak (blk_below HG.out PB.out)
        refine hK.out _ _ ⟨(BI3.out.step BW.out).c0, (BI3.out.step BW.out).c1, (BI3.out.step BW.out).c2, (BI3.out.step BW.out).c3, (BI3.out.step BW.out).c4, bs_0 (blk_below BS3.out BW.out), bs_1 (blk_below BS3.out BW.out), bs_2 (blk_below BS3.out BW.out)⟩ (fun hHeld => ?_)
        clear hK K
        refine norm_ (a' := ?_) ?_ ?_
        rotate_left
        ·show Act.put _ (some 40) _ = _
         simp only [Act.put, List.setIfInBounds_toArray, List.set_cons_zero, List.set_cons_succ, i64_w, i32_w]
         rfl
        refine pureA 4 (some 36) 10 159 HT_ ?_
        refine pureA 5 (some 41) 10 191 HT_ ?_
        refine pureA 6 (some 42) 10 255 HT_ ?_
        exact norm_ (by simp only [putAll, Act.put, List.setIfInBounds_toArray, List.set_cons_zero, List.set_cons_succ]) (hCont ⟨gx, u2, u3, u4, t2, t4⟩ _ ⟨hHeld, BW, HG, HGE, ak (Kd.S_lower P2.out (Nat.le_trans BI3.out.below.size BW1.out.size)), ak (Kd.R_lower P3.out (Nat.le_trans BI3.out.below.size BW1.out.size)), ak (Kd.R_lower P4.out (Nat.le_trans BI3.out.below.size BW1.out.size))⟩)
      rintro ⟨gx, u2, u3, u4, t2, t4⟩ w15 ⟨hHeld, BW, HG, HGE, P2, P3, P4⟩
      obtain ⟨XN, YN, e2⟩ := Kd.S_slice P2.out; obtain ⟨XL, YL, e3⟩ := Kd.R_slice P3.out; obtain ⟨XM, YM, e4⟩ := Kd.R_slice P4.out
      dsimp only at e2 e3 e4 HG HGE P2 P3 P4
      subst e2; subst e3; subst e4
      refine norm_ (a' := ?_) ?_ ?_
      rotate_left
      ·show putAll _ _ = _
       simp only [putAll, Act.put, List.setIfInBounds_toArray, List.set_cons_zero, List.set_cons_succ, i64_w, i32_w]
       rfl
      replace BI3 := ak (BI3.out.step BW.out); have BS4 := ak (blk_below BS3.out BW.out); replace BR3 := ak (blk_below BR3.out BW.out); replace HD3 := ak (Kd.R_below HD3.out BW.out)
      have NX1 : gx ≠ gb := (by rintro rfl; exact absurd (GLT.out) (Nat.not_lt.mpr HGE.out))
      refine last_ (i := 8) (N := none) (bl 10 511) rfl rfl (one_of HT_.out (by kernel_rfl)) (by decide) (fun K hK => ?_)
      obtain ⟨hz0, hz1, hz2, hz3, hz4, hq0, hq1, hq2, hq3, hq4⟩ := box5 HG
      refine skip_ (w1 := ?_) (by rfl) rfl ?_ ?_
      rotate_left
      ·go_simp
       rfl
      refine hK.out _ _ ?_
      clear hK K hz0 hz1 hz2 hz3 hz4 hq0 hq1 hq2 hq3 hq4 hHeld
      have BX := ak (st5_in (f0 := o0) (f1 := q1) HG.out (Nat.le_trans BI3b.out HGE.out) P2.out P3.out P4.out BI3.out.below none)
      have NX2 : gb ≠ gx := Ne.symm NX1
      have NX3 : gr ≠ gx := (by rintro rfl; exact absurd GLR.out (Nat.not_lt.mpr HGE.out))
      have BI4 := ak (bd_far5 BI3.out HG.out NX2 (Nat.le_trans BI3b.out HGE.out) (.int .i64 o0) (.int .i64 q1) (.slice XN q2.length YN) (.slice XL o3.length YL) (.slice XM q4.length YM))
      have BR4 := ak ((st5_far w15 gx (.int .i64 o0) (.int .i64 q1) (.slice XN q2.length YN) (.slice XL o3.length YL) (.slice XM q4.length YM) gr NX3).trans BR3.out)
      have HD4 := ak (Kd.R_mono (ok' := fun _ => True) (Kd.R_step (Kd.R_types HD3.out HG.out (by decide)) (fun k hk _ => st5_far w15 gx (.int .i64 o0) (.int .i64 q1) (.slice XN q2.length YN) (.slice XL o3.length YL) (.slice XM q4.length YM) k hk.2)) (fun _ _ => trivial))
      clear BI3 BR3 HD3 HG P2 P3 P4 BW BS3 BS4 GLT GLR HGE BI3b
      dsimp only [st5] at BX BI4 BR4 HD4
      generalize ((((w15.setCell ⟨gx, 0, none⟩ (.int .i64 o0)).setCell ⟨gx, 1, none⟩ (.int .i64 q1)).setCell ⟨gx, 2, none⟩ (.slice XN q2.length YN)).setCell ⟨gx, 3, none⟩ (.slice XL o3.length YL)).setCell ⟨gx, 4, none⟩ (.slice XM q4.length YM) = w16 at BX BI4 BR4 HD4 ⊢
      refine pureA 9 (some 15) 10 1023 HT_ ?_
      refine done_ (done_of HT_.out (by kernel_rfl)) ?_
      clear HT_ HW_
      replace H := H.out
      cases qr with
      | true =>
       rw [if_pos rfl] at H
       have H' := Aside0.mk H; clear H
       clear hHeld
       go_upto_region 10 with fail
       obtain ⟨hx0, hx1, hx2, hx3, hx4, hg0, hg1, hg2, hg3, hg4⟩ := box5 (ak BX.out.blk); obtain ⟨hz0, hz1, hz2, hz3, hz4, hq0, hq1, hq2, hq3, hq4⟩ := box5 (ak BI4.out.blk)
       clear hg0 hg1 hg2 hg3 hg4
       go_upto_region 11 with fail
       have BJ := ak (st5_in (f0 := o0) (f1 := q1) BI4.out.blk BI4.out.ge BX.out.s2 BX.out.r3 BX.out.r4 BX.out.below none)
       replace BR4 := ak ((st5_far w16 gb (.int .i64 o0) (.int .i64 q1) (.slice XN q2.length YN) (.slice XL o3.length YL) (.slice XM q4.length YM) gr NB1).trans BR4.out)
       replace HD4 := ak (Kd.R_mono (ok' := fun _ => True) (Kd.R_step (Kd.R_types HD4.out BI4.out.blk (by decide)) (fun k hk _ => st5_far w16 gb (.int .i64 o0) (.int .i64 q1) (.slice XN q2.length YN) (.slice XL o3.length YL) (.slice XM q4.length YM) k hk.2)) (fun _ _ => trivial))
       clear BX BI4 hx0 hx1 hx2 hx3 hx4 hz0 hz1 hz2 hz3 hz4 hq0 hq1 hq2 hq3 hq4
       have BI4 := BJ
       clear BJ
       dsimp only [st5] at BI4 BR4 HD4
       generalize ((((w16.setCell ⟨gb, 0, none⟩ (.int .i64 o0)).setCell ⟨gb, 1, none⟩ (.int .i64 q1)).setCell ⟨gb, 2, none⟩ (.slice XN q2.length YN)).setCell ⟨gb, 3, none⟩ (.slice XL o3.length YL)).setCell ⟨gb, 4, none⟩ (.slice XM q4.length YM) = w17 at BI4 BR4 HD4 ⊢
       go_wp2_with (first | ((with_reducible refine gate_builtin (b := .append) (xs := #[.tmp 45, .tmp 47]) rfl ?_); at_builtin; go_loud (refine Kd.R_append Kd.bool (w0 := w) w.heap.size rfl (.tmp 45) (.tmp 47) 48 4 (.bool false) 1 rfl Try.underlying48 bd_info4 rfl (by decide) (by omega) (.slice JD did.length LD) did true [.bool true] (fun _ => True) (fun _ => False) rfl rfl ?aP (fun _ hk => hk.elim) ?aF ?aO ?aB ?aS ?aL ?_; (case aP => exact rfl); (case aB => exact BI4.out.below); (case aF => exact (fun _ _ => trivial)); (case aO => first | exact HD4.out | exact Kd.R_mono HD4.out (fun _ _ => ⟨trivial, fun h_ => h_⟩)); (case aS => exact BI4.out.below.size); (case aL => have := CL.out; omega); intro vE w20 ho hb hg hat; clear hat; have HD5 := ak ho; have BI5 := ak (⟨blk_grown BI4.out.blk hg (Kd.R_ne HD4.out BI4.out.blk (by decide)), BI4.out.ge, Kd.S_over' BI4.out.s2 (Kd.R_typed HD4.out) (by decide) hg, Kd.R_over' BI4.out.r3 (Kd.R_typed HD4.out) (by decide) hg, Kd.R_over' BI4.out.r4 (Kd.R_typed HD4.out) (by decide) hg, hb, KeepBut.refl _ _ _⟩ : BdIn w w20 gb (Value.slice XN q2.length YN).ownBlock o0 q1 (.slice XN q2.length YN) (.slice XL o3.length YL) (.slice XM q4.length YM) q2 o3 q4 w20); have BR5 := ak (blk_grown BR4.out hg (Kd.R_ne HD4.out BR4.out (by decide))); clear ho hb hg HD4 BI4 BR4)))
       go_roundg k1
       case measure => have := HK1.out; omega
       case rel => exact ⟨did ++ [true], wrap64 (x + 1), o0, q1, q2, o3, q4, _, _, _, er, H', ⟨by have := HK1.out; omega⟩, ak (BI5.out.rebase _), HD5, BR5⟩
      | false =>
       rw [if_neg (by decide)] at H
       have H' := Aside0.mk H; clear H
       clear BX
       go_wp2_with (first | ((with_reducible refine gate_builtin (b := .append) (xs := #[.tmp 45, .tmp 47]) rfl ?_); at_builtin; go_loud (refine Kd.R_append Kd.bool (w0 := w) w.heap.size rfl (.tmp 45) (.tmp 47) 48 4 (.bool false) 1 rfl Try.underlying48 bd_info4 rfl (by decide) (by omega) (.slice JD did.length LD) did false [.bool false] (fun _ => True) (fun _ => False) rfl rfl ?aP (fun _ hk => hk.elim) ?aF ?aO ?aB ?aS ?aL ?_; (case aP => exact rfl); (case aB => exact BI4.out.below); (case aF => exact (fun _ _ => trivial)); (case aO => first | exact HD4.out | exact Kd.R_mono HD4.out (fun _ _ => ⟨trivial, fun h_ => h_⟩)); (case aS => exact BI4.out.below.size); (case aL => have := CL.out; omega); intro vE w20 ho hb hg hat; clear hat; have HD5 := ak ho; have BI5 := ak (⟨blk_grown BI4.out.blk hg (Kd.R_ne HD4.out BI4.out.blk (by decide)), BI4.out.ge, Kd.S_over' BI4.out.s2 (Kd.R_typed HD4.out) (by decide) hg, Kd.R_over' BI4.out.r3 (Kd.R_typed HD4.out) (by decide) hg, Kd.R_over' BI4.out.r4 (Kd.R_typed HD4.out) (by decide) hg, hb, KeepBut.refl _ _ _⟩ : BdIn w w20 gb (Value.slice J2 m2.length L2).ownBlock f0 f1 (.slice J2 m2.length L2) (.slice J3 m3.length L3) (.slice J4 m4.length L4) m2 m3 m4 w20); have BR5 := ak (blk_grown BR4.out hg (Kd.R_ne HD4.out BR4.out (by decide))); clear ho hb hg HD4 BI4 BR4)))
       go_roundg k1
       case measure => have := HK1.out; omega
       case rel => exact ⟨did ++ [false], wrap64 (x + 1), f0, f1, m2, m3, m4, _, _, _, er, H', ⟨by have := HK1.out; omega⟩, ak (BI5.out.rebase _), HD5, BR5⟩
     ·rw [if_neg c3] at H
      have c3b0 : decide (x < (l2.length : Int)) = false := decide_eq_false c3
      clear c3
      simp only [Option.some.injEq, Prod.mk.injEq] at H
      obtain ⟨rfl, rfl, rfl, rfl, rfl, rfl⟩ := H
      have hx0 := BI.out.c0; have hx1 := BI.out.c1; have hx2 := BI.out.c2; have hx3 := BI.out.c3; have hx4 := BI.out.c4
      go_wp2_with (first | (go_at_call 122; go_loud ((with_reducible refine (spec_l13Own.calls k f0 f1 _ _ m2 _ _ m3 _ _ m4 o0 o1 o2 o3 o4 _ ?side1 ?side2 ?side3 ?side4 ?side5 ?side6 A3.out).mono ?_); (case side1 => exact cd (Kd.S_reads' BI.out.s2).2.2); (case side2 => exact (Kd.S_reads' BI.out.s2).2.1); (case side3 => exact cd (Kd.R_reads' BI.out.r3).2.2); (case side4 => exact (Kd.R_reads' BI.out.r3).2.1); (case side5 => exact cd (Kd.R_reads' BI.out.r4).2.2); (case side6 => exact (Kd.R_reads' BI.out.r4).2.1);  rintro e w13 ⟨u2, u3, u4, rfl, hs2, hs3, hs4, hb⟩; have O2 := ak (Kd.S_lower hs2 BI.out.below.size); have O3 := ak (Kd.R_lower hs3 BI.out.below.size); have O4 := ak (Kd.R_lower hs4 BI.out.below.size); have HBE := ak (below_step BI.out.below hb); replace HD := ak (Kd.R_below HD.out hb); replace BR2 := ak (blk_below BR2.out hb); clear hs2 hs3 hs4 hb hx0 hx1 hx2 hx3 hx4 BI; obtain ⟨X7, Y7, e7⟩ := Kd.S_slice O2.out; subst e7; obtain ⟨X8, Y8, e8⟩ := Kd.R_slice O3.out; subst e8; obtain ⟨X9, Y9, e9⟩ := Kd.R_slice O4.out; subst e9; obtain ⟨hz0, hz1, hz2, hz3, hz4, hq0, hq1, hq2, hq3, hq4⟩ := box5 BR2)))
      refine bodyPost_ret (results_ctt rfl _ _ gr 47 #[.int .i64 o0, .int .i64 o1, .slice X7 o2.length Y7, .slice X8 o3.length Y8, .slice X9 o4.length Y9] (0, 0) _ rfl (st5_blk BR2.out _ _ _ _ _) Try.underlying47 rfl (by kernel_rfl)) rfl ?_
      have BF := st5_in (f0 := o0) (f1 := o1) BR2.out GR.out O2.out O3.out O4.out HBE.out none
      exact ⟨_, _, _, _, by first | rfl | (simp; done) | trace_state, BF.s2, BF.r3, BF.r4, Kd.R_mono (Kd.R_step (Kd.R_types HD.out BR2.out (by decide)) (fun k hk _ => st5_far _ gr _ _ _ _ _ k hk.2)) (fun _ _ => trivial), BF.below⟩

/-! ### laws_sameBools: function 30 -/
def laws_sameBools.l0 : Nat → List Bool → List Bool → Int → Int → Option (Bool)
  | 0, _, _, _, _ => none
  | k + 1, x0, x1, x12, x13 => if x13 < x12 then (if 0 ≤ x13 then (if x13 < (x0.length : Int) then (if x13 < (x1.length : Int) then (if ((rdOf false x0 x13) != (rdOf false x1 x13)) = true then (some false) else (laws_sameBools.l0 k x0 x1 x12 (wrap64 (x13 + 1)))) else (none)) else (none)) else (none)) else (some true)
def laws_sameBools.f (k : Nat) (l0 : List Bool) (l1 : List Bool) : Option (Bool) := if (l0.length : Int) = (l1.length : Int) then (laws_sameBools.l0 k l0 l1 (l0.length : Int) 0) else (some false)
theorem laws_sameBools.mono_l : ∀ k, (∀ y0 y1 y2 y3, LeO (laws_sameBools.l0 k y0 y1 y2 y3) (laws_sameBools.l0 (k + 1) y0 y1 y2 y3))
 | 0 => fun _ _ _ _ r h => by simp [laws_sameBools.l0] at h
 | k + 1 => by
  have ih0 := laws_sameBools.mono_l k
  ·intro y0 y1 y2 y3
   unfold laws_sameBools.l0
   repeat' (first | (with_reducible first | exact ih0 _ _ _ _ | exact LeO.refl _ | exact LeO.none _ | refine LeO.ite ?_ ?_ | refine LeO.bind ?_ (fun _ => ?_)) | exact ih0 _ _ _ _ | exact LeO.none _ | refine LeO.ite ?_ ?_ | refine LeO.bind ?_ (fun _ => ?_))
theorem laws_sameBools.mono : ∀ a0 a1 k, LeO (laws_sameBools.f k a0 a1) (laws_sameBools.f (k + 1) a0 a1) := by
 intro a0 a1 k
 have ih0 := laws_sameBools.mono_l k
 unfold laws_sameBools.f
 repeat' (first | (with_reducible first | exact ih0 _ _ _ _ | exact LeO.refl _ | exact LeO.none _ | refine LeO.ite ?_ ?_ | refine LeO.bind ?_ (fun _ => ?_)) | exact ih0 _ _ _ _ | exact LeO.none _ | refine LeO.ite ?_ ?_ | refine LeO.bind ?_ (fun _ => ?_))
set_option maxHeartbeats 8000000 in
set_option maxRecDepth 100000 in
theorem laws_sameBools.calls (k : Nat) (A0 : Option Addr) (c0 : Nat) (l0 : List Bool) (A1 : Option Addr) (c1 : Nat) (l1 : List Bool) (r : Bool) (w : World) (hr0 : Kd.C Kd.bool w A0 l0.length l0) (hc0 : l0.length ≤ c0) (hr1 : Kd.C Kd.bool w A1 l1.length l1) (hc1 : l1.length ≤ c1) (h : laws_sameBools.f k l0 l1 = some r) :
  Calls Try.prog 30 #[.slice A0 l0.length c0, .slice A1 l1.length c1] w fun e w' => e = .returned (.bool r) ∧ Drawn0 w w' := by
 have HR0 := Aside0.mk hr0; have HC0 := Aside0.mk hc0; clear hr0 hc0; have HR1 := Aside0.mk hr1; have HC1 := Aside0.mk hc1; clear hr1 hc1
 have H : (if (l0.length : Int) = (l1.length : Int) then (laws_sameBools.l0 k l0 l1 (l0.length : Int) 0) else (some false)) = some r := h
 clear h
 by_cases c3 : (l0.length : Int) = (l1.length : Int)
 ·rw [if_pos c3] at H
  have c3b0 : ((l0.length : Int) == (l1.length : Int)) = true := beq_iff_eq.mpr c3
  have c3b1 : ((l0.length : Int) != (l1.length : Int)) = false := bne_eq_false_iff_eq.mpr c3
  have c3b2 : (l0.length == l1.length) = true := by first | simpa using c3 | (simp at c3 ⊢; omega)
  clear c3
  have H' := Aside0.mk H
  clear H
  go_enter Try.func30, Try.ntmps30
  go_wp2
  repeat (go_quiet (fail); try go_wp2)
  go_loopg [13] k (fun kq v13 w' => ∃ (x13_1 : Int), v13 = .int .i64 x13_1 ∧ Aside0 (laws_sameBools.l0 kq l0 l1 (l0.length : Int) x13_1 = some r) ∧ Aside0 (kq ≤ k) ∧ Drawn0 w w')
  case atStart => exact ⟨(0), er, H', ⟨Nat.le_refl _⟩, drw⟩
  case round =>
   clear H'
   (try clear c1); (try clear c3b0); (try clear c3b1); (try clear c3b2)
   obtain ⟨x13_1, rfl, HA, HK1, ⟨m1, rfl⟩⟩ := hrel
   cases gk with
   | zero => exact absurd HA.out (by simp [laws_sameBools.l0])
   | succ k1 =>
    have H := HA.out; clear HA
    simp only [laws_sameBools.l0] at H
    by_cases c4 : x13_1 < (l0.length : Int)
    ·rw [if_pos c4] at H
     have c4b0 : decide (x13_1 < (l0.length : Int)) = true := decide_eq_true c4
     clear c4; replace H := ifS H; obtain ⟨c5, H⟩ := H; have c5b0 := decide_eq_true c5; clear c5; replace H := ifS H; obtain ⟨c6, H⟩ := H; have c6b0 := decide_eq_true c6; clear c6; replace H := ifS H; obtain ⟨c7, H⟩ := H; have c7b0 := decide_eq_true c7; clear c7
     by_cases c8 : ((rdOf false l0 x13_1) != (rdOf false l1 x13_1)) = true
     ·rw [if_pos c8] at H
      have c8b0 : ((rdOf false l0 x13_1) != (rdOf false l1 x13_1)) = true := c8
      (try (have c8b1 : decide ((rdOf false l0 x13_1) = (rdOf false l1 x13_1)) = false := by simpa using c8))
      (try (have c8b2 : ((rdOf false l0 x13_1) == (rdOf false l1 x13_1)) = false := by simpa using c8))
      (try (have c8b3 : ¬ ((rdOf false l0 x13_1) = (rdOf false l1 x13_1)) := by simpa using c8))
      clear c8
      obtain rfl := Option.some.inj H
      have p447 : 0 ≤ (x13_1 : Int) := da
      have q447 : x13_1 < (l0.length : Int) := da
      obtain ⟨ad447, e447, hx447_0⟩ := Kd.at_bool HR0.out x13_1 p447 q447
      cases e447
      replace p447 := eq_true p447; replace q447 := eq_true q447
      have p448 : 0 ≤ (x13_1 : Int) := da
      have q448 : x13_1 < (l1.length : Int) := da
      obtain ⟨ad448, e448, hx448_0⟩ := Kd.at_bool HR1.out x13_1 p448 q448
      cases e448
      replace p448 := eq_true p448; replace q448 := eq_true q448; go_wp2
      repeat (go_quiet (fail); try go_wp2)
      go_ret
      exact ⟨er, drw⟩
     ·rw [if_neg c8] at H
      have c8b0 : ((rdOf false l0 x13_1) != (rdOf false l1 x13_1)) = false := by simpa using c8
      (try (have c8b1 : decide ((rdOf false l0 x13_1) = (rdOf false l1 x13_1)) = true := by simpa using c8))
      (try (have c8b2 : ((rdOf false l0 x13_1) == (rdOf false l1 x13_1)) = true := by simpa using c8))
      clear c8
      have H' := Aside0.mk H
      clear H
      have p447 : 0 ≤ (x13_1 : Int) := da
      have q447 : x13_1 < (l0.length : Int) := da
      obtain ⟨ad447, e447, hx447_0⟩ := Kd.at_bool HR0.out x13_1 p447 q447
      cases e447
      replace p447 := eq_true p447; replace q447 := eq_true q447
      have p448 : 0 ≤ (x13_1 : Int) := da
      have q448 : x13_1 < (l1.length : Int) := da
      obtain ⟨ad448, e448, hx448_0⟩ := Kd.at_bool HR1.out x13_1 p448 q448
      cases e448
      replace p448 := eq_true p448; replace q448 := eq_true q448; go_wp2
      repeat (go_quiet (fail); try go_wp2)
      go_roundg k1
      case measure => have := HK1.out; omega
      case rel => exact ⟨(wrap64 (x13_1 + 1)), er, H', ⟨by have := HK1.out; omega⟩, drw⟩
    ·rw [if_neg c4] at H
     have c4b0 : decide (x13_1 < (l0.length : Int)) = false := decide_eq_false c4
     clear c4
     obtain rfl := Option.some.inj H
     go_wp2
     repeat (go_quiet (fail); try go_wp2)
     go_ret
     exact ⟨er, drw⟩
 ·rw [if_neg c3] at H
  have c3b0 : ((l0.length : Int) == (l1.length : Int)) = false := beq_eq_false_iff_ne.mpr c3
  have c3b1 : ((l0.length : Int) != (l1.length : Int)) = true := bne_iff_ne.mpr c3
  have c3b2 : (l0.length == l1.length) = false := by first | simpa using c3 | (simp at c3 ⊢; omega)
  obtain rfl := Option.some.inj H
  go_enter Try.func30, Try.ntmps30
  go_wp2
  repeat (go_quiet (fail); try go_wp2)
  go_ret
  exact ⟨er, drw⟩

/-! ### laws_sameInts: function 61 -/
def laws_sameInts.l0 : Nat → List Int → List Int → Int → Int → Option (Bool)
  | 0, _, _, _, _ => none
  | k + 1, x0, x1, x12, x13 => if x13 < x12 then (if 0 ≤ x13 then (if x13 < (x0.length : Int) then (if x13 < (x1.length : Int) then (if (rd x0 x13) = (rd x1 x13) then (laws_sameInts.l0 k x0 x1 x12 (wrap64 (x13 + 1))) else (some false)) else (none)) else (none)) else (none)) else (some true)
def laws_sameInts.f (k : Nat) (l0 : List Int) (l1 : List Int) : Option (Bool) := if (l0.length : Int) = (l1.length : Int) then (laws_sameInts.l0 k l0 l1 (l0.length : Int) 0) else (some false)
theorem laws_sameInts.mono_l : ∀ k, (∀ y0 y1 y2 y3, LeO (laws_sameInts.l0 k y0 y1 y2 y3) (laws_sameInts.l0 (k + 1) y0 y1 y2 y3))
 | 0 => fun _ _ _ _ r h => by simp [laws_sameInts.l0] at h
 | k + 1 => by
  have ih0 := laws_sameInts.mono_l k
  ·intro y0 y1 y2 y3
   unfold laws_sameInts.l0
   repeat' (first | (with_reducible first | exact ih0 _ _ _ _ | exact LeO.refl _ | exact LeO.none _ | refine LeO.ite ?_ ?_ | refine LeO.bind ?_ (fun _ => ?_)) | exact ih0 _ _ _ _ | exact LeO.none _ | refine LeO.ite ?_ ?_ | refine LeO.bind ?_ (fun _ => ?_))
theorem laws_sameInts.mono : ∀ a0 a1 k, LeO (laws_sameInts.f k a0 a1) (laws_sameInts.f (k + 1) a0 a1) := by
 intro a0 a1 k
 have ih0 := laws_sameInts.mono_l k
 unfold laws_sameInts.f
 repeat' (first | (with_reducible first | exact ih0 _ _ _ _ | exact LeO.refl _ | exact LeO.none _ | refine LeO.ite ?_ ?_ | refine LeO.bind ?_ (fun _ => ?_)) | exact ih0 _ _ _ _ | exact LeO.none _ | refine LeO.ite ?_ ?_ | refine LeO.bind ?_ (fun _ => ?_))
set_option maxHeartbeats 8000000 in
set_option maxRecDepth 100000 in
theorem laws_sameInts.calls (k : Nat) (A0 : Option Addr) (c0 : Nat) (l0 : List Int) (A1 : Option Addr) (c1 : Nat) (l1 : List Int) (r : Bool) (w : World) (hr0 : Kd.C (Kd.int .i64) w A0 l0.length l0) (hc0 : l0.length ≤ c0) (hr1 : Kd.C (Kd.int .i64) w A1 l1.length l1) (hc1 : l1.length ≤ c1) (h : laws_sameInts.f k l0 l1 = some r) :
  Calls Try.prog 61 #[.slice A0 l0.length c0, .slice A1 l1.length c1] w fun e w' => e = .returned (.bool r) ∧ Drawn0 w w' := by
 have HR0 := Aside0.mk hr0; have HC0 := Aside0.mk hc0; clear hr0 hc0; have HR1 := Aside0.mk hr1; have HC1 := Aside0.mk hc1; clear hr1 hc1
 have H : (if (l0.length : Int) = (l1.length : Int) then (laws_sameInts.l0 k l0 l1 (l0.length : Int) 0) else (some false)) = some r := h
 clear h
 by_cases c3 : (l0.length : Int) = (l1.length : Int)
 ·rw [if_pos c3] at H
  have c3b0 : ((l0.length : Int) == (l1.length : Int)) = true := beq_iff_eq.mpr c3
  have c3b1 : ((l0.length : Int) != (l1.length : Int)) = false := bne_eq_false_iff_eq.mpr c3
  have c3b2 : (l0.length == l1.length) = true := by first | simpa using c3 | (simp at c3 ⊢; omega)
  clear c3
  have H' := Aside0.mk H
  clear H
  go_enter Try.func61, Try.ntmps61
  go_wp2
  repeat (go_quiet (fail); try go_wp2)
  go_loopg [13] k (fun kq v13 w' => ∃ (x13_1 : Int), v13 = .int .i64 x13_1 ∧ Aside0 (laws_sameInts.l0 kq l0 l1 (l0.length : Int) x13_1 = some r) ∧ Aside0 (kq ≤ k) ∧ Drawn0 w w')
  case atStart => exact ⟨(0), er, H', ⟨Nat.le_refl _⟩, drw⟩
  case round =>
   clear H'
   (try clear c1); (try clear c3b0); (try clear c3b1); (try clear c3b2)
   obtain ⟨x13_1, rfl, HA, HK1, ⟨m1, rfl⟩⟩ := hrel
   cases gk with
   | zero => exact absurd HA.out (by simp [laws_sameInts.l0])
   | succ k1 =>
    have H := HA.out; clear HA
    simp only [laws_sameInts.l0] at H
    by_cases c4 : x13_1 < (l0.length : Int)
    ·rw [if_pos c4] at H
     have c4b0 : decide (x13_1 < (l0.length : Int)) = true := decide_eq_true c4
     clear c4; replace H := ifS H; obtain ⟨c5, H⟩ := H; have c5b0 := decide_eq_true c5; clear c5; replace H := ifS H; obtain ⟨c6, H⟩ := H; have c6b0 := decide_eq_true c6; clear c6; replace H := ifS H; obtain ⟨c7, H⟩ := H; have c7b0 := decide_eq_true c7; clear c7
     by_cases c8 : (rd l0 x13_1) = (rd l1 x13_1)
     ·rw [if_pos c8] at H
      have c8b0 : ((rd l0 x13_1) == (rd l1 x13_1)) = true := beq_iff_eq.mpr c8
      have c8b1 : ((rd l0 x13_1) != (rd l1 x13_1)) = false := bne_eq_false_iff_eq.mpr c8
      clear c8
      have H' := Aside0.mk H
      clear H
      have p449 : 0 ≤ (x13_1 : Int) := da
      have q449 : x13_1 < (l0.length : Int) := da
      obtain ⟨ad449, e449, hx449_0⟩ := Kd.at_int HR0.out x13_1 p449 q449
      cases e449
      replace p449 := eq_true p449; replace q449 := eq_true q449
      have p450 : 0 ≤ (x13_1 : Int) := da
      have q450 : x13_1 < (l1.length : Int) := da
      obtain ⟨ad450, e450, hx450_0⟩ := Kd.at_int HR1.out x13_1 p450 q450
      cases e450
      replace p450 := eq_true p450; replace q450 := eq_true q450; go_wp2
      repeat (go_quiet (fail); try go_wp2)
      go_roundg k1
      case measure => have := HK1.out; omega
      case rel => exact ⟨(wrap64 (x13_1 + 1)), er, H', ⟨by have := HK1.out; omega⟩, drw⟩
     ·rw [if_neg c8] at H
      have c8b0 : ((rd l0 x13_1) == (rd l1 x13_1)) = false := beq_eq_false_iff_ne.mpr c8
      have c8b1 : ((rd l0 x13_1) != (rd l1 x13_1)) = true := bne_iff_ne.mpr c8
      obtain rfl := Option.some.inj H
      have p449 : 0 ≤ (x13_1 : Int) := da
      have q449 : x13_1 < (l0.length : Int) := da
      obtain ⟨ad449, e449, hx449_0⟩ := Kd.at_int HR0.out x13_1 p449 q449
      cases e449
      replace p449 := eq_true p449; replace q449 := eq_true q449
      have p450 : 0 ≤ (x13_1 : Int) := da
      have q450 : x13_1 < (l1.length : Int) := da
      obtain ⟨ad450, e450, hx450_0⟩ := Kd.at_int HR1.out x13_1 p450 q450
      cases e450
      replace p450 := eq_true p450; replace q450 := eq_true q450; go_wp2
      repeat (go_quiet (fail); try go_wp2)
      go_ret
      exact ⟨er, drw⟩
    ·rw [if_neg c4] at H
     have c4b0 : decide (x13_1 < (l0.length : Int)) = false := decide_eq_false c4
     clear c4
     obtain rfl := Option.some.inj H
     go_wp2
     repeat (go_quiet (fail); try go_wp2)
     go_ret
     exact ⟨er, drw⟩
 ·rw [if_neg c3] at H
  have c3b0 : ((l0.length : Int) == (l1.length : Int)) = false := beq_eq_false_iff_ne.mpr c3
  have c3b1 : ((l0.length : Int) != (l1.length : Int)) = true := bne_iff_ne.mpr c3
  have c3b2 : (l0.length == l1.length) = false := by first | simpa using c3 | (simp at c3 ⊢; omega)
  obtain rfl := Option.some.inj H
  go_enter Try.func61, Try.ntmps61
  go_wp2
  repeat (go_quiet (fail); try go_wp2)
  go_ret
  exact ⟨er, drw⟩

end Go.Proofs.Ytkgogglnipdcfaa.QFnBoard
