-- printed by this session's own program (wip/tools/pp.py: the kit's print.py with changes); Lean checks it
import Derived.Test.YtbgoddobpdcjbaaQFnExactNewNetx0
import Derived.Test.YtbgoddobpdcjbaaQFnExactNewNetx1
namespace Go.Proofs.Ytbgoddobpdcjbaa.QFnExactNewNet
open Go.RowKit Go.Proofs.YtbgoddobpdcjbaaW.PrintWords Go.Proofs.YtbgoddobpdcjbaaW.PrintLast Go.Proofs.YtbgoddobpdcjbaaW.PrintMore
attribute [local go_sem] max2_int min2_int max_two min_two max_three min_three max_four min_four strLss strGtr strLeq strGeq   -- for this text's walks alone
set_option linter.unusedVariables false
set_option linter.unusedSimpArgs false

/-! ### rows that are all nil: spec.NewNet (4), impl.NewNet (6) -/
/-- A made row of rows: nothing but its own block. -/
def NnS (W : World) (B g : Nat) (x : Value) (n : Nat) : Prop := Kd.S (Kd.slice 9 Kd.string) 39 W B (fun k_ => k_ = g) x (List.replicate n []) ∧ g < W.heap.size
theorem NnS.step {W W1 : World} {B g : Nat} {x : Value} {n : Nat} (h : NnS W B g x n) (hb : Below W.heap.size W W1) : NnS W1 B g x n := ⟨Kd.S_below h.1 hb, Nat.lt_of_lt_of_le h.2 hb.size⟩
/-- What has come up (the Bools) is as it should be. -/
structure NnF (w0 W : World) (gr : Nat) (l0 : List Int) (b0 b2 b5 b8 b9 b10 b11 : Bool) (x4 x5 x7 x10 x13 x14 x15 : Value) (g5 g8 g9 gx : Nat) : Prop where
  below : Below w0.heap.size w0 W
  hgr : W.heap[gr]? = some (.cells #[.slice none 0 0, .slice none 0 0, .slice none 0 0, .slice none 0 0, .int .i64 0] 25 (0, 0))
  h0 : b0 = true → b2 = false → Kd.R (Kd.int .i64) 3 W w0.heap.size (fun _ => True) x5 []
  h2 : b2 = true → Kd.R (Kd.int .i64) 3 W w0.heap.size (fun _ => True) x7 l0
  h5 : b5 = true → NnS W w0.heap.size g5 x10 l0.length
  h8 : b8 = true → NnS W w0.heap.size g8 x13 l0.length
  h9 : b9 = true → NnS W w0.heap.size g9 x14 4
  h10 : b10 = true → (b2 = true ∧ b5 = true ∧ b8 = true ∧ b9 = true) ∧ x15 = .agg #[x7, x10, x13, x14, .int .i64 0]
  h11 : b11 = true → x4 = .pointer (some ⟨gx, 0, none⟩) ∧ W.heap[gx]? = some (.cells #[.slice none 0 0, .slice none 0 0, .slice none 0 0, .slice none 0 0, .int .i64 0] 25 (0, 0)) ∧ w0.heap.size ≤ gx ∧ gx ≠ gr
  n58 : b5 = true → b8 = true → g5 ≠ g8
  n59 : b5 = true → b9 = true → g5 ≠ g9
  n89 : b8 = true → b9 = true → g8 ≠ g9
section
variable {w0 W W1 : World} {gr : Nat} {l0 : List Int} {b0 b2 b5 b8 b9 b10 b11 : Bool} {x4 x5 x7 x10 x13 x14 x15 v : Value} {g5 g8 g9 gx : Nat}
theorem NnF.step (h : NnF w0 W gr l0 b0 b2 b5 b8 b9 b10 b11 x4 x5 x7 x10 x13 x14 x15 g5 g8 g9 gx) (hb : Below W.heap.size W W1) : NnF w0 W1 gr l0 b0 b2 b5 b8 b9 b10 b11 x4 x5 x7 x10 x13 x14 x15 g5 g8 g9 gx :=
  ⟨below_step h.below hb, blk_below h.hgr hb, fun a b => Kd.R_below (h.h0 a b) hb, fun a => Kd.R_below (h.h2 a) hb, fun a => (h.h5 a).step hb, fun a => (h.h8 a).step hb, fun a => (h.h9 a).step hb, h.h10, fun a => ⟨(h.h11 a).1, blk_below (h.h11 a).2.1 hb, (h.h11 a).2.2⟩, h.n58, h.n59, h.n89⟩
theorem NnF.set0 (h : NnF w0 W gr l0 false b2 b5 b8 b9 b10 b11 x4 x5 x7 x10 x13 x14 x15 g5 g8 g9 gx) (hu : Kd.R (Kd.int .i64) 3 W1 W.heap.size (fun _ => True) v []) (hb : Below W.heap.size W W1) : NnF w0 W1 gr l0 true b2 b5 b8 b9 b10 b11 x4 v x7 x10 x13 x14 x15 g5 g8 g9 gx :=
  have h' := h.step hb
  ⟨h'.below, h'.hgr, fun _ _ => Kd.R_lower hu h.below.size, h'.h2, h'.h5, h'.h8, h'.h9, h'.h10, h'.h11, h'.n58, h'.n59, h'.n89⟩
theorem NnF.set2 (h : NnF w0 W gr l0 true false b5 b8 b9 b10 b11 x4 x5 x7 x10 x13 x14 x15 g5 g8 g9 gx) (hu : Kd.R (Kd.int .i64) 3 W1 w0.heap.size (fun _ => True) v l0) (hb : Below w0.heap.size w0 W1) (hg : W.grownBy W1 x5.ownBlock) : NnF w0 W1 gr l0 true true b5 b8 b9 b10 b11 x4 x5 v x10 x13 x14 x15 g5 g8 g9 gx :=
  have hx := h.h0 rfl rfl
  have hS : ∀ {g : Nat} {x : Value} {n : Nat}, NnS W w0.heap.size g x n → NnS W1 w0.heap.size g x n := fun q => ⟨Kd.S_mono (Kd.S_over' q.1 (Kd.R_typed hx) (by decide) hg) (fun _ a => a), Nat.lt_of_lt_of_le q.2 hg.size⟩
  ⟨hb, blk_grown h.hgr hg (Kd.R_ne hx h.hgr (by decide)), fun _ a => (by cases a), fun _ => hu, fun a => hS (h.h5 a), fun a => hS (h.h8 a), fun a => hS (h.h9 a), fun a => absurd (h.h10 a).1.1 (by decide), fun a => ⟨(h.h11 a).1, blk_grown (h.h11 a).2.1 hg (Kd.R_ne hx (h.h11 a).2.1 (by decide)), (h.h11 a).2.2⟩, h.n58, h.n59, h.n89⟩
theorem NnF.setK (h : NnF w0 W gr l0 b0 false b5 b8 b9 b10 b11 x4 x5 x7 x10 x13 x14 x15 g5 g8 g9 gx) (hu : Kd.R (Kd.int .i64) 3 W1 W.heap.size (fun _ => True) v l0) (hb : Below W.heap.size W W1) : NnF w0 W1 gr l0 b0 true b5 b8 b9 b10 b11 x4 x5 v x10 x13 x14 x15 g5 g8 g9 gx :=
  have h' := h.step hb
  ⟨h'.below, h'.hgr, fun _ a => (by cases a), fun _ => Kd.R_lower hu h.below.size, h'.h5, h'.h8, h'.h9, fun a => absurd (h.h10 a).1.1 (by decide), h'.h11, h'.n58, h'.n59, h'.n89⟩
theorem NnS.fresh {n : Nat} (hu : Kd.S (Kd.slice 9 Kd.string) 39 W1 W.heap.size (fun k_ => k_ = W.heap.size) v (List.replicate n [])) (h : Below w0.heap.size w0 W) (hb : Below W.heap.size W W1) (ho : ∃ b, v.ownBlock = some b ∧ W.heap.size ≤ b) : NnS W1 w0.heap.size W.heap.size v n := by
  refine ⟨Kd.S_lower hu h.size, ?_⟩
  obtain ⟨b, h1, h2⟩ := ho
  have := Kd.S_lt hu b h1
  omega
theorem NnF.set5 (h : NnF w0 W gr l0 b0 b2 false b8 b9 b10 b11 x4 x5 x7 x10 x13 x14 x15 g5 g8 g9 gx) (hu : Kd.S (Kd.slice 9 Kd.string) 39 W1 W.heap.size (fun k_ => k_ = W.heap.size) v (List.replicate l0.length [])) (hb : Below W.heap.size W W1) (ho : ∃ b, v.ownBlock = some b ∧ W.heap.size ≤ b) : NnF w0 W1 gr l0 b0 b2 true b8 b9 b10 b11 x4 x5 x7 v x13 x14 x15 W.heap.size g8 g9 gx :=
  have h' := h.step hb
  ⟨h'.below, h'.hgr, h'.h0, h'.h2, fun _ => NnS.fresh hu h.below hb ho, h'.h8, h'.h9, fun a => absurd (h.h10 a).1.2.1 (by decide), h'.h11, fun _ a => Nat.ne_of_gt (h.h8 a).2, fun _ a => Nat.ne_of_gt (h.h9 a).2, h'.n89⟩
theorem NnF.set8 (h : NnF w0 W gr l0 b0 b2 b5 false b9 b10 b11 x4 x5 x7 x10 x13 x14 x15 g5 g8 g9 gx) (hu : Kd.S (Kd.slice 9 Kd.string) 39 W1 W.heap.size (fun k_ => k_ = W.heap.size) v (List.replicate l0.length [])) (hb : Below W.heap.size W W1) (ho : ∃ b, v.ownBlock = some b ∧ W.heap.size ≤ b) : NnF w0 W1 gr l0 b0 b2 b5 true b9 b10 b11 x4 x5 x7 x10 v x14 x15 g5 W.heap.size g9 gx :=
  have h' := h.step hb
  ⟨h'.below, h'.hgr, h'.h0, h'.h2, h'.h5, fun _ => NnS.fresh hu h.below hb ho, h'.h9, fun a => absurd (h.h10 a).1.2.2.1 (by decide), h'.h11, fun a _ => Nat.ne_of_lt (h.h5 a).2, h'.n59, fun _ a => Nat.ne_of_gt (h.h9 a).2⟩
theorem NnF.set9 (h : NnF w0 W gr l0 b0 b2 b5 b8 false b10 b11 x4 x5 x7 x10 x13 x14 x15 g5 g8 g9 gx) (hu : Kd.S (Kd.slice 9 Kd.string) 39 W1 W.heap.size (fun k_ => k_ = W.heap.size) v (List.replicate 4 [])) (hb : Below W.heap.size W W1) (ho : ∃ b, v.ownBlock = some b ∧ W.heap.size ≤ b) : NnF w0 W1 gr l0 b0 b2 b5 b8 true b10 b11 x4 x5 x7 x10 x13 v x15 g5 g8 W.heap.size gx :=
  have h' := h.step hb
  ⟨h'.below, h'.hgr, h'.h0, h'.h2, h'.h5, h'.h8, fun _ => NnS.fresh hu h.below hb ho, fun a => absurd (h.h10 a).1.2.2.2 (by decide), h'.h11, h'.n58, fun a _ => Nat.ne_of_lt (h.h5 a).2, fun a _ => Nat.ne_of_lt (h.h8 a).2⟩
theorem NnF.set10 (h : NnF w0 W gr l0 b0 true true true true false b11 x4 x5 x7 x10 x13 x14 x15 g5 g8 g9 gx) : NnF w0 W gr l0 b0 true true true true true b11 x4 x5 x7 x10 x13 x14 (.agg #[x7, x10, x13, x14, .int .i64 0]) g5 g8 g9 gx :=
  ⟨h.below, h.hgr, h.h0, h.h2, h.h5, h.h8, h.h9, fun _ => ⟨⟨rfl, rfl, rfl, rfl⟩, rfl⟩, h.h11, h.n58, h.n59, h.n89⟩
theorem NnF.set11 (h : NnF w0 W gr l0 b0 b2 b5 b8 b9 b10 false x4 x5 x7 x10 x13 x14 x15 g5 g8 g9 gx) {g : Nat} (hg : g = W.heap.size) (hu : W1.heap[g]? = some (.cells #[.slice none 0 0, .slice none 0 0, .slice none 0 0, .slice none 0 0, .int .i64 0] 25 (0, 0))) (hb : Below W.heap.size W W1) : NnF w0 W1 gr l0 b0 b2 b5 b8 b9 b10 true (.pointer (some ⟨g, 0, none⟩)) x5 x7 x10 x13 x14 x15 g5 g8 g9 g :=
  have h' := h.step hb
  ⟨h'.below, h'.hgr, h'.h0, h'.h2, h'.h5, h'.h8, h'.h9, h'.h10, fun _ => ⟨rfl, hu, hg ▸ h.below.size, by rw [hg]; exact Nat.ne_of_gt (blk_lt h.hgr)⟩, h'.n58, h'.n59, h'.n89⟩
end
section
variable {ops : Array Oper} {Q : Exit → Act → World → Prop} {oi : Oper} {a : Act} {W : World} {K : Act → World → Prop}
theorem nn_make {N : Tmp} (hw : Region.wanted oi (yielded ops a.tmps) = true) (hd : oi.dst = some N) (x : Operand) (ho : oi.op = .makeSlice 23 x x) (n : Nat) (hn : n ≤ 1048576) (hx : a.eval x = .int .i64 (n : Int))
    (h : ∀ v W1, Kd.S (Kd.slice 9 Kd.string) 39 W1 W.heap.size (fun k_ => k_ = W.heap.size) v (List.replicate n []) → Below W.heap.size W W1 → (∃ b, v.ownBlock = some b ∧ W.heap.size ≤ b) → K (a.put (some N) v) W1) :
    if Region.wanted oi (yielded ops a.tmps) = true then Oper.wp Try.prog oi a W K Q else K (a.put (some N) undef) W := by
  rw [← hd] at h ⊢
  exact Kd.S_make_step (Kd.slice 9 Kd.string) _ 39 hw hd 23 x x ho (n : Int) hx hx Try.underlying23 (.slice none 0 0) 24 info39 rfl (by decide) (by omega) [] (ok := fun k_ => k_ = W.heap.size) (okp := fun k_ => k_ = W.heap.size) ⟨_, rfl, Kd.R_nil _ _ _ _ _⟩ (fun _ hk => hk) rfl (Int.natCast_nonneg n) (by rw [Int.toNat_natCast]; omega) (Below.refl _ _) (Nat.le_refl _) (fun v W1 h1 h2 _ h4 => h v W1 (by rw [Int.toNat_natCast] at h1; exact h1) h2 h4)
end
abbrev nst5 (W : World) (g : Nat) (a0 a1 a2 a3 a4 : Value) : World := ((((W.setCell ⟨g, 0, none⟩ a0).setCell ⟨g, 1, none⟩ a1).setCell ⟨g, 2, none⟩ a2).setCell ⟨g, 3, none⟩ a3).setCell ⟨g, 4, none⟩ a4
theorem nst5_blk {W : World} {g : Nat} {t : TypeId} {z0 z1 z2 z3 z4 : Value} (h : W.heap[g]? = some (.cells #[z0, z1, z2, z3, z4] t (0, 0))) (a0 a1 a2 a3 a4 : Value) : (nst5 W g a0 a1 a2 a3 a4).heap[g]? = some (.cells #[a0, a1, a2, a3, a4] t (0, 0)) :=
  blk_put (blk_put (blk_put (blk_put (blk_put h 0 a0 rfl) 1 a1 rfl) 2 a2 rfl) 3 a3 rfl) 4 a4 rfl
theorem nst5_far (W : World) (g : Nat) (a0 a1 a2 a3 a4 : Value) (k : Nat) (hk : k ≠ g) : (nst5 W g a0 a1 a2 a3 a4).heap[k]? = W.heap[k]? :=
  (Below.heap_setCell _ ⟨g, 4, none⟩ _ k hk).trans ((Below.heap_setCell _ ⟨g, 3, none⟩ _ k hk).trans ((Below.heap_setCell _ ⟨g, 2, none⟩ _ k hk).trans ((Below.heap_setCell _ ⟨g, 1, none⟩ _ k hk).trans (Below.heap_setCell _ ⟨g, 0, none⟩ _ k hk))))
theorem nst5_below {w W : World} {g : Nat} (h : Below w.heap.size w W) (hg : w.heap.size ≤ g) (a0 a1 a2 a3 a4 : Value) : Below w.heap.size w (nst5 W g a0 a1 a2 a3 a4) := below_set (below_set (below_set (below_set (below_set h hg) hg) hg) hg) hg
theorem nst5_size (W : World) (g : Nat) (a0 a1 a2 a3 a4 : Value) : (nst5 W g a0 a1 a2 a3 a4).heap.size = W.heap.size := by simp only [nst5, World.size_setCell]
/-- A made row of rows behind a store into a net's block. -/
theorem NnS.far {W : World} {B g gx : Nat} {x : Value} {n : Nat} {cs : Array Value} (h : NnS W B g x n) (hb : W.heap[gx]? = some (.cells cs 25 (0, 0))) (a0 a1 a2 a3 a4 : Value) : NnS (nst5 W gx a0 a1 a2 a3 a4) B g x n :=
  ⟨Kd.S_mono (Kd.S_step (Kd.S_types h.1 hb (by decide)) (fun k hk _ => nst5_far W gx _ _ _ _ _ k hk.2)) (fun _ hk => hk.1), by rw [nst5_size]; exact h.2⟩
theorem nn_rfar {W : World} {B gx : Nat} {x : Value} {l : List Int} {cs : Array Value} (h : Kd.R (Kd.int .i64) 3 W B (fun _ => True) x l) (hb : W.heap[gx]? = some (.cells cs 25 (0, 0))) (a0 a1 a2 a3 a4 : Value) : Kd.R (Kd.int .i64) 3 (nst5 W gx a0 a1 a2 a3 a4) B (fun _ => True) x l :=
  Kd.R_mono (Kd.R_step (Kd.R_types h hb (by decide)) (fun k hk _ => nst5_far W gx _ _ _ _ _ k hk.2)) (fun _ _ => trivial)
theorem nn_pure {P : Program} {ops : Array Oper} {Q : Exit → Act → World → Prop} {oi : Oper} {a : Act} {W : World} {K : Act → World → Prop} {N : Option Tmp} {v : Value} (hw : Region.wanted oi (yielded ops a.tmps) = true) (hy : ∀ w, (execOp a.eval oi).run P w = .ok (.value v) w) (h : K (a.put oi.dst v) W) : if Region.wanted oi (yielded ops a.tmps) = true then Oper.wp P oi a W K Q else K (a.put N undef) W := by
  rw [if_pos hw]
  unfold Oper.wp
  rw [hy]
  exact h
/-- A net that has just been made: nothing is shared. -/
def NnPost (w : World) (r1 : List Int) (r2 r3 r4 : List (List ByteArray)) (b : Bool) (e : Ending) (w' : World) : Prop := ∃ (v0_ v1_ v2_ v3_ : Value) (g1 g2 g3 : Nat), e = .returned (.tuple #[.agg #[v0_, v1_, v2_, v3_, .int .i64 0], .bool b]) ∧ Kd.R (Kd.int .i64) 3 w' w.heap.size (fun _ => True) v0_ r1 ∧ Kd.S (Kd.slice 9 Kd.string) 39 w' w.heap.size (fun k_ => k_ = g1) v1_ r2 ∧ Kd.S (Kd.slice 9 Kd.string) 39 w' w.heap.size (fun k_ => k_ = g2) v2_ r3 ∧ Kd.S (Kd.slice 9 Kd.string) 39 w' w.heap.size (fun k_ => k_ = g3) v3_ r4 ∧ (g1 ≠ g2 ∧ g1 ≠ g3 ∧ g2 ≠ g3) ∧ Below w.heap.size w w'
theorem nn_ne {d : Kd (List ByteArray)} {e : Nat} {w : World} {base g1 g2 : Nat} {v : Value} {xs : List (List ByteArray)} (h : Kd.S d e w base (fun k_ => k_ = g2) v xs) (hn : g1 ≠ g2) : some g1 ≠ v.ownBlock := fun e => hn (by obtain ⟨f, h0, _⟩ := h; exact (h0 _ e.symm))
theorem nn_post {w : World} {r1 : List Int} {r2 r3 r4 : List (List ByteArray)} {b : Bool} {e : Ending} {w' : World} (h : NnPost w r1 r2 r3 r4 b e w') : ∃ v0_ v1_ v2_ v3_ : Value, e = .returned (.tuple #[.agg #[v0_, v1_, v2_, v3_, .int .i64 0], .bool b]) ∧ Kd.R (Kd.int .i64) 3 w' w.heap.size (fun _ => True) v0_ r1 ∧ Kd.S (Kd.slice 9 Kd.string) 39 w' w.heap.size (fun k_ => some k_ ≠ (v2_ : Value).ownBlock ∧ some k_ ≠ (v3_ : Value).ownBlock) v1_ r2 ∧ Kd.S (Kd.slice 9 Kd.string) 39 w' w.heap.size (fun k_ => some k_ ≠ (v1_ : Value).ownBlock ∧ some k_ ≠ (v3_ : Value).ownBlock) v2_ r3 ∧ Kd.S (Kd.slice 9 Kd.string) 39 w' w.heap.size (fun k_ => some k_ ≠ (v1_ : Value).ownBlock ∧ some k_ ≠ (v2_ : Value).ownBlock) v3_ r4 ∧ Below w.heap.size w w' := by
 obtain ⟨v0, v1, v2, v3, g1, g2, g3, he, h0, h1, h2, h3, ⟨n1, n2, n3⟩, hb⟩ := h
 exact ⟨v0, v1, v2, v3, he, h0, Kd.S_mono h1 (fun k hk => by subst hk; exact ⟨nn_ne h2 n1, nn_ne h3 n2⟩), Kd.S_mono h2 (fun k hk => by subst hk; exact ⟨nn_ne h1 (Ne.symm n1), nn_ne h3 n3⟩), Kd.S_mono h3 (fun k hk => by subst hk; exact ⟨nn_ne h1 (Ne.symm n2), nn_ne h2 (Ne.symm n3)⟩), hb⟩
/-! ### spec_NewNet: function 4 -/
def nnA4 (A0 : Option Addr) (c0 : Nat) (l0 : List Int) (gr : Nat) (x4 x5 x7 x10 x13 x14 x15 : Value) : Act := { tmps := #[.slice A0 l0.length c0, undef, .pointer (some ⟨gr, 0, none⟩), .bool false, x4, x5, .slice A0 l0.length c0, x7, .slice A0 l0.length c0, .int .i64 (l0.length : Int), x10, .slice A0 l0.length c0, .int .i64 (l0.length : Int), x13, x14, x15, undef, undef, undef, undef, undef], defers := [] }
def spec_NewNet.T1 : Bool × List (List Nat × List Nat) := (true, [([], []), ([], []), ([0, 1], [0, 1]), ([], []), ([3], [3]), ([4, 4], [4]), ([], []), ([6], [6]), ([7, 7], [7]), ([], []), ([2, 5, 8, 9], [2, 5, 8, 9]), ([], []), ([11, 10, 2, 0, 1, 2, 3, 4, 5, 6, 7, 8, 9, 10, 11], [10, 11])])
def spec_NewNet.B1 : List Nat := [0, 0, 3, 0, 8, 24, 0, 64, 192, 0, 1023, 0, 4095]
theorem spec_NewNet.tab1 : rtab .any (opsOf Try.f4 1) = spec_NewNet.T1 := by kernel_rfl
theorem spec_NewNet.bits1 : waitsOk spec_NewNet.T1.2 spec_NewNet.B1 = true := by kernel_rfl
def spec_NewNet.f (k : Nat) (l0 : List Int) : Option (List Int × List (List ByteArray) × List (List ByteArray) × List (List ByteArray) × Int × Bool) := if l0.length ≤ 1048576 then (spec_GoodNet.f k l0 (List.replicate l0.length []) (List.replicate l0.length []) (List.replicate 4 []) 0).bind fun r => some (if r = true then (l0, List.replicate l0.length [], List.replicate l0.length [], List.replicate 4 [], 0, true) else ([], [], [], [], 0, false)) else none
theorem nn_good (k : Nat) (A7 : Option Addr) (c7 : Nat) (l0 : List Int) (A10 : Option Addr) (c10 : Nat) (A13 : Option Addr) (c13 : Nat) (A14 : Option Addr) (c14 : Nat) (r : Bool) (W : World) (h0 : Kd.C (Kd.int .i64) W A7 l0.length l0) (k0 : l0.length ≤ c7) (h1 : Kd.C (Kd.slice 9 Kd.string) W A10 l0.length (List.replicate l0.length [])) (k1 : l0.length ≤ c10) (h2 : Kd.C (Kd.slice 9 Kd.string) W A13 l0.length (List.replicate l0.length [])) (k2 : l0.length ≤ c13) (h3 : Kd.C (Kd.slice 9 Kd.string) W A14 4 (List.replicate 4 [])) (k3 : 4 ≤ c14) (h : spec_GoodNet.f k l0 (List.replicate l0.length []) (List.replicate l0.length []) (List.replicate 4 []) 0 = some r) :
  Calls Try.prog 12 #[.agg #[.slice A7 l0.length c7, .slice A10 l0.length c10, .slice A13 l0.length c13, .slice A14 4 c14, .int .i64 0]] W fun e w' => e = .returned (.bool r) ∧ Below W.heap.size W w' := by
 have h' := spec_GoodNet.calls k A7 c7 l0 A10 c10 (List.replicate l0.length []) A13 c13 (List.replicate l0.length []) A14 c14 (List.replicate 4 []) 0 r W h0 k0 (by rw [List.length_replicate]; exact h1) (by rw [List.length_replicate]; exact k1) (by rw [List.length_replicate]; exact h2) (by rw [List.length_replicate]; exact k2) (by rw [List.length_replicate]; exact h3) (by rw [List.length_replicate]; exact k3) h
 rw [List.length_replicate, List.length_replicate] at h'
 exact h'
set_option maxHeartbeats 16000000 in
set_option maxRecDepth 100000 in
theorem spec_NewNet.calls0 (k : Nat) (A0 : Option Addr) (c0 : Nat) (l0 : List Int) (r : Bool) (w : World) (hr0 : Kd.C (Kd.int .i64) w A0 l0.length l0) (hc0 : l0.length ≤ c0) (hn : l0.length ≤ 1048576) (h : spec_GoodNet.f k l0 (List.replicate l0.length []) (List.replicate l0.length []) (List.replicate 4 []) 0 = some r) :
  Calls Try.prog 4 #[.slice A0 l0.length c0] w (NnPost w (if r = true then l0 else []) (if r = true then List.replicate l0.length [] else []) (if r = true then List.replicate l0.length [] else []) (if r = true then List.replicate 4 [] else []) r) := by
 have hu25 := Try.underlying25
 have HR0 := Aside0.mk hr0; have HC0 := Aside0.mk hc0; have HN := Aside0.mk hn; have HG := Aside0.mk h; clear hr0 hc0 hn h
 obtain ⟨q1, hq1⟩ : ∃ q, q = (if r = true then l0 else []) := ⟨_, rfl⟩
 obtain ⟨q2, hq2⟩ : ∃ q, q = (if r = true then List.replicate l0.length ([] : List ByteArray) else []) := ⟨_, rfl⟩
 obtain ⟨q3, hq3⟩ : ∃ q, q = (if r = true then List.replicate 4 ([] : List ByteArray) else []) := ⟨_, rfl⟩
 rw [← hq1, ← hq2, ← hq3]; have Q1 := ak hq1; have Q2 := ak hq2; have Q3 := ak hq3; clear hq1 hq2 hq3
 have HB := Aside0.mk (Below.refl w.heap.size w)
 go_enter Try.func4, Try.ntmps4
 try go_wp2_with (first | ((with_reducible refine gate_dst (N := 2) rfl ?_); refine boxev 2 #[.slice none 0 0, .slice none 0 0, .slice none 0 0, .slice none 0 0, .int .i64 0] 25 ?_; intro gr hg w8 hbox hb; have BR := ak hbox; have GR := ak (hgl hg (belowd HB)); replace HB := ak (below_step (belowd HB) hb); clear hb hbox hg))
 replace BR := ak (blk_drew BR.out)
 replace HB := ak (below_drew1 HB.out)
 refine start_ (n := 13) (S := fun w' => True) (ds := []) (bl 13 0) (by kernel_rfl) rfl rfl trivial (fun hHeld => ?_); refine with_tabW spec_NewNet.tab1 spec_NewNet.bits1 (fun HT_ HW_ => ?_)
 generalize w8.drew = w9 at BR HB hHeld ⊢
 refine pureA 1 (some 6) 13 2 HT_ ?_
 refine pureA 3 (some 8) 13 10 HT_ ?_
 refine pureA 4 (some 9) 13 26 HT_ ?_
 refine pureA 6 (some 11) 13 90 HT_ ?_
 refine pureA 7 (some 12) 13 218 HT_ ?_
 clear hHeld HW_
 refine makers_ [0, 2, 5, 8, 9, 10, 11] (bl 13 4095) (fuel := 1) (fun s a W => ∃ x4 x5 x7 x10 x13 x14 x15 : Value, ∃ g5 g8 g9 gx : Nat, a = nnA4 A0 c0 l0 gr x4 x5 x7 x10 x13 x14 x15 ∧ NnF w W gr l0 (s 0) (s 2) (s 5) (s 8) (s 9) (s 10) (s 11) x4 x5 x7 x10 x13 x14 x15 g5 g8 g9 gx) ⟨undef, undef, undef, undef, undef, undef, undef, 0, 0, 0, 0, by simp only [nnA4], HB.out, BR.out, fun a => (by cases a), fun a => (by cases a), fun a => (by cases a), fun a => (by cases a), fun a => (by cases a), fun a => (by cases a), fun a => (by cases a), fun a => (by cases a), fun a => (by cases a), fun a => (by cases a)⟩ trivial ⟨?_, ?_, ?_, ?_, ?_, ?_, ?_, trivial⟩ ?_
 ·refine mk1 (some 5) (fun s a W hI hs hd K hK => ?_)
  obtain ⟨x4, x5, x7, x10, x13, x14, x15, g5, g8, g9, gx, rfl, F⟩ := hI
  rw [hs] at F
  unfold nnA4
  refine Kd.R_lit_step (Kd.int .i64) _ 3 ?hg (N := 5) ?hd (xs := ([] : List Int)) (inner := []) (ok := fun _ => True) (okp := fun _ => True) ?hr ?hp (fun _ hk => hk) trivial (Below.refl _ _) (Nat.le_refl _) (by simp) ?_; (case hd => rfl); (case hg => rfl); (case hr => first | (go_simp; done) | (go_simp; rfl)); (case hp => exact (Reps.none _ _))
  intro v W1 ho hb _ _
  exact hK.out _ _ trivial ⟨x4, v, x7, x10, x13, x14, x15, g5, g8, g9, gx, by show Act.put _ (some 5) _ = _; simp only [nnA4, Act.put, List.setIfInBounds_toArray, List.set_cons_zero, List.set_cons_succ], by simpa only [hs, hs, beq_self_eq_true, Bool.true_or, Bool.false_or, Nat.reduceBEq] using F.set0 ho hb⟩
 ·refine mk1 (some 7) (fun s a W hI hs hd K hK => ?_)
  obtain ⟨x4, x5, x7, x10, x13, x14, x15, g5, g8, g9, gx, rfl, F⟩ := hI
  rw [hs] at F
  have q0 : s 0 = true := hd ⟨0, .data⟩ (by simp) rfl
  rw [q0] at F
  unfold nnA4
  refine Kd.R_append_rows_step (Kd.int .i64) (w0 := w) w.heap.size (by rfl) (.tmp 5) (.tmp 6) 22 3 (.int .i64 0) 8 rfl Try.underlying22 info3 rfl (by decide) (by omega) x5 [] l0 _ _ _ (fun _ => True) (fun _ => False) rfl rfl (F.h0 rfl rfl) ?aR (fun _ _ h => h) (fun _ h => h.elim) (fun _ _ => trivial) F.below F.below.size ?aL ?_
  (case aR => exact cd (Kd.C_below HR0.out F.below))
  (case aL => have := HN.out; simp only [List.length_nil]; omega)
  intro v W1 ho hb hg _
  rw [List.nil_append] at ho
  exact hK.out _ _ trivial ⟨x4, x5, v, x10, x13, x14, x15, g5, g8, g9, gx, by show Act.put _ (some 7) _ = _; simp only [nnA4, Act.put, List.setIfInBounds_toArray, List.set_cons_zero, List.set_cons_succ], by simpa only [q0, hs, beq_self_eq_true, Bool.true_or, Bool.false_or, Nat.reduceBEq] using F.set2 ho hb hg⟩
 ·refine mk1 (some 10) (fun s a W hI hs hd K hK => ?_)
  obtain ⟨x4, x5, x7, x10, x13, x14, x15, g5, g8, g9, gx, rfl, F⟩ := hI
  rw [hs] at F
  unfold nnA4
  refine nn_make (by rfl) rfl _ rfl l0.length HN.out rfl (fun v W1 ho hb hn => ?_)
  exact hK.out _ _ trivial ⟨x4, x5, x7, v, x13, x14, x15, W.heap.size, g8, g9, gx, by show Act.put _ (some 10) _ = _; simp only [nnA4, Act.put, List.setIfInBounds_toArray, List.set_cons_zero, List.set_cons_succ], by simpa only [hs, hs, beq_self_eq_true, Bool.true_or, Bool.false_or, Nat.reduceBEq] using F.set5 ho hb hn⟩
 ·refine mk1 (some 13) (fun s a W hI hs hd K hK => ?_)
  obtain ⟨x4, x5, x7, x10, x13, x14, x15, g5, g8, g9, gx, rfl, F⟩ := hI
  rw [hs] at F
  unfold nnA4
  refine nn_make (by rfl) rfl _ rfl l0.length HN.out rfl (fun v W1 ho hb hn => ?_)
  exact hK.out _ _ trivial ⟨x4, x5, x7, x10, v, x14, x15, g5, W.heap.size, g9, gx, by show Act.put _ (some 13) _ = _; simp only [nnA4, Act.put, List.setIfInBounds_toArray, List.set_cons_zero, List.set_cons_succ], by simpa only [hs, hs, beq_self_eq_true, Bool.true_or, Bool.false_or, Nat.reduceBEq] using F.set8 ho hb hn⟩
 ·refine mk1 (some 14) (fun s a W hI hs hd K hK => ?_)
  obtain ⟨x4, x5, x7, x10, x13, x14, x15, g5, g8, g9, gx, rfl, F⟩ := hI
  rw [hs] at F
  unfold nnA4
  refine nn_make (by rfl) rfl _ rfl 4 (by omega) rfl (fun v W1 ho hb hn => ?_)
  exact hK.out _ _ trivial ⟨x4, x5, x7, x10, x13, v, x15, g5, g8, W.heap.size, gx, by show Act.put _ (some 14) _ = _; simp only [nnA4, Act.put, List.setIfInBounds_toArray, List.set_cons_zero, List.set_cons_succ], by simpa only [hs, hs, beq_self_eq_true, Bool.true_or, Bool.false_or, Nat.reduceBEq] using F.set9 ho hb hn⟩
 ·refine mk1 (some 15) (fun s a W hI hs hd K hK => ?_)
  obtain ⟨x4, x5, x7, x10, x13, x14, x15, g5, g8, g9, gx, rfl, F⟩ := hI
  rw [hs] at F
  have q2 : s 2 = true := hd ⟨2, .data⟩ (by simp) rfl
  have q5 : s 5 = true := hd ⟨5, .data⟩ (by simp) rfl
  have q8 : s 8 = true := hd ⟨8, .data⟩ (by simp) rfl
  have q9 : s 9 = true := hd ⟨9, .data⟩ (by simp) rfl
  rw [q2, q5, q8, q9] at F
  unfold nnA4
  obtain ⟨A7, c7, e7⟩ := Kd.R_slice (F.h2 rfl); subst e7; obtain ⟨A10, c10, e10⟩ := Kd.S_slice (F.h5 rfl).1; subst e10; obtain ⟨A13, c13, e13⟩ := Kd.S_slice (F.h8 rfl).1; subst e13; obtain ⟨A14, c14, e14⟩ := Kd.S_slice (F.h9 rfl).1; subst e14
  refine nn_pure (by rfl) (by intro w'; go_simp; with_reducible rfl) ?_
  exact hK.out _ _ trivial ⟨x4, x5, _, _, _, _, _, g5, g8, g9, gx, by show Act.put _ (some 15) _ = _; simp only [nnA4, Act.put, List.setIfInBounds_toArray, List.set_cons_zero, List.set_cons_succ]; rfl, by simpa only [List.length_replicate, q2, q5, q8, q9, hs, beq_self_eq_true, Bool.true_or, Bool.false_or, Nat.reduceBEq] using F.set10⟩
 ·refine mk1 (some 4) (fun s a W hI hs hd K hK => ?_)
  obtain ⟨x4, x5, x7, x10, x13, x14, x15, g5, g8, g9, gx, rfl, F⟩ := hI
  rw [hs] at F
  unfold nnA4
  refine box_step ?hg (N := 4) ?hd (cs := #[.slice none 0 0, .slice none 0 0, .slice none 0 0, .slice none 0 0, .int .i64 0]) (t := 25) ?hr ?_; (case hd => rfl); (case hg => rfl); (case hr => first | (go_simp; done) | (go_simp; rfl))
  intro g hg W1 ho hb
  exact hK.out _ _ trivial ⟨.pointer (some ⟨g, 0, none⟩), x5, x7, x10, x13, x14, x15, g5, g8, g9, g, by show Act.put _ (some 4) _ = _; simp only [nnA4, Act.put, List.setIfInBounds_toArray, List.set_cons_zero, List.set_cons_succ], by simpa only [hs, hs, beq_self_eq_true, Bool.true_or, Bool.false_or, Nat.reduceBEq] using F.set11 hg ho hb⟩
 clear BR HB
 rintro a W - ⟨x4, x5, x7, x10, x13, x14, x15, g5, g8, g9, gx, rfl, F⟩
 obtain ⟨-, e15⟩ := F.h10 rfl
 obtain ⟨e4, hx, hgx, hxr⟩ := F.h11 rfl
 subst e15; subst e4
 have HX := ak hx; have HE := ak hgx; have HF := ak F
 have K0 := ak (F.h2 rfl); have K1 := ak (F.h5 rfl); have K2 := ak (F.h8 rfl); have K3 := ak (F.h9 rfl)
 have HNE := ak (⟨F.n58 rfl rfl, F.n59 rfl rfl, F.n89 rfl rfl⟩ : g5 ≠ g8 ∧ g5 ≠ g9 ∧ g8 ≠ g9)
 clear F hx hgx
 unfold nnA4
 obtain ⟨A7, c7, e7⟩ := Kd.R_slice K0.out; subst e7; obtain ⟨A10, c10, e10⟩ := Kd.S_slice K1.out.1; subst e10; obtain ⟨A13, c13, e13⟩ := Kd.S_slice K2.out.1; subst e13; obtain ⟨A14, c14, e14⟩ := Kd.S_slice K3.out.1; subst e14
 refine oneA 12 none 13 8191 HT_ (fun K hK => ?_)
 obtain ⟨hz0, hz1, hz2, hz3, hz4, hq0, hq1, hq2, hq3, hq4⟩ := box5 HX
 refine skip_ (w1 := ?_) (by rfl) rfl ?_ ?_
 rotate_left
 ·go_simp
  rfl
 refine hK.out _ _ trivial (fun _ => ?_)
 clear hK K hz0 hz1 hz2 hz3 hz4 hq0 hq1 hq2 hq3 hq4
 refine done_ (done_of HT_.out (by kernel_rfl)) ?_
 clear HT_
 rw [List.length_replicate] at K1 K2; rw [show (List.replicate 4 ([] : List ByteArray)).length = 4 from rfl] at K3
 try simp only [List.length_replicate]
 have HBR := ak ((nst5_far W gx (.slice A7 l0.length c7) (.slice A10 l0.length c10) (.slice A13 l0.length c13) (.slice A14 4 c14) (.int .i64 0) gr (Ne.symm hxr)).trans HF.out.hgr)
 replace HB := ak (nst5_below HF.out.below HE.out (.slice A7 l0.length c7) (.slice A10 l0.length c10) (.slice A13 l0.length c13) (.slice A14 4 c14) (.int .i64 0))
 replace K0 := ak (nn_rfar K0.out HX.out (.slice A7 l0.length c7) (.slice A10 l0.length c10) (.slice A13 l0.length c13) (.slice A14 4 c14) (.int .i64 0))
 replace K1 := ak (NnS.far K1.out HX.out (.slice A7 l0.length c7) (.slice A10 l0.length c10) (.slice A13 l0.length c13) (.slice A14 4 c14) (.int .i64 0))
 replace K2 := ak (NnS.far K2.out HX.out (.slice A7 l0.length c7) (.slice A10 l0.length c10) (.slice A13 l0.length c13) (.slice A14 4 c14) (.int .i64 0))
 replace K3 := ak (NnS.far K3.out HX.out (.slice A7 l0.length c7) (.slice A10 l0.length c10) (.slice A13 l0.length c13) (.slice A14 4 c14) (.int .i64 0))
 replace HX := ak (nst5_blk HX.out (.slice A7 l0.length c7) (.slice A10 l0.length c10) (.slice A13 l0.length c13) (.slice A14 4 c14) (.int .i64 0))
 clear HF
 unfold nst5 at HBR HB K0 K1 K2 K3 HX
 generalize (((((W.setCell ⟨gx, 0, none⟩ (.slice A7 l0.length c7)).setCell ⟨gx, 1, none⟩ (.slice A10 l0.length c10)).setCell ⟨gx, 2, none⟩ (.slice A13 l0.length c13)).setCell ⟨gx, 3, none⟩ (.slice A14 4 c14)).setCell ⟨gx, 4, none⟩ (.int .i64 0)) = W2 at HBR HB K0 K1 K2 K3 HX ⊢
 obtain ⟨hz0, hz1, hz2, hz3, hz4, hq0, hq1, hq2, hq3, hq4⟩ := box5 HX
 have S1 := ak (Kd.S_reads' K1.out.1); have S2 := ak (Kd.S_reads' K2.out.1); have S3 := ak (Kd.S_reads' K3.out.1); have S0 := ak (Kd.R_reads' K0.out)
 rw [List.length_replicate] at S1 S2; rw [show (List.replicate 4 ([] : List ByteArray)).length = 4 from rfl] at S3
 cases r with
 | false =>
  obtain rfl := Q1.out; obtain rfl := Q2.out; obtain rfl := Q3.out; clear Q1 Q2 Q3; rw [if_neg (by decide), if_neg (by decide), if_neg (by decide)]
  go_wp2_with (first | ((with_reducible refine gate_callee (f := 12) rfl ?_); refine goesLa (some 17) rfl Try.func12 #[.agg #[.slice A7 l0.length c7, .slice A10 l0.length c10, .slice A13 l0.length c13, .slice A14 4 c14, .int .i64 0]] rfl ?_; have HC_ := nn_good k A7 c7 l0 A10 c10 A13 c13 A14 c14 _ W2 S0.out.2.2 S0.out.2.1 S1.out.2.2 S1.out.2.1 S2.out.2.2 S2.out.2.1 S3.out.2.2 S3.out.2.1 HG.out; (with_reducible refine (HC_).mono ?_); clear HC_; rintro e W3 ⟨rfl, hb⟩; refine ⟨_, rfl, ?_⟩; replace HBR := ak (blk_below HBR.out hb); replace HX := ak (blk_below HX.out hb); replace K0 := ak (Kd.R_below K0.out hb); replace K1 := ak (K1.out.step hb); replace K2 := ak (K2.out.step hb); replace K3 := ak (K3.out.step hb); replace HB := ak (below_step HB.out hb); clear hb hz0 hz1 hz2 hz3 hz4 hq0 hq1 hq2 hq3 hq4; obtain ⟨hcz0, hcz1, hcz2, hcz3, hcz4, hfz0, hfz1, hfz2, hfz3, hfz4⟩ := box5 HBR; obtain ⟨hdz0, hdz1, hdz2, hdz3, hdz4, hgz0, hgz1, hgz2, hgz3, hgz4⟩ := box5 HX))
  refine bodyPost_ret (results_ct rfl _ _ gr 25 #[.slice none 0 0, .slice none 0 0, .slice none 0 0, .slice none 0 0, .int .i64 0] (0, 0) _ rfl (by exact nst5_blk HBR.out _ _ _ _ _) Try.underlying25 rfl (by kernel_rfl)) rfl ?_
  exact ⟨_, _, _, _, 0, 1, 2, rfl, Kd.R_nil _ _ _ _ _, Kd.S_nil _ _ _ _ _, Kd.S_nil _ _ _ _ _, Kd.S_nil _ _ _ _ _, ⟨by decide, by decide, by decide⟩, nst5_below HB.out GR.out _ _ _ _ _⟩
 | true =>
  have e1 : l0 = q1 := Q1.out.symm; subst e1; have e2 : List.replicate l0.length [] = q2 := Q2.out.symm; subst e2; have e3 : List.replicate 4 [] = q3 := Q3.out.symm; subst e3; clear Q1 Q2 Q3
  go_wp2_with (first | ((with_reducible refine gate_callee (f := 12) rfl ?_); refine goesLa (some 17) rfl Try.func12 #[.agg #[.slice A7 l0.length c7, .slice A10 l0.length c10, .slice A13 l0.length c13, .slice A14 4 c14, .int .i64 0]] rfl ?_; have HC_ := nn_good k A7 c7 l0 A10 c10 A13 c13 A14 c14 _ W2 S0.out.2.2 S0.out.2.1 S1.out.2.2 S1.out.2.1 S2.out.2.2 S2.out.2.1 S3.out.2.2 S3.out.2.1 HG.out; (with_reducible refine (HC_).mono ?_); clear HC_; rintro e W3 ⟨rfl, hb⟩; refine ⟨_, rfl, ?_⟩; replace HBR := ak (blk_below HBR.out hb); replace HX := ak (blk_below HX.out hb); replace K0 := ak (Kd.R_below K0.out hb); replace K1 := ak (K1.out.step hb); replace K2 := ak (K2.out.step hb); replace K3 := ak (K3.out.step hb); replace HB := ak (below_step HB.out hb); clear hb hz0 hz1 hz2 hz3 hz4 hq0 hq1 hq2 hq3 hq4; obtain ⟨hcz0, hcz1, hcz2, hcz3, hcz4, hfz0, hfz1, hfz2, hfz3, hfz4⟩ := box5 HBR; obtain ⟨hdz0, hdz1, hdz2, hdz3, hdz4, hgz0, hgz1, hgz2, hgz3, hgz4⟩ := box5 HX))
  refine bodyPost_ret (results_ct rfl _ _ gr 25 #[.slice A7 l0.length c7, .slice A10 l0.length c10, .slice A13 l0.length c13, .slice A14 4 c14, .int .i64 0] (0, 0) _ rfl (by exact nst5_blk HBR.out _ _ _ _ _) Try.underlying25 rfl (by kernel_rfl)) rfl ?_
  exact ⟨_, _, _, _, g5, g8, g9, rfl, nn_rfar K0.out HBR.out _ _ _ _ _, (NnS.far K1.out HBR.out _ _ _ _ _).1, (NnS.far K2.out HBR.out _ _ _ _ _).1, (NnS.far K3.out HBR.out _ _ _ _ _).1, HNE.out, nst5_below HB.out GR.out _ _ _ _ _⟩
theorem spec_NewNet.mono : ∀ a0 k, LeO (spec_NewNet.f k a0) (spec_NewNet.f (k + 1) a0) := by
 intro a0 k
 unfold spec_NewNet.f
 exact LeO.ite (LeO.bind (spec_GoodNet.mono _ _ _ _ _ _) (fun _ => LeO.refl _)) (LeO.refl _)
theorem spec_NewNet.calls (k : Nat) (A0 : Option Addr) (c0 : Nat) (l0 : List Int) (r1 : List Int) (r2 : List (List ByteArray)) (r3 : List (List ByteArray)) (r4 : List (List ByteArray)) (r5 : Int) (r6 : Bool) (w : World) (hr0 : Kd.C (Kd.int .i64) w A0 l0.length l0) (hc0 : l0.length ≤ c0) (h : spec_NewNet.f k l0 = some (r1, r2, r3, r4, r5, r6)) :
  Calls Try.prog 4 #[.slice A0 l0.length c0] w fun e w' => ∃ v0_ v1_ v2_ v3_ : Value, e = .returned (.tuple #[.agg #[v0_, v1_, v2_, v3_, .int .i64 r5], .bool r6]) ∧ Kd.R (Kd.int .i64) 3 w' w.heap.size (fun _ => True) v0_ r1 ∧ Kd.S (Kd.slice 9 Kd.string) 39 w' w.heap.size (fun k_ => some k_ ≠ (v2_ : Value).ownBlock ∧ some k_ ≠ (v3_ : Value).ownBlock) v1_ r2 ∧ Kd.S (Kd.slice 9 Kd.string) 39 w' w.heap.size (fun k_ => some k_ ≠ (v1_ : Value).ownBlock ∧ some k_ ≠ (v3_ : Value).ownBlock) v2_ r3 ∧ Kd.S (Kd.slice 9 Kd.string) 39 w' w.heap.size (fun k_ => some k_ ≠ (v1_ : Value).ownBlock ∧ some k_ ≠ (v2_ : Value).ownBlock) v3_ r4 ∧ Below w.heap.size w w' := by
 unfold spec_NewNet.f at h
 obtain ⟨hn, h⟩ := ifS h
 obtain ⟨r, A1, h⟩ := bS h
 have hc := spec_NewNet.calls0 k A0 c0 l0 r w hr0 hc0 hn A1.out
 have h := Option.some.inj h
 cases r with
 | false =>
  obtain ⟨rfl, rfl, rfl, rfl, rfl, rfl⟩ : [] = r1 ∧ [] = r2 ∧ [] = r3 ∧ [] = r4 ∧ 0 = r5 ∧ false = r6 := by simpa using h
  exact hc.mono fun e w' he => nn_post he
 | true =>
  obtain ⟨rfl, rfl, rfl, rfl, rfl, rfl⟩ : l0 = r1 ∧ List.replicate l0.length [] = r2 ∧ List.replicate l0.length [] = r3 ∧ List.replicate 4 [] = r4 ∧ 0 = r5 ∧ true = r6 := by simpa using h
  exact hc.mono fun e w' he => nn_post he

/-! ### laws_toIntS: function 5 -/
def laws_toIntS.l0 : Nat → List Int → List Int → Int → Option (List Int)
  | 0, _, _, _ => none
  | k + 1, x0, x3, x4 => if x4 < (x0.length : Int) then (if 0 ≤ x4 then (if x4 < (x3.length : Int) then (laws_toIntS.l0 k x0 (x3.set (x4 : Int).toNat (rd x0 x4)) (wrap64 (x4 + 1))) else (none)) else (none)) else (some x3)
def laws_toIntS.f (k : Nat) (l0 : List Int) : Option (List Int) := if 0 ≤ (l0.length : Int) then (if ((l0.length : Int) : Int).toNat ≤ 35184372088832 then (laws_toIntS.l0 k l0 (List.replicate ((l0.length : Int) : Int).toNat 0) 0) else (none)) else (none)
theorem laws_toIntS.mono_l : ∀ k, (∀ y0 y1 y2, LeO (laws_toIntS.l0 k y0 y1 y2) (laws_toIntS.l0 (k + 1) y0 y1 y2))
 | 0 => fun _ _ _ r h => by simp [laws_toIntS.l0] at h
 | k + 1 => by
  have ih0 := laws_toIntS.mono_l k
  ·intro y0 y1 y2
   unfold laws_toIntS.l0
   repeat' (first | (with_reducible first | exact ih0 _ _ _ | exact LeO.refl _ | exact LeO.none _ | refine LeO.ite ?_ ?_ | refine LeO.bind ?_ (fun _ => ?_)) | exact ih0 _ _ _ | exact LeO.none _ | refine LeO.ite ?_ ?_ | refine LeO.bind ?_ (fun _ => ?_))
theorem laws_toIntS.mono : ∀ a0 k, LeO (laws_toIntS.f k a0) (laws_toIntS.f (k + 1) a0) := by
 intro a0 k
 have ih0 := laws_toIntS.mono_l k
 unfold laws_toIntS.f
 repeat' (first | (with_reducible first | exact ih0 _ _ _ | exact LeO.refl _ | exact LeO.none _ | refine LeO.ite ?_ ?_ | refine LeO.bind ?_ (fun _ => ?_)) | exact ih0 _ _ _ | exact LeO.none _ | refine LeO.ite ?_ ?_ | refine LeO.bind ?_ (fun _ => ?_))
set_option maxHeartbeats 8000000 in
set_option maxRecDepth 100000 in
theorem laws_toIntS.calls (k : Nat) (A0 : Option Addr) (c0 : Nat) (l0 : List Int) (r : List Int) (w : World) (hr0 : Kd.C (Kd.int .i64) w A0 l0.length l0) (hc0 : l0.length ≤ c0) (h : laws_toIntS.f k l0 = some r) :
  Calls Try.prog 5 #[.slice A0 l0.length c0] w fun e w' => ∃ v0_ : Value, e = .returned (v0_) ∧ Kd.R (Kd.int .i64) 3 w' w.heap.size (fun _ => True) v0_ r ∧ Below w.heap.size w w' := by
 have HR0 := Aside0.mk hr0; have HC0 := Aside0.mk hc0; clear hr0 hc0
 have HB := Aside0.mk (Below.refl w.heap.size w)
 have H : (if 0 ≤ (l0.length : Int) then (if ((l0.length : Int) : Int).toNat ≤ 35184372088832 then (laws_toIntS.l0 k l0 (List.replicate ((l0.length : Int) : Int).toNat 0) 0) else (none)) else (none)) = some r := h
 clear h; replace H := ifS H; obtain ⟨c2, H⟩ := H; have c2b0 := eq_true c2
 have c2b1 : decide (0 ≤ (l0.length : Int)) = true := decide_eq_true c2
 clear c2; replace H := ifS H; obtain ⟨c3, H⟩ := H; have c3b0 := eq_true c3
 have c3b1 : decide (((l0.length : Int) : Int).toNat ≤ 35184372088832) = true := decide_eq_true c3
 clear c3
 obtain ⟨y120, hy_⟩ : ∃ y_ : List Int, y_ = (List.replicate ((l0.length : Int) : Int).toNat 0) := ⟨_, rfl⟩
 replace H : (laws_toIntS.l0 k l0 y120 0) = some r := yH
 have Ny120 := ak hy_; clear hy_
 have H' := Aside0.mk H
 clear H
 go_enter Try.func5, Try.ntmps5
 go_wp2_with (first | ((with_reducible refine gate_dst (N := 7) rfl ?_); refine Kd.R_make (Kd.int .i64) _ 3 rfl (N := 7) rfl 22 _ _ rfl (l0.length : Int) rfl rfl Try.underlying22 (.int .i64 0) 8 info3 rfl (by decide) (by omega) 0 (ok := fun _ => True) (okp := fun _ => True) rfl (fun _ hk => hk) trivial (da) (Nat.le_trans (Nat.mul_le_mul_right _ (da : (l0.length : Int).toNat ≤ 35184372088832)) (by omega)) (Below.refl _ _) (Nat.le_refl _) ?_; intro v121 w4 ho5 hb hg_ hnew_; clear hg_ hnew_; (first | rw [← Ny120.out] at ho5 | (simp only [Int.reduceToNat] at ho5; rw [← Ny120.out] at ho5)); have HO122 := ak (Kd.R_lower ho5 (below_size (belowd HB))); replace HB := ak (below_step (belowd HB) hb); clear hb ho5))
 go_loopg [4] k (fun kq v4 w' => ∃ (x3_1 : List Int) (x4_1 : Int), v4 = .int .i64 x4_1 ∧ Aside0 (laws_toIntS.l0 kq l0 x3_1 x4_1 = some r) ∧ Aside0 (kq ≤ k) ∧ Aside0 (Kd.R (Kd.int .i64) 3 w' w.heap.size (fun _ => True) v121 x3_1) ∧ Aside0 (Below w.heap.size w w'))
 case atStart => exact ⟨(y120), (0), er, H', ⟨Nat.le_refl _⟩, ⟨rdl HO122⟩, ⟨belowd HB⟩⟩
 case round =>
  clear H'
  (try clear c2b0); (try clear c2b1); (try clear c3b0); (try clear c3b1)
  obtain ⟨x3_1, x4_1, rfl, HA, HK1, HO_3, HB⟩ := hrel
  cases gk with
  | zero => exact absurd HA.out (by simp [laws_toIntS.l0])
  | succ k1 =>
   have H := HA.out; clear HA
   simp only [laws_toIntS.l0] at H
   by_cases c6 : x4_1 < (l0.length : Int)
   ·rw [if_pos c6] at H
    have c6b0 : decide (x4_1 < (l0.length : Int)) = true := decide_eq_true c6
    clear c6; replace H := ifS H; obtain ⟨c7, H⟩ := H; have c7b0 := decide_eq_true c7; clear c7; replace H := ifS H; obtain ⟨c8, H⟩ := H; have c8b0 := decide_eq_true c8; clear c8
    obtain ⟨y124, hy_⟩ : ∃ y_ : List Int, y_ = (x3_1.set (x4_1 : Int).toNat (rd l0 x4_1)) := ⟨_, rfl⟩
    replace H : (laws_toIntS.l0 k1 l0 y124 (wrap64 (x4_1 + 1))) = some r := yH
    have Ny124 := ak hy_; clear hy_
    have H' := Aside0.mk H
    clear H
    have p123 : 0 ≤ (x4_1 : Int) := da
    have q123 : x4_1 < (l0.length : Int) := da
    obtain ⟨ad123, e123, hx123_0⟩ := Kd.at_int HR0.out x4_1 p123 q123
    cases e123
    replace hx123_0 := (HB.out.cell (World.block_lt_of_cell? w _ hx123_0)).trans hx123_0
    replace p123 := eq_true p123; replace q123 := eq_true q123
    have p9 : 0 ≤ (x4_1 : Int) := da
    have q9 : (x4_1 : Int) < ((x3_1.length : Int) : Int) := da
    obtain ⟨go9, co9, eo9, gb9, gl9, cl9, HG9⟩ := Kd.R_form HO_3.out (by omega)
    (first | cases eo9 | (injection eo9 with ea_ en_ ec_; (first | subst ea_ | (injection ea_ with ea_; subst ea_)); subst ec_; clear en_))
    have GB9 := Aside0.mk gb9; have GG9 := Aside0.mk HG9; clear gb9 gl9 HG9
    obtain ⟨hx9_0, hf9_0⟩ := Kd.R_celln 0 HO_3.out (x4_1 : Int) p9 q9
    replace p9 := eq_true p9; replace q9 := eq_true q9
    have HP10 := Kd.R_putg HO_3.out (x4_1 : Int) (rd l0 x4_1)
    go_wp2_with (first | ((with_reducible refine gate_store (t := 3) (p := 20) rfl ?_); refine store_event (t := 3) (p := 20) (v := ?vo_w11) (w1 := (wr.setCell ⟨go9, (x4_1 : Int).toNat, none⟩ (.int .i64 (rd l0 x4_1)))) ?hg ?ho ?hn ?hr ?_; (case ho => rfl); (case hg => rfl); (case hn => rfl); (case hr => first | (go_simp; done) | (go_simp; rfl)); intro w11 hw; have hg : wr.grownBy w11 (some go9) := (by rw [hw]; exact HP10.2); have hp_ : Kd.R (Kd.int .i64) 3 w11 w.heap.size (fun _ => True) (.slice (some ⟨go9, 0, none⟩) x3_1.length co9) y124 := (by rw [hw, Ny124.out]; exact HP10.1); clear HP10; replace HO_3 := ak (hp_); replace HB := ak ((by rw [hw]; exact below_set (HB.out) GB9.out : Below w.heap.size w w11)); clear hg hw hp_))
    go_roundg k1
    case measure => have := HK1.out; omega
    case rel => exact ⟨(y124), (wrap64 (x4_1 + 1)), er, H', ⟨by have := HK1.out; omega⟩, ⟨rdl HO_3⟩, ⟨belowd HB⟩⟩
   ·rw [if_neg c6] at H
    have c6b0 : decide (x4_1 < (l0.length : Int)) = false := decide_eq_false c6
    clear c6
    obtain rfl := Option.some.inj H
    go_wp2
    go_ret
    exact ⟨_, er2, by (with_reducible repeat (first | apply Kd.R_alloc | apply Kd.R_drewN | apply Kd.R_drew)); exact HO_3.out, belowd HB⟩

/-! ### impl_within: function 13 -/
def impl_within.f (a0 : Int) (a1 : Int) (a2 : Int) : Option (Bool) := if a0 ≥ a1 then (some (decide (a0 ≤ a2))) else (some false)
set_option maxHeartbeats 8000000 in
set_option maxRecDepth 100000 in
theorem impl_within.calls (a0 : Int) (a1 : Int) (a2 : Int) (r : Bool) (w : World) (h : impl_within.f a0 a1 a2 = some r) :
  Calls Try.prog 13 #[.int .i64 a0, .int .i64 a1, .int .i64 a2] w fun e w' => e = .returned (.bool r) ∧ Drawn0 w w' := by
 have H : (if a0 ≥ a1 then (some (decide (a0 ≤ a2))) else (some false)) = some r := h
 clear h
 by_cases c4 : a0 ≥ a1
 ·rw [if_pos c4] at H
  have c4b0 : decide (a1 ≤ a0) = true := decide_eq_true c4
  clear c4
  obtain rfl := Option.some.inj H
  go_enter Try.func13, Try.ntmps13
  go_wp2
  go_ret
  exact ⟨er, drw⟩
 ·rw [if_neg c4] at H
  have c4b0 : decide (a1 ≤ a0) = false := decide_eq_false c4
  clear c4
  obtain rfl := Option.some.inj H
  go_enter Try.func13, Try.ntmps13
  go_wp2
  go_ret
  exact ⟨er, drw⟩

/-! ### impl_allWithin: function 24 -/
def impl_allWithin.l0 : Nat → Int → Int → List Int → Int → Int → Option (Bool)
  | 0, _, _, _, _, _ => none
  | k + 1, x1, x2, x9, x10, x11 => if x11 < x10 then (if 0 ≤ x11 then (if x11 < (x9.length : Int) then ((impl_within.f (rd x9 x11) x1 x2).bind fun t126 => (if t126 = true then (impl_allWithin.l0 k x1 x2 x9 x10 (wrap64 (x11 + 1))) else (some false))) else (none)) else (none)) else (some true)
def impl_allWithin.f (k : Nat) (l0 : List Int) (a1 : Int) (a2 : Int) : Option (Bool) := impl_allWithin.l0 k a1 a2 l0 (l0.length : Int) 0
theorem impl_allWithin.mono_l : ∀ k, (∀ y0 y1 y2 y3 y4, LeO (impl_allWithin.l0 k y0 y1 y2 y3 y4) (impl_allWithin.l0 (k + 1) y0 y1 y2 y3 y4))
 | 0 => fun _ _ _ _ _ r h => by simp [impl_allWithin.l0] at h
 | k + 1 => by
  have ih0 := impl_allWithin.mono_l k
  ·intro y0 y1 y2 y3 y4
   unfold impl_allWithin.l0
   repeat' (first | (with_reducible first | exact ih0 _ _ _ _ _ | exact LeO.refl _ | exact LeO.none _ | refine LeO.ite ?_ ?_ | refine LeO.bind ?_ (fun _ => ?_)) | exact ih0 _ _ _ _ _ | exact LeO.none _ | refine LeO.ite ?_ ?_ | refine LeO.bind ?_ (fun _ => ?_))
theorem impl_allWithin.mono : ∀ a0 a1 a2 k, LeO (impl_allWithin.f k a0 a1 a2) (impl_allWithin.f (k + 1) a0 a1 a2) := by
 intro a0 a1 a2 k
 have ih0 := impl_allWithin.mono_l k
 unfold impl_allWithin.f
 repeat' (first | (with_reducible first | exact ih0 _ _ _ _ _ | exact LeO.refl _ | exact LeO.none _ | refine LeO.ite ?_ ?_ | refine LeO.bind ?_ (fun _ => ?_)) | exact ih0 _ _ _ _ _ | exact LeO.none _ | refine LeO.ite ?_ ?_ | refine LeO.bind ?_ (fun _ => ?_))
set_option maxHeartbeats 8000000 in
set_option maxRecDepth 100000 in
theorem impl_allWithin.calls (k : Nat) (A0 : Option Addr) (c0 : Nat) (l0 : List Int) (a1 : Int) (a2 : Int) (r : Bool) (w : World) (hr0 : Kd.C (Kd.int .i64) w A0 l0.length l0) (hc0 : l0.length ≤ c0) (h : impl_allWithin.f k l0 a1 a2 = some r) :
  Calls Try.prog 24 #[.slice A0 l0.length c0, .int .i64 a1, .int .i64 a2] w fun e w' => e = .returned (.bool r) ∧ Drawn0 w w' := by
 have HR0 := Aside0.mk hr0; have HC0 := Aside0.mk hc0; clear hr0 hc0
 have H : (impl_allWithin.l0 k a1 a2 l0 (l0.length : Int) 0) = some r := h
 clear h
 have H' := Aside0.mk H
 clear H
 go_enter Try.func24, Try.ntmps24
 go_wp2
 go_loopg [11] k (fun kq v11 w' => ∃ (x11_1 : Int), v11 = .int .i64 x11_1 ∧ Aside0 (impl_allWithin.l0 kq a1 a2 l0 (l0.length : Int) x11_1 = some r) ∧ Aside0 (kq ≤ k) ∧ Drawn0 w w')
 case atStart => exact ⟨(0), er, H', ⟨Nat.le_refl _⟩, drw⟩
 case round =>
  clear H'
  obtain ⟨x11_1, rfl, HA, HK1, ⟨m1, rfl⟩⟩ := hrel
  cases gk with
  | zero => exact absurd HA.out (by simp [impl_allWithin.l0])
  | succ k1 =>
   have H := HA.out; clear HA
   simp only [impl_allWithin.l0] at H
   by_cases c4 : x11_1 < (l0.length : Int)
   ·rw [if_pos c4] at H
    have c4b0 : decide (x11_1 < (l0.length : Int)) = true := decide_eq_true c4
    clear c4; replace H := ifS H; obtain ⟨c5, H⟩ := H; have c5b0 := decide_eq_true c5; clear c5; replace H := ifS H; obtain ⟨c6, H⟩ := H; have c6b0 := decide_eq_true c6; clear c6; replace H := bS H; obtain ⟨t126, A7, H⟩ := H
    replace H : (if t126 = true then (impl_allWithin.l0 k1 a1 a2 l0 (l0.length : Int) (wrap64 (x11_1 + 1))) else (some false)) = some r := H
    by_cases c8 : t126 = true
    ·subst c8
     have H1 : (impl_allWithin.l0 k1 a1 a2 l0 (l0.length : Int) (wrap64 (x11_1 + 1))) = some r := by rw [if_pos rfl] at H; exact H
     clear H
     have H := H1
     clear H1
     have H' := Aside0.mk H
     clear H
     have p125 : 0 ≤ (x11_1 : Int) := da
     have q125 : x11_1 < (l0.length : Int) := da
     obtain ⟨ad125, e125, hx125_0⟩ := Kd.at_int HR0.out x11_1 p125 q125
     cases e125
     replace p125 := eq_true p125; replace q125 := eq_true q125
     go_wp2_with (first | ((with_reducible refine gate_callee (f := 13) rfl ?_); refine goesLa (some 18) rfl Try.func13 #[.int .i64 (rd l0 x11_1), .int .i64 a1, .int .i64 a2] rfl ?_; (with_reducible refine (impl_within.calls (rd l0 x11_1) a1 a2 true _ A7.out).mono ?_); rintro e w' ⟨rfl, ⟨nd, rfl⟩⟩; refine ⟨_, rfl, ?_⟩))
     go_roundg k1
     case measure => have := HK1.out; omega
     case rel => exact ⟨(wrap64 (x11_1 + 1)), er, H', ⟨by have := HK1.out; omega⟩, drw⟩
    ·replace c8 := Bool.eq_false_iff.mpr c8
     subst c8
     have H1 : (some false) = some r := by rw [if_neg (show ¬ (false = true) by decide)] at H; exact H
     clear H
     have H := H1
     clear H1
     obtain rfl := Option.some.inj H
     have p125 : 0 ≤ (x11_1 : Int) := da
     have q125 : x11_1 < (l0.length : Int) := da
     obtain ⟨ad125, e125, hx125_0⟩ := Kd.at_int HR0.out x11_1 p125 q125
     cases e125
     replace p125 := eq_true p125; replace q125 := eq_true q125
     go_wp2_with (first | ((with_reducible refine gate_callee (f := 13) rfl ?_); refine goesLa (some 18) rfl Try.func13 #[.int .i64 (rd l0 x11_1), .int .i64 a1, .int .i64 a2] rfl ?_; (with_reducible refine (impl_within.calls (rd l0 x11_1) a1 a2 false _ A7.out).mono ?_); rintro e w' ⟨rfl, ⟨nd, rfl⟩⟩; refine ⟨_, rfl, ?_⟩))
     go_ret
     exact ⟨er, drw⟩
   ·rw [if_neg c4] at H
    have c4b0 : decide (x11_1 < (l0.length : Int)) = false := decide_eq_false c4
    clear c4
    obtain rfl := Option.some.inj H
    go_wp2
    go_ret
    exact ⟨er, drw⟩

/-! ### impl_areKeys: function 14 -/
def impl_areKeys.f (k : Nat) (l0 : List Int) : Option (Bool) := if (l0.length : Int) ≤ 8 then ((impl_allWithin.f k l0 0 65535).bind fun t127 => (some t127)) else (some false)
theorem impl_areKeys.mono : ∀ a0 k, LeO (impl_areKeys.f k a0) (impl_areKeys.f (k + 1) a0) := by
 intro a0 k
 unfold impl_areKeys.f
 repeat' (first | (with_reducible first | exact impl_allWithin.mono _ _ _ _ | exact LeO.refl _ | exact LeO.none _ | refine LeO.ite ?_ ?_ | refine LeO.bind ?_ (fun _ => ?_)) | exact impl_allWithin.mono _ _ _ _ | exact LeO.none _ | refine LeO.ite ?_ ?_ | refine LeO.bind ?_ (fun _ => ?_))
set_option maxHeartbeats 8000000 in
set_option maxRecDepth 100000 in
theorem impl_areKeys.calls (k : Nat) (A0 : Option Addr) (c0 : Nat) (l0 : List Int) (r : Bool) (w : World) (hr0 : Kd.C (Kd.int .i64) w A0 l0.length l0) (hc0 : l0.length ≤ c0) (h : impl_areKeys.f k l0 = some r) :
  Calls Try.prog 14 #[.slice A0 l0.length c0] w fun e w' => e = .returned (.bool r) ∧ Drawn0 w w' := by
 have HR0 := Aside0.mk hr0; have HC0 := Aside0.mk hc0; clear hr0 hc0
 have H : (if (l0.length : Int) ≤ 8 then ((impl_allWithin.f k l0 0 65535).bind fun t127 => (some t127)) else (some false)) = some r := h
 clear h
 by_cases c2 : (l0.length : Int) ≤ 8
 ·rw [if_pos c2] at H
  have c2b0 : decide ((l0.length : Int) ≤ 8) = true := decide_eq_true c2
  have c2b1 : decide (l0.length ≤ 8) = true := decide_eq_true (by omega)
  clear c2; replace H := bS H; obtain ⟨t127, A3, H⟩ := H
  replace H : (some t127) = some r := H
  obtain rfl := Option.some.inj H
  go_enter Try.func14, Try.ntmps14
  go_wp2_with (first | (go_at_call 24; (with_reducible refine (impl_allWithin.calls k _ _ l0 0 65535 t127 _ ?side1 ?side2 A3.out).mono ?_); (case side1 => exact cd HR0.out); (case side2 => exact HC0.out); rintro e w' ⟨rfl, ⟨nd, rfl⟩⟩))
  go_ret
  exact ⟨er, drw⟩
 ·rw [if_neg c2] at H
  have c2b0 : decide ((l0.length : Int) ≤ 8) = false := decide_eq_false c2
  have c2b1 : decide (l0.length ≤ 8) = false := decide_eq_false (by omega)
  clear c2
  obtain rfl := Option.some.inj H
  go_enter Try.func14, Try.ntmps14
  go_wp2
  go_ret
  exact ⟨er, drw⟩

/-! ### slices_Clone_int_int: function 15 -/
def slices_Clone_int_int.f (l0 : List Int) : Option (List Int) := (some (([] : List Int) : List Int)).bind fun y128 => (if y128.length + l0.length < 17592186044416 then (some (y128 ++ l0)) else (none))
theorem clonenil15 (w : World) (a : Option Addr) (m c m' c' : Nat) : (Go.binOp .eql 22 (.slice a m c) (.slice none m' c')).run Try.prog w = .ok (.bool a.isNone) w := Go.Lib.run_eql_slice_nil w 22 3 a m c m' c' Try.underlying22
attribute [local go_sem high] clonenil15
set_option maxHeartbeats 8000000 in
set_option maxRecDepth 100000 in
theorem slices_Clone_int_int.calls_some (ad0 : Addr) (c0 : Nat) (l0 : List Int) (r : List Int) (w : World) (hr0 : Kd.C (Kd.int .i64) w (some ad0) l0.length l0) (hc0 : l0.length ≤ c0) (h : slices_Clone_int_int.f l0 = some r) :
  Calls Try.prog 15 #[.slice (some ad0) l0.length c0] w fun e w' => ∃ v0_ : Value, e = .returned (v0_) ∧ Kd.R (Kd.int .i64) 3 w' w.heap.size (fun _ => True) v0_ r ∧ Below w.heap.size w w' := by
 have HR0 := Aside0.mk hr0; have HC0 := Aside0.mk hc0; clear hr0 hc0
 have HB := Aside0.mk (Below.refl w.heap.size w)
 have H : ((some (([] : List Int) : List Int)).bind fun y128 => (if y128.length + l0.length < 17592186044416 then (some (y128 ++ l0)) else (none))) = some r := h
 clear h
 obtain ⟨y128, hy_⟩ : ∃ y_ : List Int, y_ = (([] : List Int)) := ⟨_, rfl⟩
 replace H : (if y128.length + l0.length < 17592186044416 then (some (y128 ++ l0)) else (none)) = some r := yH
 have Ny128 := ak hy_; clear hy_; replace H := ifS H; obtain ⟨c2, H⟩ := H; have LMc2 := Aside0.mk c2; clear c2
 obtain ⟨y131, hy_⟩ : ∃ y_ : List Int, y_ = (y128 ++ l0) := ⟨_, rfl⟩
 replace H : (some y131) = some r := yH
 have Ny131 := ak hy_; clear hy_
 obtain rfl := Option.some.inj H
 go_enter Try.func15, Try.ntmps15
 go_wp2_with (first | ((with_reducible refine gate_dst (N := 5) rfl ?_); refine Kd.R_lit (Kd.int .i64) _ 3 ?hg (N := 5) ?hd (xs := ([] : List Int)) (inner := []) (ok := fun _ => True) (okp := fun _ => True) ?hr ?hp (fun _ hk => hk) trivial (Below.refl _ _) (Nat.le_refl _) (by simp) ?_; (case hd => rfl); (case hg => rfl); (case hr => first | (go_simp; done) | (go_simp; rfl)); (case hp => exact (Reps.none _ _)); intro v129 w3 ho4 hb hg_ hnew_; clear hg_ hnew_; (first | rw [← Ny128.out] at ho4 | (simp only [Int.reduceToNat] at ho4; rw [← Ny128.out] at ho4)); have HO130 := ak (Kd.R_lower ho4 (below_size (belowd HB))); replace HB := ak (below_step (belowd HB) hb); clear hb ho4) | ((with_reducible refine gate_builtin (b := .append) (xs := #[.tmp 5, .tmp 6]) rfl ?_); at_builtin; refine Kd.R_append_rows (Kd.int .i64) (w0 := w) w.heap.size rfl (.tmp 5) (.tmp 6) 22 3 (.int .i64 0) 8 rfl Try.underlying22 info3 rfl (by decide) (by omega) v129 y128 l0 _ _ _ (fun _ => True) (fun _ => False) rfl rfl ?aO ?aR (fun _ _ h => h) (fun _ h => h.elim) ?aF ?aB ?aS ?aL ?_; (case aR => exact cd (Kd.C_below HR0.out HB.out)); (case aB => exact (belowd HB)); (case aF => exact (fun _ _ => trivial)); (case aO => exact (rdl HO130)); (case aS => exact (below_size (belowd HB))); (case aL => have := LMc2.out; omega); intro v132 w5 ho hb hg hat; rw [← Ny131.out] at ho; replace HB := ak (hb); have HO133 := ak (ho); clear HO130; clear ho hb hg hat))
 go_ret
 exact ⟨_, er2, by (with_reducible repeat (first | apply Kd.R_alloc | apply Kd.R_drewN | apply Kd.R_drew)); exact HO133.out, belowd HB⟩

set_option maxHeartbeats 8000000 in
set_option maxRecDepth 100000 in
theorem slices_Clone_int_int.calls (A0 : Option Addr) (c0 : Nat) (l0 : List Int) (r : List Int) (w : World) (hr0 : Kd.C (Kd.int .i64) w A0 l0.length l0) (hc0 : l0.length ≤ c0) (h : slices_Clone_int_int.f l0 = some r) :
  Calls Try.prog 15 #[.slice A0 l0.length c0] w fun e w' => ∃ v0_ : Value, e = .returned (v0_) ∧ Kd.R (Kd.int .i64) 3 w' w.heap.size (fun _ => True) v0_ r ∧ Below w.heap.size w w' := by
 cases A0 with
 | some ad0 => exact slices_Clone_int_int.calls_some ad0 c0 l0 r w hr0 hc0 h
 | none =>
  have hl : l0 = [] := by
   rcases Nat.eq_zero_or_pos l0.length with h0 | h0
   ·exact List.eq_nil_of_length_eq_zero h0
   ·obtain ⟨ad, he, _⟩ := hr0.2.2 h0
    cases he
  subst hl
  have hr : r = [] := by
   have h' := h
   simp [slices_Clone_int_int.f] at h'
   first | exact h'.symm | exact h'
  subst hr; clear h hr0 hc0
  go_enter Try.func15, Try.ntmps15
  go_wp2
  go_ret
  exact ⟨_, rfl, Kd.R_nil _ _ _ _ _, Below.refl _ _⟩

/-! ### impl_NewNet: function 6 -/
def nnA6 (A0 : Option Addr) (c0 : Nat) (l0 : List Int) (gr : Nat) (x4 x5 x7 x10 x13 x14 x15 : Value) : Act := { tmps := #[.slice A0 l0.length c0, undef, .pointer (some ⟨gr, 0, none⟩), .bool false, .slice A0 l0.length c0, .int .i64 (l0.length : Int), .bool true, .bool false, .bool false, .slice A0 l0.length c0, .bool true, .bool false, .bool false, undef, .slice A0 l0.length c0, x7, .slice A0 l0.length c0, .int .i64 (l0.length : Int), x10, .slice A0 l0.length c0, .int .i64 (l0.length : Int), x13, x14, undef], defers := [] }
def impl_NewNet.T3 : Bool × List (List Nat × List Nat) := (true, [([], []), ([0], [0]), ([], []), ([2], [2]), ([3, 3], [3]), ([], []), ([5], [5]), ([6, 6], [6]), ([], []), ([1, 4, 7, 8], [1, 4, 7, 8]), ([9, 1, 0, 1, 2, 3, 4, 5, 6, 7, 8, 9], [9]), ([10, 0, 1, 2, 3, 4, 5, 6, 7, 8, 9, 10], [])])
def impl_NewNet.B3 : List Nat := [0, 1, 0, 4, 12, 0, 32, 96, 0, 511, 1023, 2047]
theorem impl_NewNet.tab3 : rtab .any (opsOf Try.f6 3) = impl_NewNet.T3 := by kernel_rfl
theorem impl_NewNet.bits3 : waitsOk impl_NewNet.T3.2 impl_NewNet.B3 = true := by kernel_rfl
def impl_NewNet.f (k : Nat) (l0 : List Int) : Option (List Int × List (List ByteArray) × List (List ByteArray) × List (List ByteArray) × Int × Bool) := (impl_within.f (l0.length : Int) 1 4).bind fun t1 => (if t1 = true then ((impl_areKeys.f k l0).bind fun t2 => (if t2 = true then (if l0.length ≤ 1048576 then some (l0, List.replicate l0.length [], List.replicate l0.length [], List.replicate 4 [], 0, true) else none) else some ([], [], [], [], 0, false))) else some ([], [], [], [], 0, false))
theorem impl_NewNet.mono : ∀ a0 k, LeO (impl_NewNet.f k a0) (impl_NewNet.f (k + 1) a0) := by
 intro a0 k
 unfold impl_NewNet.f
 exact LeO.bind (LeO.refl _) (fun _ => LeO.ite (LeO.bind (impl_areKeys.mono _ _) (fun _ => LeO.refl _)) (LeO.refl _))
set_option maxHeartbeats 16000000 in
set_option maxRecDepth 100000 in
theorem impl_NewNet.calls0 (k : Nat) (A0 : Option Addr) (c0 : Nat) (l0 : List Int) (r1 : List Int) (r2 : List (List ByteArray)) (r3 : List (List ByteArray)) (r4 : List (List ByteArray)) (r5 : Int) (r6 : Bool) (w : World) (hr0 : Kd.C (Kd.int .i64) w A0 l0.length l0) (hc0 : l0.length ≤ c0) (h : impl_NewNet.f k l0 = some (r1, r2, r3, r4, r5, r6)) :
  Calls Try.prog 6 #[.slice A0 l0.length c0] w (NnPost w r1 r2 r3 r4 r6) ∧ r5 = 0 := by
 have hu25 := Try.underlying25
 have HR0 := Aside0.mk hr0; have HC0 := Aside0.mk hc0; clear hr0 hc0
 have HB := Aside0.mk (Below.refl w.heap.size w)
 unfold impl_NewNet.f at h
 obtain ⟨t1, A1, H⟩ := bS h; clear h
 cases t1 with
 | false =>
  obtain ⟨rfl, rfl, rfl, rfl, rfl, rfl⟩ : [] = r1 ∧ [] = r2 ∧ [] = r3 ∧ [] = r4 ∧ 0 = r5 ∧ false = r6 := by simpa using H
  refine ⟨?_, rfl⟩
  clear H
  go_enter Try.func6, Try.ntmps6
  go_wp2_with (first | ((with_reducible refine gate_dst (N := 2) rfl ?_); refine boxev 2 #[.slice none 0 0, .slice none 0 0, .slice none 0 0, .slice none 0 0, .int .i64 0] 25 ?_; intro gr hg w8 hbox hb; have BR := ak hbox; have GR := ak (hgl hg (belowd HB)); replace HB := ak (below_step (belowd HB) hb); clear hb hbox hg) | ((with_reducible refine gate_callee (f := 13) rfl ?_); refine goesLa (some 6) rfl Try.func13 #[.int .i64 (l0.length : Int), .int .i64 1, .int .i64 4] rfl ?_; (with_reducible refine (impl_within.calls (l0.length : Int) 1 4 false _ A1.out).mono ?_); rintro e w' ⟨rfl, ⟨nd, rfl⟩⟩; refine ⟨_, rfl, ?_⟩; (try (rw [drewN_self w8]; generalize hq_ : World.drewN w8 _ = w8; have n0_ : Aside0 (w8.heap[gr]? = some (.cells #[.slice none 0 0, .slice none 0 0, .slice none 0 0, .slice none 0 0, .int .i64 0] 25 (0, 0))) := ⟨by rw [← hq_]; exact (blkd BR)⟩; have n1_ : Aside0 (Below w.heap.size w w8) := ⟨by rw [← hq_]; exact (belowg1 HB GR)⟩; clear BR HB hq_; have BR := n0_; have HB := n1_; clear n0_ n1_)); obtain ⟨hcz0, hcz1, hcz2, hcz3, hcz4, hfz0, hfz1, hfz2, hfz3, hfz4⟩ := box5 BR))
  refine bodyPost_ret (results_ct rfl _ _ gr 25 #[.slice none 0 0, .slice none 0 0, .slice none 0 0, .slice none 0 0, .int .i64 0] (0, 0) _ rfl (by exact nst5_blk BR.out _ _ _ _ _) Try.underlying25 rfl (by kernel_rfl)) rfl ?_
  exact ⟨_, _, _, _, 0, 1, 2, rfl, Kd.R_nil _ _ _ _ _, Kd.S_nil _ _ _ _ _, Kd.S_nil _ _ _ _ _, Kd.S_nil _ _ _ _ _, ⟨by decide, by decide, by decide⟩, nst5_below HB.out GR.out _ _ _ _ _⟩
 | true =>
  rw [if_pos rfl] at H
  obtain ⟨t2, A2, H⟩ := bS H
  cases t2 with
  | false =>
   obtain ⟨rfl, rfl, rfl, rfl, rfl, rfl⟩ : [] = r1 ∧ [] = r2 ∧ [] = r3 ∧ [] = r4 ∧ 0 = r5 ∧ false = r6 := by simpa using H
   refine ⟨?_, rfl⟩
   clear H
   go_enter Try.func6, Try.ntmps6
   go_wp2_with (first | ((with_reducible refine gate_dst (N := 2) rfl ?_); refine boxev 2 #[.slice none 0 0, .slice none 0 0, .slice none 0 0, .slice none 0 0, .int .i64 0] 25 ?_; intro gr hg w8 hbox hb; have BR := ak hbox; have GR := ak (hgl hg (belowd HB)); replace HB := ak (below_step (belowd HB) hb); clear hb hbox hg) | ((with_reducible refine gate_callee (f := 13) rfl ?_); refine goesLa (some 6) rfl Try.func13 #[.int .i64 (l0.length : Int), .int .i64 1, .int .i64 4] rfl ?_; (with_reducible refine (impl_within.calls (l0.length : Int) 1 4 true _ A1.out).mono ?_); rintro e w' ⟨rfl, ⟨nd, rfl⟩⟩; refine ⟨_, rfl, ?_⟩; (try (rw [drewN_self w8]; generalize hq_ : World.drewN w8 _ = w8; have n0_ : Aside0 (w8.heap[gr]? = some (.cells #[.slice none 0 0, .slice none 0 0, .slice none 0 0, .slice none 0 0, .int .i64 0] 25 (0, 0))) := ⟨by rw [← hq_]; exact (blkd BR)⟩; have n1_ : Aside0 (Below w.heap.size w w8) := ⟨by rw [← hq_]; exact (belowg1 HB GR)⟩; clear BR HB hq_; have BR := n0_; have HB := n1_; clear n0_ n1_)); obtain ⟨hcz0, hcz1, hcz2, hcz3, hcz4, hfz0, hfz1, hfz2, hfz3, hfz4⟩ := box5 BR) | (go_at_call 14; (with_reducible refine (impl_areKeys.calls k _ _ l0 false _ ?side1 ?side2 A2.out).mono ?_); (case side1 => exact cd (Kd.C_below HR0.out (belowd HB))); (case side2 => exact HC0.out); rintro e w' ⟨rfl, ⟨nd, rfl⟩⟩; clear hcz0 hcz1 hcz2 hcz3 hcz4 hfz0 hfz1 hfz2 hfz3 hfz4; (try (rw [drewN_self w8]; generalize hq_ : World.drewN w8 _ = w8; have n0_ : Aside0 (w8.heap[gr]? = some (.cells #[.slice none 0 0, .slice none 0 0, .slice none 0 0, .slice none 0 0, .int .i64 0] 25 (0, 0))) := ⟨by rw [← hq_]; exact (blkd BR)⟩; have n1_ : Aside0 (Below w.heap.size w w8) := ⟨by rw [← hq_]; exact (belowg1 HB GR)⟩; clear BR HB hq_; have BR := n0_; have HB := n1_; clear n0_ n1_)); obtain ⟨hcz0, hcz1, hcz2, hcz3, hcz4, hfz0, hfz1, hfz2, hfz3, hfz4⟩ := box5 BR))
   refine bodyPost_ret (results_ct rfl _ _ gr 25 #[.slice none 0 0, .slice none 0 0, .slice none 0 0, .slice none 0 0, .int .i64 0] (0, 0) _ rfl (by exact nst5_blk BR.out _ _ _ _ _) Try.underlying25 rfl (by kernel_rfl)) rfl ?_
   exact ⟨_, _, _, _, 0, 1, 2, rfl, Kd.R_nil _ _ _ _ _, Kd.S_nil _ _ _ _ _, Kd.S_nil _ _ _ _ _, Kd.S_nil _ _ _ _ _, ⟨by decide, by decide, by decide⟩, nst5_below HB.out GR.out _ _ _ _ _⟩
  | true =>
   rw [if_pos rfl] at H
   obtain ⟨hn, H⟩ := ifS H
   obtain ⟨rfl, rfl, rfl, rfl, rfl, rfl⟩ : l0 = r1 ∧ List.replicate l0.length [] = r2 ∧ List.replicate l0.length [] = r3 ∧ List.replicate 4 [] = r4 ∧ 0 = r5 ∧ true = r6 := by simpa using H
   refine ⟨?_, rfl⟩
   clear H
   have HN := ak hn; clear hn
   have HCL := ak (show slices_Clone_int_int.f l0 = some l0 from by unfold slices_Clone_int_int.f; rw [Option.bind_some, if_pos (by have := HN.out; simp only [List.length_nil]; omega)]; rfl)
   go_enter Try.func6, Try.ntmps6
   try go_wp2_with (first | ((with_reducible refine gate_dst (N := 2) rfl ?_); refine boxev 2 #[.slice none 0 0, .slice none 0 0, .slice none 0 0, .slice none 0 0, .int .i64 0] 25 ?_; intro gr hg w8 hbox hb; have BR := ak hbox; have GR := ak (hgl hg (belowd HB)); replace HB := ak (below_step (belowd HB) hb); clear hb hbox hg) | ((with_reducible refine gate_callee (f := 13) rfl ?_); refine goesLa (some 6) rfl Try.func13 #[.int .i64 (l0.length : Int), .int .i64 1, .int .i64 4] rfl ?_; (with_reducible refine (impl_within.calls (l0.length : Int) 1 4 true _ A1.out).mono ?_); rintro e w' ⟨rfl, ⟨nd, rfl⟩⟩; refine ⟨_, rfl, ?_⟩; (try (rw [drewN_self w8]; generalize hq_ : World.drewN w8 _ = w8; have n0_ : Aside0 (w8.heap[gr]? = some (.cells #[.slice none 0 0, .slice none 0 0, .slice none 0 0, .slice none 0 0, .int .i64 0] 25 (0, 0))) := ⟨by rw [← hq_]; exact (blkd BR)⟩; have n1_ : Aside0 (Below w.heap.size w w8) := ⟨by rw [← hq_]; exact (belowg1 HB GR)⟩; clear BR HB hq_; have BR := n0_; have HB := n1_; clear n0_ n1_)); obtain ⟨hcz0, hcz1, hcz2, hcz3, hcz4, hfz0, hfz1, hfz2, hfz3, hfz4⟩ := box5 BR) | (go_at_call 14; (with_reducible refine (impl_areKeys.calls k _ _ l0 true _ ?side1 ?side2 A2.out).mono ?_); (case side1 => exact cd (Kd.C_below HR0.out (belowd HB))); (case side2 => exact HC0.out); rintro e w' ⟨rfl, ⟨nd, rfl⟩⟩; clear hcz0 hcz1 hcz2 hcz3 hcz4 hfz0 hfz1 hfz2 hfz3 hfz4; (try (rw [drewN_self w8]; generalize hq_ : World.drewN w8 _ = w8; have n0_ : Aside0 (w8.heap[gr]? = some (.cells #[.slice none 0 0, .slice none 0 0, .slice none 0 0, .slice none 0 0, .int .i64 0] 25 (0, 0))) := ⟨by rw [← hq_]; exact (blkd BR)⟩; have n1_ : Aside0 (Below w.heap.size w w8) := ⟨by rw [← hq_]; exact (belowg1 HB GR)⟩; clear BR HB hq_; have BR := n0_; have HB := n1_; clear n0_ n1_)); obtain ⟨hcz0, hcz1, hcz2, hcz3, hcz4, hfz0, hfz1, hfz2, hfz3, hfz4⟩ := box5 BR))
   clear hcz0 hcz1 hcz2 hcz3 hcz4 hfz0 hfz1 hfz2 hfz3 hfz4
   replace BR := ak (blk_drew BR.out)
   replace HB := ak (below_drew1 HB.out)
   refine start_ (n := 12) (S := fun w' => True) (ds := []) (bl 12 0) (by kernel_rfl) rfl rfl trivial (fun hHeld => ?_); refine with_tabW impl_NewNet.tab3 impl_NewNet.bits3 (fun HT_ HW_ => ?_)
   generalize w8.drew = w9 at BR HB hHeld ⊢
   refine pureA 0 (some 14) 12 1 HT_ ?_
   refine pureA 2 (some 16) 12 5 HT_ ?_
   refine pureA 3 (some 17) 12 13 HT_ ?_
   refine pureA 5 (some 19) 12 45 HT_ ?_
   refine pureA 6 (some 20) 12 109 HT_ ?_
   clear hHeld HW_
   refine makers_ [1, 4, 7, 8] (bl 12 511) (fuel := 3) (fun s a W => ∃ x4 x5 x7 x10 x13 x14 x15 : Value, ∃ g5 g8 g9 gx : Nat, a = nnA6 A0 c0 l0 gr x4 x5 x7 x10 x13 x14 x15 ∧ NnF w W gr l0 false (s 1) (s 4) (s 7) (s 8) false false x4 x5 x7 x10 x13 x14 x15 g5 g8 g9 gx) ⟨undef, undef, undef, undef, undef, undef, undef, 0, 0, 0, 0, by simp only [nnA6], HB.out, BR.out, fun a => (by cases a), fun a => (by cases a), fun a => (by cases a), fun a => (by cases a), fun a => (by cases a), fun a => (by cases a), fun a => (by cases a), fun a => (by cases a), fun a => (by cases a), fun a => (by cases a)⟩ trivial ⟨?_, ?_, ?_, ?_, trivial⟩ ?_
   ·refine mk1 (some 15) (fun s a W hI hs hd K hK => ?_)
    obtain ⟨x4, x5, x7, x10, x13, x14, x15, g5, g8, g9, gx, rfl, F⟩ := hI
    rw [hs] at F
    unfold nnA6
    refine goes_ Try.func15 (by kernel_rfl) rfl #[.slice A0 l0.length c0] (by rfl) rfl rfl (by (try simp only [List.map_toArray, List.map_cons, List.map_nil]); first | done | rfl) ?_
    with_reducible refine (slices_Clone_int_int.calls _ _ l0 l0 _ ?side1 ?side2 HCL.out).mono ?_
    (case side1 => exact cd (Kd.C_below HR0.out F.below))
    (case side2 => exact HC0.out)
    rintro e W1 ⟨v, rfl, ho, hb⟩
    refine ⟨_, rfl, ?_⟩
    exact hK.out _ _ trivial ⟨x4, x5, v, x10, x13, x14, x15, g5, g8, g9, gx, by show Act.put _ (some 15) _ = _; simp only [nnA6, Act.put, List.setIfInBounds_toArray, List.set_cons_zero, List.set_cons_succ], by simpa only [hs, hs, beq_self_eq_true, Bool.true_or, Bool.false_or, Nat.reduceBEq] using F.setK ho hb⟩
   ·refine mk1 (some 18) (fun s a W hI hs hd K hK => ?_)
    obtain ⟨x4, x5, x7, x10, x13, x14, x15, g5, g8, g9, gx, rfl, F⟩ := hI
    rw [hs] at F
    unfold nnA6
    refine nn_make (by rfl) rfl _ rfl l0.length HN.out rfl (fun v W1 ho hb hn => ?_)
    exact hK.out _ _ trivial ⟨x4, x5, x7, v, x13, x14, x15, W.heap.size, g8, g9, gx, by show Act.put _ (some 18) _ = _; simp only [nnA6, Act.put, List.setIfInBounds_toArray, List.set_cons_zero, List.set_cons_succ], by simpa only [hs, hs, beq_self_eq_true, Bool.true_or, Bool.false_or, Nat.reduceBEq] using F.set5 ho hb hn⟩
   ·refine mk1 (some 21) (fun s a W hI hs hd K hK => ?_)
    obtain ⟨x4, x5, x7, x10, x13, x14, x15, g5, g8, g9, gx, rfl, F⟩ := hI
    rw [hs] at F
    unfold nnA6
    refine nn_make (by rfl) rfl _ rfl l0.length HN.out rfl (fun v W1 ho hb hn => ?_)
    exact hK.out _ _ trivial ⟨x4, x5, x7, x10, v, x14, x15, g5, W.heap.size, g9, gx, by show Act.put _ (some 21) _ = _; simp only [nnA6, Act.put, List.setIfInBounds_toArray, List.set_cons_zero, List.set_cons_succ], by simpa only [hs, hs, beq_self_eq_true, Bool.true_or, Bool.false_or, Nat.reduceBEq] using F.set8 ho hb hn⟩
   ·refine mk1 (some 22) (fun s a W hI hs hd K hK => ?_)
    obtain ⟨x4, x5, x7, x10, x13, x14, x15, g5, g8, g9, gx, rfl, F⟩ := hI
    rw [hs] at F
    unfold nnA6
    refine nn_make (by rfl) rfl _ rfl 4 (by omega) rfl (fun v W1 ho hb hn => ?_)
    exact hK.out _ _ trivial ⟨x4, x5, x7, x10, x13, v, x15, g5, g8, W.heap.size, gx, by show Act.put _ (some 22) _ = _; simp only [nnA6, Act.put, List.setIfInBounds_toArray, List.set_cons_zero, List.set_cons_succ], by simpa only [hs, hs, beq_self_eq_true, Bool.true_or, Bool.false_or, Nat.reduceBEq] using F.set9 ho hb hn⟩
   clear BR HB
   rintro a W - ⟨x4, x5, x7, x10, x13, x14, x15, g5, g8, g9, gx, rfl, F⟩
   have HF := ak F
   have K0 := ak (F.h2 rfl); have K1 := ak (F.h5 rfl); have K2 := ak (F.h8 rfl); have K3 := ak (F.h9 rfl)
   have HNE := ak (⟨F.n58 rfl rfl, F.n59 rfl rfl, F.n89 rfl rfl⟩ : g5 ≠ g8 ∧ g5 ≠ g9 ∧ g8 ≠ g9)
   have BR := ak F.hgr
   clear F
   unfold nnA6
   obtain ⟨A7, c7, e7⟩ := Kd.R_slice K0.out; subst e7; obtain ⟨A10, c10, e10⟩ := Kd.S_slice K1.out.1; subst e10; obtain ⟨A13, c13, e13⟩ := Kd.S_slice K2.out.1; subst e13; obtain ⟨A14, c14, e14⟩ := Kd.S_slice K3.out.1; subst e14
   rw [List.length_replicate] at K1 K2; rw [show (List.replicate 4 ([] : List ByteArray)).length = 4 from rfl] at K3
   refine pureA 9 (some 23) 12 1023 HT_ ?_
   obtain ⟨hz0, hz1, hz2, hz3, hz4, hq0, hq1, hq2, hq3, hq4⟩ := box5 BR
   refine oneA 10 none 12 2047 HT_ (fun K hK => ?_)
   refine skip_ (w1 := ?_) (by rfl) rfl ?_ ?_
   rotate_left
   ·go_simp
    rfl
   refine hK.out _ _ trivial (fun _ => ?_)
   clear hK K hz0 hz1 hz2 hz3 hz4 hq0 hq1 hq2 hq3 hq4
   refine pureA 11 (some 3) 12 4095 HT_ ?_
   refine done_ (done_of HT_.out (by kernel_rfl)) ?_
   clear HT_
   try simp only [List.length_replicate]
   go_wp2
   refine bodyPost_ret (results_ct rfl _ _ gr 25 #[.slice A7 l0.length c7, .slice A10 l0.length c10, .slice A13 l0.length c13, .slice A14 4 c14, .int .i64 0] (0, 0) _ rfl (by exact nst5_blk BR.out _ _ _ _ _) Try.underlying25 rfl (by kernel_rfl)) rfl ?_
   exact ⟨_, _, _, _, g5, g8, g9, rfl, nn_rfar K0.out BR.out _ _ _ _ _, (NnS.far K1.out BR.out _ _ _ _ _).1, (NnS.far K2.out BR.out _ _ _ _ _).1, (NnS.far K3.out BR.out _ _ _ _ _).1, HNE.out, nst5_below HF.out.below GR.out _ _ _ _ _⟩
theorem impl_NewNet.calls (k : Nat) (A0 : Option Addr) (c0 : Nat) (l0 : List Int) (r1 : List Int) (r2 : List (List ByteArray)) (r3 : List (List ByteArray)) (r4 : List (List ByteArray)) (r5 : Int) (r6 : Bool) (w : World) (hr0 : Kd.C (Kd.int .i64) w A0 l0.length l0) (hc0 : l0.length ≤ c0) (h : impl_NewNet.f k l0 = some (r1, r2, r3, r4, r5, r6)) :
  Calls Try.prog 6 #[.slice A0 l0.length c0] w fun e w' => ∃ v0_ v1_ v2_ v3_ : Value, e = .returned (.tuple #[.agg #[v0_, v1_, v2_, v3_, .int .i64 r5], .bool r6]) ∧ Kd.R (Kd.int .i64) 3 w' w.heap.size (fun _ => True) v0_ r1 ∧ Kd.S (Kd.slice 9 Kd.string) 39 w' w.heap.size (fun k_ => some k_ ≠ (v2_ : Value).ownBlock ∧ some k_ ≠ (v3_ : Value).ownBlock) v1_ r2 ∧ Kd.S (Kd.slice 9 Kd.string) 39 w' w.heap.size (fun k_ => some k_ ≠ (v1_ : Value).ownBlock ∧ some k_ ≠ (v3_ : Value).ownBlock) v2_ r3 ∧ Kd.S (Kd.slice 9 Kd.string) 39 w' w.heap.size (fun k_ => some k_ ≠ (v1_ : Value).ownBlock ∧ some k_ ≠ (v2_ : Value).ownBlock) v3_ r4 ∧ Below w.heap.size w w' := by
 obtain ⟨h1, rfl⟩ := impl_NewNet.calls0 k A0 c0 l0 r1 r2 r3 r4 r5 r6 w hr0 hc0 h
 exact h1.mono fun e w' he => nn_post he

/-! ### laws_eqIntS: function 8 -/
def laws_eqIntS.l0 : Nat → List Int → List Int → Int → Option (Bool)
  | 0, _, _, _ => none
  | k + 1, x0, x1, x5 => if x5 < (x0.length : Int) then (if 0 ≤ x5 then (if x5 < (x1.length : Int) then (if (rd x0 x5) = (rd x1 x5) then (laws_eqIntS.l0 k x0 x1 (wrap64 (x5 + 1))) else (some false)) else (none)) else (none)) else (some true)
def laws_eqIntS.f (k : Nat) (l0 : List Int) (l1 : List Int) : Option (Bool) := if (l0.length : Int) = (l1.length : Int) then (laws_eqIntS.l0 k l0 l1 0) else (some false)
theorem laws_eqIntS.mono_l : ∀ k, (∀ y0 y1 y2, LeO (laws_eqIntS.l0 k y0 y1 y2) (laws_eqIntS.l0 (k + 1) y0 y1 y2))
 | 0 => fun _ _ _ r h => by simp [laws_eqIntS.l0] at h
 | k + 1 => by
  have ih0 := laws_eqIntS.mono_l k
  ·intro y0 y1 y2
   unfold laws_eqIntS.l0
   repeat' (first | (with_reducible first | exact ih0 _ _ _ | exact LeO.refl _ | exact LeO.none _ | refine LeO.ite ?_ ?_ | refine LeO.bind ?_ (fun _ => ?_)) | exact ih0 _ _ _ | exact LeO.none _ | refine LeO.ite ?_ ?_ | refine LeO.bind ?_ (fun _ => ?_))
theorem laws_eqIntS.mono : ∀ a0 a1 k, LeO (laws_eqIntS.f k a0 a1) (laws_eqIntS.f (k + 1) a0 a1) := by
 intro a0 a1 k
 have ih0 := laws_eqIntS.mono_l k
 unfold laws_eqIntS.f
 repeat' (first | (with_reducible first | exact ih0 _ _ _ | exact LeO.refl _ | exact LeO.none _ | refine LeO.ite ?_ ?_ | refine LeO.bind ?_ (fun _ => ?_)) | exact ih0 _ _ _ | exact LeO.none _ | refine LeO.ite ?_ ?_ | refine LeO.bind ?_ (fun _ => ?_))
set_option maxHeartbeats 8000000 in
set_option maxRecDepth 100000 in
theorem laws_eqIntS.calls (k : Nat) (A0 : Option Addr) (c0 : Nat) (l0 : List Int) (A1 : Option Addr) (c1 : Nat) (l1 : List Int) (r : Bool) (w : World) (hr0 : Kd.C (Kd.int .i64) w A0 l0.length l0) (hc0 : l0.length ≤ c0) (hr1 : Kd.C (Kd.int .i64) w A1 l1.length l1) (hc1 : l1.length ≤ c1) (h : laws_eqIntS.f k l0 l1 = some r) :
  Calls Try.prog 8 #[.slice A0 l0.length c0, .slice A1 l1.length c1] w fun e w' => e = .returned (.bool r) ∧ Drawn0 w w' := by
 have HR0 := Aside0.mk hr0; have HC0 := Aside0.mk hc0; clear hr0 hc0; have HR1 := Aside0.mk hr1; have HC1 := Aside0.mk hc1; clear hr1 hc1
 have H : (if (l0.length : Int) = (l1.length : Int) then (laws_eqIntS.l0 k l0 l1 0) else (some false)) = some r := h
 clear h
 by_cases c3 : (l0.length : Int) = (l1.length : Int)
 ·rw [if_pos c3] at H
  have c3b0 : ((l0.length : Int) == (l1.length : Int)) = true := beq_iff_eq.mpr c3
  have c3b1 : ((l0.length : Int) != (l1.length : Int)) = false := bne_eq_false_iff_eq.mpr c3
  have c3b2 : (l0.length == l1.length) = true := by first | simpa using c3 | (simp at c3 ⊢; omega)
  clear c3
  have H' := Aside0.mk H
  clear H
  go_enter Try.func8, Try.ntmps8
  go_wp2
  repeat (go_quiet (fail); try go_wp2)
  go_loopg [5] k (fun kq v5 w' => ∃ (x5_1 : Int), v5 = .int .i64 x5_1 ∧ Aside0 (laws_eqIntS.l0 kq l0 l1 x5_1 = some r) ∧ Aside0 (kq ≤ k) ∧ Drawn0 w w')
  case atStart => exact ⟨(0), er, H', ⟨Nat.le_refl _⟩, drw⟩
  case round =>
   clear H'
   (try clear c1); (try clear c3b0); (try clear c3b1); (try clear c3b2)
   obtain ⟨x5_1, rfl, HA, HK1, ⟨m1, rfl⟩⟩ := hrel
   cases gk with
   | zero => exact absurd HA.out (by simp [laws_eqIntS.l0])
   | succ k1 =>
    have H := HA.out; clear HA
    simp only [laws_eqIntS.l0] at H
    by_cases c4 : x5_1 < (l0.length : Int)
    ·rw [if_pos c4] at H
     have c4b0 : decide (x5_1 < (l0.length : Int)) = true := decide_eq_true c4
     clear c4; replace H := ifS H; obtain ⟨c5, H⟩ := H; have c5b0 := decide_eq_true c5; clear c5; replace H := ifS H; obtain ⟨c6, H⟩ := H; have c6b0 := decide_eq_true c6; clear c6
     by_cases c7 : (rd l0 x5_1) = (rd l1 x5_1)
     ·rw [if_pos c7] at H
      have c7b0 : ((rd l0 x5_1) == (rd l1 x5_1)) = true := beq_iff_eq.mpr c7
      have c7b1 : ((rd l0 x5_1) != (rd l1 x5_1)) = false := bne_eq_false_iff_eq.mpr c7
      clear c7
      have H' := Aside0.mk H
      clear H
      have p134 : 0 ≤ (x5_1 : Int) := da
      have q134 : x5_1 < (l0.length : Int) := da
      obtain ⟨ad134, e134, hx134_0⟩ := Kd.at_int HR0.out x5_1 p134 q134
      cases e134
      replace p134 := eq_true p134; replace q134 := eq_true q134
      have p135 : 0 ≤ (x5_1 : Int) := da
      have q135 : x5_1 < (l1.length : Int) := da
      obtain ⟨ad135, e135, hx135_0⟩ := Kd.at_int HR1.out x5_1 p135 q135
      cases e135
      replace p135 := eq_true p135; replace q135 := eq_true q135; go_wp2
      repeat (go_quiet (fail); try go_wp2)
      go_roundg k1
      case measure => have := HK1.out; omega
      case rel => exact ⟨(wrap64 (x5_1 + 1)), er, H', ⟨by have := HK1.out; omega⟩, drw⟩
     ·rw [if_neg c7] at H
      have c7b0 : ((rd l0 x5_1) == (rd l1 x5_1)) = false := beq_eq_false_iff_ne.mpr c7
      have c7b1 : ((rd l0 x5_1) != (rd l1 x5_1)) = true := bne_iff_ne.mpr c7
      obtain rfl := Option.some.inj H
      have p134 : 0 ≤ (x5_1 : Int) := da
      have q134 : x5_1 < (l0.length : Int) := da
      obtain ⟨ad134, e134, hx134_0⟩ := Kd.at_int HR0.out x5_1 p134 q134
      cases e134
      replace p134 := eq_true p134; replace q134 := eq_true q134
      have p135 : 0 ≤ (x5_1 : Int) := da
      have q135 : x5_1 < (l1.length : Int) := da
      obtain ⟨ad135, e135, hx135_0⟩ := Kd.at_int HR1.out x5_1 p135 q135
      cases e135
      replace p135 := eq_true p135; replace q135 := eq_true q135; go_wp2
      repeat (go_quiet (fail); try go_wp2)
      go_ret
      exact ⟨er, drw⟩
    ·rw [if_neg c4] at H
     have c4b0 : decide (x5_1 < (l0.length : Int)) = false := decide_eq_false c4
     clear c4
     obtain rfl := Option.some.inj H
     go_wp2
     repeat (go_quiet (fail); try go_wp2)
     go_ret
     exact ⟨er, drw⟩
 ·rw [if_neg c3] at H
  have c3b0 : ((l0.length : Int) == (l1.length : Int)) = false := beq_eq_false_iff_ne.mpr c3
  have c3b1 : ((l0.length : Int) != (l1.length : Int)) = true := bne_iff_ne.mpr c3
  have c3b2 : (l0.length == l1.length) = false := by first | simpa using c3 | (simp at c3 ⊢; omega)
  obtain rfl := Option.some.inj H
  go_enter Try.func8, Try.ntmps8
  go_wp2
  repeat (go_quiet (fail); try go_wp2)
  go_ret
  exact ⟨er, drw⟩

/-! ### laws_eqStringS: function 25 -/
def laws_eqStringS.l0 : Nat → List ByteArray → List ByteArray → Int → Option (Bool)
  | 0, _, _, _ => none
  | k + 1, x0, x1, x5 => if x5 < (x0.length : Int) then (if 0 ≤ x5 then (if x5 < (x1.length : Int) then (if (rdOf ByteArray.empty x0 x5).toList = (rdOf ByteArray.empty x1 x5).toList then (laws_eqStringS.l0 k x0 x1 (wrap64 (x5 + 1))) else (some false)) else (none)) else (none)) else (some true)
def laws_eqStringS.f (k : Nat) (l0 : List ByteArray) (l1 : List ByteArray) : Option (Bool) := if (l0.length : Int) = (l1.length : Int) then (laws_eqStringS.l0 k l0 l1 0) else (some false)
theorem laws_eqStringS.mono_l : ∀ k, (∀ y0 y1 y2, LeO (laws_eqStringS.l0 k y0 y1 y2) (laws_eqStringS.l0 (k + 1) y0 y1 y2))
 | 0 => fun _ _ _ r h => by simp [laws_eqStringS.l0] at h
 | k + 1 => by
  have ih0 := laws_eqStringS.mono_l k
  ·intro y0 y1 y2
   unfold laws_eqStringS.l0
   repeat' (first | (with_reducible first | exact ih0 _ _ _ | exact LeO.refl _ | exact LeO.none _ | refine LeO.ite ?_ ?_ | refine LeO.bind ?_ (fun _ => ?_)) | exact ih0 _ _ _ | exact LeO.none _ | refine LeO.ite ?_ ?_ | refine LeO.bind ?_ (fun _ => ?_))
theorem laws_eqStringS.mono : ∀ a0 a1 k, LeO (laws_eqStringS.f k a0 a1) (laws_eqStringS.f (k + 1) a0 a1) := by
 intro a0 a1 k
 have ih0 := laws_eqStringS.mono_l k
 unfold laws_eqStringS.f
 repeat' (first | (with_reducible first | exact ih0 _ _ _ | exact LeO.refl _ | exact LeO.none _ | refine LeO.ite ?_ ?_ | refine LeO.bind ?_ (fun _ => ?_)) | exact ih0 _ _ _ | exact LeO.none _ | refine LeO.ite ?_ ?_ | refine LeO.bind ?_ (fun _ => ?_))
set_option maxHeartbeats 8000000 in
set_option maxRecDepth 100000 in
theorem laws_eqStringS.calls (k : Nat) (A0 : Option Addr) (c0 : Nat) (l0 : List ByteArray) (A1 : Option Addr) (c1 : Nat) (l1 : List ByteArray) (r : Bool) (w : World) (hr0 : Kd.C Kd.string w A0 l0.length l0) (hc0 : l0.length ≤ c0) (hr1 : Kd.C Kd.string w A1 l1.length l1) (hc1 : l1.length ≤ c1) (h : laws_eqStringS.f k l0 l1 = some r) :
  Calls Try.prog 25 #[.slice A0 l0.length c0, .slice A1 l1.length c1] w fun e w' => e = .returned (.bool r) ∧ Drawn0 w w' := by
 have HR0 := Aside0.mk hr0; have HC0 := Aside0.mk hc0; clear hr0 hc0; have HR1 := Aside0.mk hr1; have HC1 := Aside0.mk hc1; clear hr1 hc1
 have H : (if (l0.length : Int) = (l1.length : Int) then (laws_eqStringS.l0 k l0 l1 0) else (some false)) = some r := h
 clear h
 by_cases c3 : (l0.length : Int) = (l1.length : Int)
 ·rw [if_pos c3] at H
  have c3b0 : ((l0.length : Int) == (l1.length : Int)) = true := beq_iff_eq.mpr c3
  have c3b1 : ((l0.length : Int) != (l1.length : Int)) = false := bne_eq_false_iff_eq.mpr c3
  have c3b2 : (l0.length == l1.length) = true := by first | simpa using c3 | (simp at c3 ⊢; omega)
  clear c3
  have H' := Aside0.mk H
  clear H
  go_enter Try.func25, Try.ntmps25
  go_wp2
  repeat (go_quiet (fail); try go_wp2)
  go_loopg [5] k (fun kq v5 w' => ∃ (x5_1 : Int), v5 = .int .i64 x5_1 ∧ Aside0 (laws_eqStringS.l0 kq l0 l1 x5_1 = some r) ∧ Aside0 (kq ≤ k) ∧ Drawn0 w w')
  case atStart => exact ⟨(0), er, H', ⟨Nat.le_refl _⟩, drw⟩
  case round =>
   clear H'
   (try clear c1); (try clear c3b0); (try clear c3b1); (try clear c3b2)
   obtain ⟨x5_1, rfl, HA, HK1, ⟨m1, rfl⟩⟩ := hrel
   cases gk with
   | zero => exact absurd HA.out (by simp [laws_eqStringS.l0])
   | succ k1 =>
    have H := HA.out; clear HA
    simp only [laws_eqStringS.l0] at H
    by_cases c4 : x5_1 < (l0.length : Int)
    ·rw [if_pos c4] at H
     have c4b0 : decide (x5_1 < (l0.length : Int)) = true := decide_eq_true c4
     clear c4; replace H := ifS H; obtain ⟨c5, H⟩ := H; have c5b0 := decide_eq_true c5; clear c5; replace H := ifS H; obtain ⟨c6, H⟩ := H; have c6b0 := decide_eq_true c6; clear c6
     by_cases c7 : (rdOf ByteArray.empty l0 x5_1).toList = (rdOf ByteArray.empty l1 x5_1).toList
     ·rw [if_pos c7] at H
      have c7b0 : ((rdOf ByteArray.empty l0 x5_1).toList == (rdOf ByteArray.empty l1 x5_1).toList) = true := beq_iff_eq.mpr c7
      have c7b1 : ((rdOf ByteArray.empty l0 x5_1).toList != (rdOf ByteArray.empty l1 x5_1).toList) = false := bne_eq_false_iff_eq.mpr c7
      clear c7
      have H' := Aside0.mk H
      clear H
      have p136 : 0 ≤ (x5_1 : Int) := da
      have q136 : x5_1 < (l0.length : Int) := da
      obtain ⟨ad136, e136, hx136_0⟩ := Kd.at_string HR0.out x5_1 p136 q136
      cases e136
      replace p136 := eq_true p136; replace q136 := eq_true q136
      have p137 : 0 ≤ (x5_1 : Int) := da
      have q137 : x5_1 < (l1.length : Int) := da
      obtain ⟨ad137, e137, hx137_0⟩ := Kd.at_string HR1.out x5_1 p137 q137
      cases e137
      replace p137 := eq_true p137; replace q137 := eq_true q137; go_wp2
      repeat (go_quiet (fail); try go_wp2)
      go_roundg k1
      case measure => have := HK1.out; omega
      case rel => exact ⟨(wrap64 (x5_1 + 1)), er, H', ⟨by have := HK1.out; omega⟩, drw⟩
     ·rw [if_neg c7] at H
      have c7b0 : ((rdOf ByteArray.empty l0 x5_1).toList == (rdOf ByteArray.empty l1 x5_1).toList) = false := beq_eq_false_iff_ne.mpr c7
      have c7b1 : ((rdOf ByteArray.empty l0 x5_1).toList != (rdOf ByteArray.empty l1 x5_1).toList) = true := bne_iff_ne.mpr c7
      obtain rfl := Option.some.inj H
      have p136 : 0 ≤ (x5_1 : Int) := da
      have q136 : x5_1 < (l0.length : Int) := da
      obtain ⟨ad136, e136, hx136_0⟩ := Kd.at_string HR0.out x5_1 p136 q136
      cases e136
      replace p136 := eq_true p136; replace q136 := eq_true q136
      have p137 : 0 ≤ (x5_1 : Int) := da
      have q137 : x5_1 < (l1.length : Int) := da
      obtain ⟨ad137, e137, hx137_0⟩ := Kd.at_string HR1.out x5_1 p137 q137
      cases e137
      replace p137 := eq_true p137; replace q137 := eq_true q137; go_wp2
      repeat (go_quiet (fail); try go_wp2)
      go_ret
      exact ⟨er, drw⟩
    ·rw [if_neg c4] at H
     have c4b0 : decide (x5_1 < (l0.length : Int)) = false := decide_eq_false c4
     clear c4
     obtain rfl := Option.some.inj H
     go_wp2
     repeat (go_quiet (fail); try go_wp2)
     go_ret
     exact ⟨er, drw⟩
 ·rw [if_neg c3] at H
  have c3b0 : ((l0.length : Int) == (l1.length : Int)) = false := beq_eq_false_iff_ne.mpr c3
  have c3b1 : ((l0.length : Int) != (l1.length : Int)) = true := bne_iff_ne.mpr c3
  have c3b2 : (l0.length == l1.length) = false := by first | simpa using c3 | (simp at c3 ⊢; omega)
  obtain rfl := Option.some.inj H
  go_enter Try.func25, Try.ntmps25
  go_wp2
  repeat (go_quiet (fail); try go_wp2)
  go_ret
  exact ⟨er, drw⟩

end Go.Proofs.Ytbgoddobpdcjbaa.QFnExactNewNet
