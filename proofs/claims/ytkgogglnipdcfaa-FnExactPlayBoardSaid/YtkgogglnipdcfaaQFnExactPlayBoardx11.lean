-- printed by this session's own program (wip/tools/pp.py: the kit's print.py with changes); Lean checks it
import Derived.Test.YtkgogglnipdcfaaQFnExactPlayBoardx0
import Derived.Test.YtkgogglnipdcfaaQFnExactPlayBoardx10
namespace Go.Proofs.Ytkgogglnipdcfaa.QFnExactPlayBoard
open Go.RowKit Go.Proofs.YtkgogglnipdcfaaW.PrintWords Go.Proofs.YtkgogglnipdcfaaW.PrintLast Go.Proofs.YtkgogglnipdcfaaW.PrintMore
attribute [local go_sem] max2_int min2_int max_two min_two max_three min_three max_four min_four strLss strGtr strLeq strGeq   -- for this text's walks alone
set_option linter.unusedVariables false
set_option linter.unusedSimpArgs false

/-! ### laws_markIntSS: function 133 -/
def laws_markIntSS.rd (xs : List (List Int)) (i : Int) : List Int := xs.getD i.toNat ([] : List Int)
def laws_markIntSS.l0 : Nat → List (List Int) → Int → Int → Option (Int × (List (List Int)))
  | 0, _, _, _ => none
  | k + 1, x0, x1, x5 => if x5 < (x0.length : Int) then (if 0 ≤ x5 then ((laws_markIntS.f k (laws_markIntSS.rd x0 x5) x1).bind fun bt => (laws_markIntSS.l0 k (x0.set (x5 : Int).toNat bt.2) bt.1 (wrap64 (x5 + 1)))) else (none)) else (some (x1, x0))
def laws_markIntSS.f (k : Nat) (l0 : List (List Int)) (a1 : Int) : Option (Int × (List (List Int))) := laws_markIntSS.l0 k l0 a1 0
theorem laws_markIntSS.mono_l : ∀ k, (∀ y0 y1 y2, LeO (laws_markIntSS.l0 k y0 y1 y2) (laws_markIntSS.l0 (k + 1) y0 y1 y2))
 | 0 => fun _ _ _ r h => by simp [laws_markIntSS.l0] at h
 | k + 1 => by
  have ih0 := laws_markIntSS.mono_l k
  ·intro y0 y1 y2
   unfold laws_markIntSS.l0
   repeat' (first | (with_reducible first | exact ih0 _ _ _ | exact laws_markIntS.mono _ _ _ | exact LeO.refl _ | exact LeO.none _ | refine LeO.ite ?_ ?_ | refine LeO.bind ?_ (fun _ => ?_)) | exact ih0 _ _ _ | exact laws_markIntS.mono _ _ _ | exact LeO.none _)
theorem laws_markIntSS.mono : ∀ a0 a1 k, LeO (laws_markIntSS.f k a0 a1) (laws_markIntSS.f (k + 1) a0 a1) := fun a0 a1 k => laws_markIntSS.mono_l k a0 a1 0
set_option maxHeartbeats 8000000 in
set_option maxRecDepth 100000 in
theorem laws_markIntSS.calls (k : Nat) (P0_ : Nat → Prop) (u9000_ : Value) (l0 : List (List Int)) (a1 : Int) (r1 : Int) (r2 : List (List Int)) (w0 w : World) (hB : Below w0.heap.size w0 w) (ho0 : Kd.S (Kd.slice 3 (Kd.int .i64)) 23 w w0.heap.size P0_ u9000_ l0) (h : laws_markIntSS.f k l0 a1 = some (r1, r2)) :
  Calls Try.prog 133 #[u9000_, .int .i64 a1] w fun e w' => e = .returned (.int .i64 r1) ∧ Kd.S (Kd.slice 3 (Kd.int .i64)) 23 w' w0.heap.size P0_ u9000_ r2 ∧ Below w0.heap.size w0 w' ∧ Kept w w' P0_ := by
 have HO0 := Aside0.mk ho0
 have HK := Aside0.mk (Kept.refl w P0_)
 have HW0 := Aside0.mk hB.size
 have HB := Aside0.mk hB; clear hB
 have H : (laws_markIntSS.l0 k l0 a1 0) = some (r1, r2) := h
 clear h
 have H' := Aside0.mk H
 clear H
 go_enter Try.func133, Try.ntmps133
 go_wp2
 go_loopg [1, 5] k (fun kq v1 v5 w' => ∃ (x0_1 : List (List Int)) (x1_1 : Int) (x5_1 : Int), v1 = .int .i64 x1_1 ∧ v5 = .int .i64 x5_1 ∧ Aside0 (laws_markIntSS.l0 kq x0_1 x1_1 x5_1 = some (r1, r2)) ∧ Aside0 (kq ≤ k) ∧ Aside0 (Kd.S (Kd.slice 3 (Kd.int .i64)) 23 w' w0.heap.size P0_ u9000_ x0_1) ∧ Aside0 (Kept w w' P0_) ∧ Aside0 (Below w0.heap.size w0 w'))
 case atStart => exact ⟨(l0), (a1), (0), er, er, H', ⟨Nat.le_refl _⟩, ⟨sd HO0⟩, ⟨by repeat (first | (with_reducible first | exact HK.out | apply Kept.alloc | apply Kept.drewN | apply Kept.drew) | exact HK.out)⟩, ⟨belowd HB⟩⟩
 case round =>
  clear H'
  obtain ⟨x0_1, x1_1, x5_1, rfl, rfl, HA, HK1, HO_0, HK, HB⟩ := hrel
  cases gk with
  | zero => exact absurd HA.out (by simp [laws_markIntSS.l0])
  | succ k1 =>
   have H := HA.out; clear HA
   simp only [laws_markIntSS.l0] at H
   obtain ⟨Ao6, co6, eo6⟩ := Kd.S_slice HO_0.out
   subst eo6
   by_cases c3 : x5_1 < (x0_1.length : Int)
   ·rw [if_pos c3] at H
    have c3b0 : decide (x5_1 < (x0_1.length : Int)) = true := decide_eq_true c3
    replace H := ifS H; obtain ⟨c4, H⟩ := H; have c4b0 := decide_eq_true c4; replace H := bS H; obtain ⟨⟨t1, t2⟩, A6, H⟩ := H
    replace H : (laws_markIntSS.l0 k1 (x0_1.set (x5_1 : Int).toNat t2) t1 (wrap64 (x5_1 + 1))) = some (r1, r2) := H
    have H' := Aside0.mk H
    clear H
    obtain ⟨go5, co5, eo5, gb5, gl5, cl5, HG5⟩ := Kd.S_form HO_0.out (by omega)
    (first | cases eo5 | (injection eo5 with ea_ en_ ec_; (first | subst ea_ | (injection ea_ with ea_; subst ea_)); subst ec_; clear en_))
    obtain ⟨oki5, v5e, hR5, hx5, hok5, hback5⟩ := S_borrowK HO_0.out (x5_1 : Int) c4 c3
    replace hR5 : Kd.R (Kd.int .i64) 3 wr w0.heap.size oki5 v5e (laws_markIntSS.rd x0_1 x5_1) := hR5
    obtain ⟨A5, c5, e5, _, _⟩ := Kd.R_reads hR5
    subst e5
    replace hx5 : wr.cell? ⟨go5, (x5_1 : Int).toNat, none⟩ = some (.slice A5 (laws_markIntSS.rd x0_1 x5_1).length c5) := by rw [add_at, Nat.zero_add] at hx5; exact hx5
    have HR5 := Aside0.mk hR5; have HOK5 := Aside0.mk hok5
    have HBK5 := Aside0.mk @hback5
    clear gb5 gl5 HG5 hR5 hok5 hback5; replace c4 := eq_true c4; replace c3 := eq_true c3
    go_wp2_with (first | ((with_reducible refine gate_callee (f := 41) rfl ?_); refine goesLa (some 17) rfl Try.func41 #[.slice A5 (laws_markIntSS.rd x0_1 x5_1).length c5, .int .i64 x1_1] rfl ?_; refine (laws_markIntS.calls k1 oki5 _ (laws_markIntSS.rd x0_1 x5_1) x1_1 t1 t2 w0 _ HB.out HR5.out A6.out).mono ?_; rintro e w9 ⟨rfl, ho9, hb9, hk9⟩; refine ⟨_, rfl, ?_⟩; have n0_ := Aside0.mk (HBK5.out hk9 (Kd.R_reok rfl ho9 (fun k_ e_ => HR5.out.1 k_ e_))); have n1_ := Aside0.mk hb9; have n2_ := Aside0.mk (Kept.then_ HK.out hk9 (fun k_ hk => Or.inl (HOK5.out k_ hk))); clear HO_0 HB HK; have HO_0 := n0_; have HB := n1_; have HK := n2_; clear n0_ n1_ n2_ ho9 hb9 hk9))
    go_roundg k1
    case measure => have := HK1.out; omega
    case rel => exact ⟨(x0_1.set (x5_1 : Int).toNat t2), (t1), (wrap64 (x5_1 + 1)), er, er, H', ⟨by have := HK1.out; omega⟩, ⟨sd HO_0⟩, ⟨by repeat (first | (with_reducible first | exact HK.out | apply Kept.alloc | apply Kept.drewN | apply Kept.drew) | exact HK.out)⟩, ⟨belowd HB⟩⟩
   ·rw [if_neg c3] at H
    have c3b0 : decide (x5_1 < (x0_1.length : Int)) = false := decide_eq_false c3
    clear c3
    simp only [Option.some.injEq, Prod.mk.injEq] at H
    obtain ⟨rfl, rfl⟩ := H; go_wp2
    go_ret
    exact ⟨er2, by (with_reducible repeat (first | apply Kd.S_alloc | apply Kd.S_drewN | apply Kd.S_drew)); exact HO_0.out, belowd HB, by repeat (first | (with_reducible first | exact HK.out | apply Kept.alloc | apply Kept.drewN | apply Kept.drew) | exact HK.out)⟩

/-! ### laws_markBoard: function 43 -/
def laws_markBoard.f (k : Nat) (a0_0 : Int) (a0_1 : Int) (l0_2 : List (List Int)) (l0_3 : List Int) (l0_4 : List Int) (a1 : Int) : Option (Int × (List (List Int)) × (List Int) × (List Int)) := ((laws_markIntSS.f k l0_2 a1).bind fun bt1 => ((laws_markIntS.f k l0_3 bt1.1).bind fun bt2 => ((laws_markIntS.f k l0_4 bt2.1).bind fun bt3 => (some (bt3.1, bt1.2, bt2.2, bt3.2)))))
theorem laws_markBoard.mono : ∀ a0 a1 a2 a3 a4 a5 k, LeO (laws_markBoard.f k a0 a1 a2 a3 a4 a5) (laws_markBoard.f (k + 1) a0 a1 a2 a3 a4 a5) := by
 intro a0 a1 a2 a3 a4 a5 k
 unfold laws_markBoard.f
 repeat' (first | (with_reducible first | exact laws_markIntS.mono _ _ _ | exact laws_markIntSS.mono _ _ _ | exact LeO.refl _ | exact LeO.none _ | refine LeO.ite ?_ ?_ | refine LeO.bind ?_ (fun _ => ?_)) | exact laws_markIntS.mono _ _ _ | exact laws_markIntSS.mono _ _ _ | exact LeO.none _ | refine LeO.ite ?_ ?_ | refine LeO.bind ?_ (fun _ => ?_))
set_option maxHeartbeats 8000000 in
set_option maxRecDepth 100000 in
theorem laws_markBoard.calls (k : Nat) (a0_0 : Int) (a0_1 : Int) (P0_2_ : Nat → Prop) (u9000_ : Value) (l0_2 : List (List Int)) (P0_3_ : Nat → Prop) (u9001_ : Value) (l0_3 : List Int) (P0_4_ : Nat → Prop) (u9002_ : Value) (l0_4 : List Int) (a1 : Int) (r1 : Int) (r2 : List (List Int)) (r3 : List Int) (r4 : List Int) (w0 w : World) (hB : Below w0.heap.size w0 w) (ho0_2 : Kd.S (Kd.slice 3 (Kd.int .i64)) 23 w w0.heap.size P0_2_ u9000_ l0_2) (ho0_3 : Kd.R (Kd.int .i64) 3 w w0.heap.size P0_3_ u9001_ l0_3) (ho0_4 : Kd.R (Kd.int .i64) 3 w w0.heap.size P0_4_ u9002_ l0_4) (hp2_3 : ∀ k_, P0_2_ k_ → ¬ P0_3_ k_) (hp2_4 : ∀ k_, P0_2_ k_ → ¬ P0_4_ k_) (hp3_4 : ∀ k_, P0_3_ k_ → ¬ P0_4_ k_) (h : laws_markBoard.f k a0_0 a0_1 l0_2 l0_3 l0_4 a1 = some (r1, r2, r3, r4)) :
  Calls Try.prog 43 #[.agg #[.int .i64 a0_0, .int .i64 a0_1, u9000_, u9001_, u9002_], .int .i64 a1] w fun e w' => e = .returned (.int .i64 r1) ∧ Kd.S (Kd.slice 3 (Kd.int .i64)) 23 w' w0.heap.size P0_2_ u9000_ r2 ∧ Kd.R (Kd.int .i64) 3 w' w0.heap.size P0_3_ u9001_ r3 ∧ Kd.R (Kd.int .i64) 3 w' w0.heap.size P0_4_ u9002_ r4 ∧ Below w0.heap.size w0 w' ∧ Kept w w' (fun k_ => P0_2_ k_ ∨ P0_3_ k_ ∨ P0_4_ k_) := by
 have hu47 := Try.underlying47
 obtain ⟨A2, c2, e2⟩ := Kd.S_slice ho0_2
 subst e2
 obtain ⟨A3, c3, e3⟩ := Kd.R_slice ho0_3
 subst e3
 obtain ⟨A4, c4, e4⟩ := Kd.R_slice ho0_4
 subst e4
 have F2 := Aside0.mk (Kd.S_mono (Kd.S_bound ho0_2) (fun k hk => (⟨hk.1, hk.2.2.1⟩ : P0_2_ k ∧ k < w.heap.size)))
 have F3 := Aside0.mk (Kd.R_mono (Kd.R_bound ho0_3) (fun k hk => (⟨hk.1, hk.2.2.1⟩ : P0_3_ k ∧ k < w.heap.size)))
 have F4 := Aside0.mk (Kd.R_mono (Kd.R_bound ho0_4) (fun k hk => (⟨hk.1, hk.2.2.1⟩ : P0_4_ k ∧ k < w.heap.size)))
 have HB := Aside0.mk hB
 have HK := Aside0.mk (Kept.refl w (fun k_ => P0_2_ k_ ∨ P0_3_ k_ ∨ P0_4_ k_))
 clear ho0_2 ho0_3 ho0_4 hB
 have H : ((laws_markIntSS.f k l0_2 a1).bind fun bt1 => ((laws_markIntS.f k l0_3 bt1.1).bind fun bt2 => ((laws_markIntS.f k l0_4 bt2.1).bind fun bt3 => (some (bt3.1, bt1.2, bt2.2, bt3.2))))) = some (r1, r2, r3, r4) := h
 clear h
 obtain ⟨⟨t1, t2⟩, A1000, H⟩ := Option.bind_eq_some_iff.mp H
 obtain ⟨⟨t3, t4⟩, A1010, H⟩ := Option.bind_eq_some_iff.mp H
 obtain ⟨⟨t5, t6⟩, A1020, H⟩ := Option.bind_eq_some_iff.mp H
 have B0_ := Aside0.mk A1000; have B1_ := Aside0.mk A1010; have B2_ := Aside0.mk A1020; clear A1000 A1010 A1020
 simp only [Option.some.injEq, Prod.mk.injEq] at H
 obtain ⟨rfl, rfl, rfl, rfl⟩ := H
 go_enter Try.func43, Try.ntmps43
 go_wp2_with (first | ((with_reducible refine gate_dst (N := 2) rfl ?_); refine boxev 2 #[.int .i64 a0_0, .int .i64 a0_1, .slice A2 l0_2.length c2, .slice A3 l0_3.length c3, .slice A4 l0_4.length c4] 47 ?_; intro gb hgb w5 hbox hb; have m0 := Aside0.mk (Kd.S_below F2.out hb); have m1 := Aside0.mk (Kd.R_below F3.out hb); have m2 := Aside0.mk (Kd.R_below F4.out hb); have m3 := Aside0.mk (below_step HB.out hb); have m4 := Aside0.mk (Kept.below HK.out hb); clear F2 F3 F4 HB HK; have F2 := m0; have F3 := m1; have F4 := m2; have HB := m3; have HK := m4; clear m0 m1 m2 m3 m4; have GN := Aside0.mk (show w.heap.size ≤ gb by rw [hgb]; exact Nat.le_refl _); have BK := Aside0.mk hbox; clear hb hbox hgb; have hcz0 : w5.cell? ⟨gb, 0, none⟩ = some (.int .i64 a0_0) := bq BK 0; have hcz1 : w5.cell? ⟨gb, 1, none⟩ = some (.int .i64 a0_1) := bq BK 1; have hcz2 : w5.cell? ⟨gb, 2, none⟩ = some (.slice A2 l0_2.length c2) := bq BK 2; have hcz3 : w5.cell? ⟨gb, 3, none⟩ = some (.slice A3 l0_3.length c3) := bq BK 3; have hcz4 : w5.cell? ⟨gb, 4, none⟩ = some (.slice A4 l0_4.length c4) := bq BK 4; have MK0 := trivial) | ((with_reducible refine gate_callee (f := 133) rfl ?_); clear MK0; refine goesL_ (some 8) rfl rfl Try.func133 (by kernel_rfl) rfl #[.slice A2 l0_2.length c2, .int .i64 a1] rfl (by (try simp only [List.map_toArray, List.map_cons, List.map_nil]); first | done | rfl) ?_; refine (laws_markIntSS.calls k _ _ l0_2 a1 t1 t2 w0 _ HB.out F2.out B0_.out).mono ?_; rintro e w7 ⟨rfl, ho, hb, hk⟩; refine ⟨_, rfl, ?_⟩; have m0 := Aside0.mk (ho); have m1 := Aside0.mk (R_kept2 F3.out hk (fun k a _ b => hp2_3 k b.1 a.1)); have m2 := Aside0.mk (R_kept2 F4.out hk (fun k a _ b => hp2_4 k b.1 a.1)); have m3 := Aside0.mk (hb); have m4 := Aside0.mk (Kept.then_ HK.out hk (fun k a => Or.inl (Or.inl a.1))); have m5 := Aside0.mk (blk_kept2 BK.out hk (fun a => Nat.not_lt.2 GN.out a.2)); clear F2 F3 F4 HB HK BK; have F2 := m0; have F3 := m1; have F4 := m2; have HB := m3; have HK := m4; have BK := m5; clear m0 m1 m2 m3 m4 m5; clear ho hb hk; clear hcz0 hcz1 hcz2 hcz3 hcz4; have hcz0 : w7.cell? ⟨gb, 0, none⟩ = some (.int .i64 a0_0) := bq BK 0; have hcz1 : w7.cell? ⟨gb, 1, none⟩ = some (.int .i64 a0_1) := bq BK 1; have hcz2 : w7.cell? ⟨gb, 2, none⟩ = some (.slice A2 l0_2.length c2) := bq BK 2; have hcz3 : w7.cell? ⟨gb, 3, none⟩ = some (.slice A3 l0_3.length c3) := bq BK 3; have hcz4 : w7.cell? ⟨gb, 4, none⟩ = some (.slice A4 l0_4.length c4) := bq BK 4; have MK1 := trivial) | ((with_reducible refine gate_callee (f := 41) rfl ?_); clear MK1; refine goesL_ (some 12) rfl rfl Try.func41 (by kernel_rfl) rfl #[.slice A3 l0_3.length c3, .int .i64 t1] rfl (by (try simp only [List.map_toArray, List.map_cons, List.map_nil]); first | done | rfl) ?_; refine (laws_markIntS.calls k _ _ l0_3 t1 t3 t4 w0 _ HB.out F3.out B1_.out).mono ?_; rintro e w8 ⟨rfl, ho, hb, hk⟩; refine ⟨_, rfl, ?_⟩; have m0 := Aside0.mk (S_kept2 F2.out hk (fun k a _ b => hp2_3 k a.1 b.1)); have m1 := Aside0.mk (Kd.R_reok rfl ho (fun k e => F3.out.1 k e)); have m2 := Aside0.mk (R_kept2 F4.out hk (fun k a _ b => hp3_4 k b.1 a.1)); have m3 := Aside0.mk (hb); have m4 := Aside0.mk (Kept.then_ HK.out hk (fun k a => Or.inl (Or.inr (Or.inl a.1)))); have m5 := Aside0.mk (blk_kept2 BK.out hk (fun a => Nat.not_lt.2 GN.out a.2)); clear F2 F3 F4 HB HK BK; have F2 := m0; have F3 := m1; have F4 := m2; have HB := m3; have HK := m4; have BK := m5; clear m0 m1 m2 m3 m4 m5; clear ho hb hk; clear hcz0 hcz1 hcz2 hcz3 hcz4; have hcz0 : w8.cell? ⟨gb, 0, none⟩ = some (.int .i64 a0_0) := bq BK 0; have hcz1 : w8.cell? ⟨gb, 1, none⟩ = some (.int .i64 a0_1) := bq BK 1; have hcz2 : w8.cell? ⟨gb, 2, none⟩ = some (.slice A2 l0_2.length c2) := bq BK 2; have hcz3 : w8.cell? ⟨gb, 3, none⟩ = some (.slice A3 l0_3.length c3) := bq BK 3; have hcz4 : w8.cell? ⟨gb, 4, none⟩ = some (.slice A4 l0_4.length c4) := bq BK 4; have MK2 := trivial) | ((with_reducible refine gate_callee (f := 41) rfl ?_); clear MK2; refine goesL_ (some 16) rfl rfl Try.func41 (by kernel_rfl) rfl #[.slice A4 l0_4.length c4, .int .i64 t3] rfl (by (try simp only [List.map_toArray, List.map_cons, List.map_nil]); first | done | rfl) ?_; refine (laws_markIntS.calls k _ _ l0_4 t3 t5 t6 w0 _ HB.out F4.out B2_.out).mono ?_; rintro e w9 ⟨rfl, ho, hb, hk⟩; refine ⟨_, rfl, ?_⟩; have m0 := Aside0.mk (S_kept2 F2.out hk (fun k a _ b => hp2_4 k a.1 b.1)); have m1 := Aside0.mk (R_kept2 F3.out hk (fun k a _ b => hp3_4 k a.1 b.1)); have m2 := Aside0.mk (Kd.R_reok rfl ho (fun k e => F4.out.1 k e)); have m3 := Aside0.mk (hb); have m4 := Aside0.mk (Kept.then_ HK.out hk (fun k a => Or.inl (Or.inr (Or.inr (a.1))))); have m5 := Aside0.mk (blk_kept2 BK.out hk (fun a => Nat.not_lt.2 GN.out a.2)); clear F2 F3 F4 HB HK BK; have F2 := m0; have F3 := m1; have F4 := m2; have HB := m3; have HK := m4; have BK := m5; clear m0 m1 m2 m3 m4 m5; clear ho hb hk; clear hcz0 hcz1 hcz2 hcz3 hcz4; have hcz0 : w9.cell? ⟨gb, 0, none⟩ = some (.int .i64 a0_0) := bq BK 0; have hcz1 : w9.cell? ⟨gb, 1, none⟩ = some (.int .i64 a0_1) := bq BK 1; have hcz2 : w9.cell? ⟨gb, 2, none⟩ = some (.slice A2 l0_2.length c2) := bq BK 2; have hcz3 : w9.cell? ⟨gb, 3, none⟩ = some (.slice A3 l0_3.length c3) := bq BK 3; have hcz4 : w9.cell? ⟨gb, 4, none⟩ = some (.slice A4 l0_4.length c4) := bq BK 4; have MK3 := trivial))
 go_ret
 exact ⟨er, Kd.S_mono F2.out (fun k a => a.1), Kd.R_mono F3.out (fun k a => a.1), Kd.R_mono F4.out (fun k a => a.1), HB.out, HK.out⟩

/-! ### laws_markBoolS: function 44 -/
def laws_markBoolS.l0 : Nat → List Bool → Int → Int → Option (Int × List Bool)
  | 0, _, _, _ => none
  | k + 1, x0, x1, x5 => if x5 < (x0.length : Int) then (if 0 ≤ x5 then (laws_markBoolS.l0 k (x0.set (x5 : Int).toNat ((Int.tmod x1 3) == 0)) (wrap64 (x1 + 1)) (wrap64 (x5 + 1))) else (none)) else (some (x1, x0))
def laws_markBoolS.f (k : Nat) (l0 : List Bool) (a1 : Int) : Option (Int × List Bool) := laws_markBoolS.l0 k l0 a1 0
theorem laws_markBoolS.mono_l : ∀ k, (∀ y0 y1 y2, LeO (laws_markBoolS.l0 k y0 y1 y2) (laws_markBoolS.l0 (k + 1) y0 y1 y2))
 | 0 => fun _ _ _ r h => by simp [laws_markBoolS.l0] at h
 | k + 1 => by
  have ih0 := laws_markBoolS.mono_l k
  ·intro y0 y1 y2
   unfold laws_markBoolS.l0
   repeat' (first | (with_reducible first | exact ih0 _ _ _ | exact LeO.refl _ | exact LeO.none _ | refine LeO.ite ?_ ?_ | refine LeO.bind ?_ (fun _ => ?_)) | exact ih0 _ _ _ | exact LeO.none _ | refine LeO.ite ?_ ?_ | refine LeO.bind ?_ (fun _ => ?_))
theorem laws_markBoolS.mono : ∀ a0 a1 k, LeO (laws_markBoolS.f k a0 a1) (laws_markBoolS.f (k + 1) a0 a1) := by
 intro a0 a1 k
 have ih0 := laws_markBoolS.mono_l k
 unfold laws_markBoolS.f
 repeat' (first | (with_reducible first | exact ih0 _ _ _ | exact LeO.refl _ | exact LeO.none _ | refine LeO.ite ?_ ?_ | refine LeO.bind ?_ (fun _ => ?_)) | exact ih0 _ _ _ | exact LeO.none _ | refine LeO.ite ?_ ?_ | refine LeO.bind ?_ (fun _ => ?_))
set_option maxHeartbeats 8000000 in
set_option maxRecDepth 100000 in
theorem laws_markBoolS.calls (k : Nat) (P0_ : Nat → Prop) (u9000_ : Value) (l0 : List Bool) (a1 : Int) (r1 : Int) (r2 : List Bool) (w0 w : World) (hB : Below w0.heap.size w0 w) (ho0 : Kd.R Kd.bool 4 w w0.heap.size P0_ u9000_ l0) (h : laws_markBoolS.f k l0 a1 = some (r1, r2)) :
  Calls Try.prog 44 #[u9000_, .int .i64 a1] w fun e w' => e = .returned (.int .i64 r1) ∧ Kd.R Kd.bool 4 w' w0.heap.size (fun k_ => (P0_ k_ ∨ w.heap.size ≤ k_)) u9000_ r2 ∧ Below w0.heap.size w0 w' ∧ Kept w w' (fun k_ => P0_ k_) := by
 have HO0 := Aside0.mk (show Kd.R Kd.bool 4 w w0.heap.size (fun k_ => (P0_ k_ ∨ w.heap.size ≤ k_)) u9000_ l0 from Kd.R_mono ho0 (fun k_ hk => (.inl hk)))
 have HK := Aside0.mk (Kept.refl w (fun k_ => P0_ k_))
 have HW0 := Aside0.mk hB.size
 have HB := Aside0.mk hB; clear hB
 have H : (laws_markBoolS.l0 k l0 a1 0) = some (r1, r2) := h
 clear h
 have H' := Aside0.mk H
 clear H
 go_enter Try.func44, Try.ntmps44
 go_wp2
 go_loopg [1, 5] k (fun kq v1 v5 w' => ∃ (x0_1 : List Bool) (x1_1 : Int) (x5_1 : Int), v1 = .int .i64 x1_1 ∧ v5 = .int .i64 x5_1 ∧ Aside0 (laws_markBoolS.l0 kq x0_1 x1_1 x5_1 = some (r1, r2)) ∧ Aside0 (kq ≤ k) ∧ Aside0 (Kd.R Kd.bool 4 w' w0.heap.size (fun k_ => (P0_ k_ ∨ w.heap.size ≤ k_)) u9000_ x0_1) ∧ Aside0 (Kept w w' (fun k_ => P0_ k_)) ∧ Aside0 (Below w0.heap.size w0 w'))
 case atStart => exact ⟨(l0), (a1), (0), er, er, H', ⟨Nat.le_refl _⟩, ⟨rdl HO0⟩, ⟨by repeat (first | (with_reducible first | exact HK.out | apply Kept.alloc | apply Kept.drewN | apply Kept.drew) | exact HK.out)⟩, ⟨belowd HB⟩⟩
 case round =>
  clear H'
  obtain ⟨x0_1, x1_1, x5_1, rfl, rfl, HA, HK1, HO_0, HK, HB⟩ := hrel
  cases gk with
  | zero => exact absurd HA.out (by simp [laws_markBoolS.l0])
  | succ k1 =>
   have H := HA.out; clear HA
   simp only [laws_markBoolS.l0] at H
   by_cases c3 : x5_1 < (x0_1.length : Int)
   ·rw [if_pos c3] at H
    have c3b0 : decide (x5_1 < (x0_1.length : Int)) = true := decide_eq_true c3
    clear c3; replace H := ifS H; obtain ⟨c4, H⟩ := H; have c4b0 := decide_eq_true c4; clear c4
    obtain ⟨y365, hy_⟩ : ∃ y_ : List Bool, y_ = (x0_1.set (x5_1 : Int).toNat ((Int.tmod x1_1 3) == 0)) := ⟨_, rfl⟩
    replace H : (laws_markBoolS.l0 k1 y365 (wrap64 (x1_1 + 1)) (wrap64 (x5_1 + 1))) = some (r1, r2) := yH
    have Ny365 := ak hy_; clear hy_
    have H' := Aside0.mk H
    clear H
    obtain ⟨Ao6, co6, eo6⟩ := Kd.R_slice HO_0.out
    subst eo6
    have p5 : 0 ≤ (x5_1 : Int) := da
    have q5 : (x5_1 : Int) < ((x0_1.length : Int) : Int) := da
    obtain ⟨go5, co5, eo5, gb5, gl5, cl5, HG5⟩ := Kd.R_form HO_0.out (by omega)
    (first | cases eo5 | (injection eo5 with ea_ en_ ec_; (first | subst ea_ | (injection ea_ with ea_; subst ea_)); subst ec_; clear en_))
    have GB5 := Aside0.mk gb5; have GG5 := Aside0.mk HG5; clear gb5 gl5 HG5
    have HMgo5 := Aside0.mk (show (P0_ go5 ∨ w.heap.size ≤ go5) from (HO_0.out.1 _ rfl))
    obtain ⟨hx5_0, hf5_0⟩ := Kd.R_celln false HO_0.out (x5_1 : Int) p5 q5
    replace p5 := eq_true p5; replace q5 := eq_true q5
    have HP7 := Kd.R_putg HO_0.out (x5_1 : Int) ((Int.tmod x1_1 3) == 0)
    go_wp2_with (first | ((with_reducible refine gate_store (t := 4) (p := 17) rfl ?_); refine store_event (t := 4) (p := 17) (v := ?vo_w8) (w1 := (wr.setCell ⟨go5, (x5_1 : Int).toNat, none⟩ (.bool ((Int.tmod x1_1 3) == 0)))) ?hg ?ho ?hn ?hr ?_; (case ho => rfl); (case hg => rfl); (case hn => rfl); (case hr => first | (go_simp; done) | (go_simp; rfl)); intro w8 hw; have hg : wr.grownBy w8 (some go5) := (by rw [hw]; exact HP7.2); have hp_ : Kd.R Kd.bool 4 w8 w0.heap.size (fun k_ => (P0_ k_ ∨ w.heap.size ≤ k_)) (.slice (some ⟨go5, 0, none⟩) x0_1.length co6) y365 := (by rw [hw, Ny365.out]; exact HP7.1); clear HP7; replace HB := ak ((by rw [hw]; exact below_set (HB.out) GB5.out : Below w0.heap.size w0 w8)); replace HK := ak (Kept.of_grown (S := (fun k_ => P0_ k_)) hg (by repeat (first | (with_reducible first | exact HK.out | apply Kept.alloc | apply Kept.drewN | apply Kept.drew) | exact HK.out)) (fun k_ e_ => (HO_0.out.1 k_ e_))); replace HO_0 := ak (hp_); clear hg hw hp_))
    go_roundg k1
    case measure => have := HK1.out; omega
    case rel => exact ⟨(y365), (wrap64 (x1_1 + 1)), (wrap64 (x5_1 + 1)), er, er, H', ⟨by have := HK1.out; omega⟩, ⟨rdl HO_0⟩, ⟨by repeat (first | (with_reducible first | exact HK.out | apply Kept.alloc | apply Kept.drewN | apply Kept.drew) | exact HK.out)⟩, ⟨belowd HB⟩⟩
   ·rw [if_neg c3] at H
    have c3b0 : decide (x5_1 < (x0_1.length : Int)) = false := decide_eq_false c3
    clear c3
    simp only [Option.some.injEq, Prod.mk.injEq] at H
    obtain ⟨rfl, rfl⟩ := H
    obtain ⟨Ao9, co9, eo9⟩ := Kd.R_slice HO_0.out
    subst eo9; go_wp2
    go_ret
    exact ⟨er2, by (with_reducible repeat (first | apply Kd.R_alloc | apply Kd.R_drewN | apply Kd.R_drew)); exact HO_0.out, belowd HB, by repeat (first | (with_reducible first | exact HK.out | apply Kept.alloc | apply Kept.drewN | apply Kept.drew) | exact HK.out)⟩

/-! ### laws_heldIntS: function 109 -/
def laws_heldIntS.l0 : Nat → List Int → Int → Int → Option (Int)
  | 0, _, _, _ => none
  | k + 1, x0, x1, x5 => if x5 < (x0.length : Int) then (if 0 ≤ x5 then (if (rd x0 x5) = x1 then (laws_heldIntS.l0 k x0 (wrap64 (x1 + 1)) (wrap64 (x5 + 1))) else (some (-1))) else (none)) else (some x1)
def laws_heldIntS.f (k : Nat) (l0 : List Int) (a1 : Int) : Option (Int) := laws_heldIntS.l0 k l0 a1 0
theorem laws_heldIntS.mono_l : ∀ k, (∀ y0 y1 y2, LeO (laws_heldIntS.l0 k y0 y1 y2) (laws_heldIntS.l0 (k + 1) y0 y1 y2))
 | 0 => fun _ _ _ r h => by simp [laws_heldIntS.l0] at h
 | k + 1 => by
  have ih0 := laws_heldIntS.mono_l k
  ·intro y0 y1 y2
   unfold laws_heldIntS.l0
   repeat' (first | (with_reducible first | exact ih0 _ _ _ | exact LeO.refl _ | exact LeO.none _ | refine LeO.ite ?_ ?_ | refine LeO.bind ?_ (fun _ => ?_)) | exact ih0 _ _ _ | exact LeO.none _ | refine LeO.ite ?_ ?_ | refine LeO.bind ?_ (fun _ => ?_))
theorem laws_heldIntS.mono : ∀ a0 a1 k, LeO (laws_heldIntS.f k a0 a1) (laws_heldIntS.f (k + 1) a0 a1) := by
 intro a0 a1 k
 have ih0 := laws_heldIntS.mono_l k
 unfold laws_heldIntS.f
 repeat' (first | (with_reducible first | exact ih0 _ _ _ | exact LeO.refl _ | exact LeO.none _ | refine LeO.ite ?_ ?_ | refine LeO.bind ?_ (fun _ => ?_)) | exact ih0 _ _ _ | exact LeO.none _ | refine LeO.ite ?_ ?_ | refine LeO.bind ?_ (fun _ => ?_))
set_option maxHeartbeats 8000000 in
set_option maxRecDepth 100000 in
theorem laws_heldIntS.calls (k : Nat) (A0 : Option Addr) (c0 : Nat) (l0 : List Int) (a1 : Int) (r : Int) (w : World) (hr0 : Kd.C (Kd.int .i64) w A0 l0.length l0) (hc0 : l0.length ≤ c0) (h : laws_heldIntS.f k l0 a1 = some r) :
  Calls Try.prog 109 #[.slice A0 l0.length c0, .int .i64 a1] w fun e w' => e = .returned (.int .i64 r) ∧ Drawn0 w w' := by
 have HR0 := Aside0.mk hr0; have HC0 := Aside0.mk hc0; clear hr0 hc0
 have H : (laws_heldIntS.l0 k l0 a1 0) = some r := h
 clear h
 have H' := Aside0.mk H
 clear H
 go_enter Try.func109, Try.ntmps109
 go_wp2
 go_loopg [1, 5] k (fun kq v1 v5 w' => ∃ (x1_1 : Int) (x5_1 : Int), v1 = .int .i64 x1_1 ∧ v5 = .int .i64 x5_1 ∧ Aside0 (laws_heldIntS.l0 kq l0 x1_1 x5_1 = some r) ∧ Aside0 (kq ≤ k) ∧ Drawn0 w w')
 case atStart => exact ⟨(a1), (0), er, er, H', ⟨Nat.le_refl _⟩, drw⟩
 case round =>
  clear H'
  obtain ⟨x1_1, x5_1, rfl, rfl, HA, HK1, ⟨m1, rfl⟩⟩ := hrel
  cases gk with
  | zero => exact absurd HA.out (by simp [laws_heldIntS.l0])
  | succ k1 =>
   have H := HA.out; clear HA
   simp only [laws_heldIntS.l0] at H
   by_cases c3 : x5_1 < (l0.length : Int)
   ·rw [if_pos c3] at H
    have c3b0 : decide (x5_1 < (l0.length : Int)) = true := decide_eq_true c3
    clear c3; replace H := ifS H; obtain ⟨c4, H⟩ := H; have c4b0 := decide_eq_true c4; clear c4
    by_cases c5 : (rd l0 x5_1) = x1_1
    ·rw [if_pos c5] at H
     have c5b0 : ((rd l0 x5_1) == x1_1) = true := beq_iff_eq.mpr c5
     have c5b1 : ((rd l0 x5_1) != x1_1) = false := bne_eq_false_iff_eq.mpr c5
     clear c5
     have H' := Aside0.mk H
     clear H
     have p366 : 0 ≤ (x5_1 : Int) := da
     have q366 : x5_1 < (l0.length : Int) := da
     obtain ⟨ad366, e366, hx366_0⟩ := Kd.at_int HR0.out x5_1 p366 q366
     cases e366
     replace p366 := eq_true p366; replace q366 := eq_true q366; go_wp2
     go_roundg k1
     case measure => have := HK1.out; omega
     case rel => exact ⟨(wrap64 (x1_1 + 1)), (wrap64 (x5_1 + 1)), er, er, H', ⟨by have := HK1.out; omega⟩, drw⟩
    ·rw [if_neg c5] at H
     have c5b0 : ((rd l0 x5_1) == x1_1) = false := beq_eq_false_iff_ne.mpr c5
     have c5b1 : ((rd l0 x5_1) != x1_1) = true := bne_iff_ne.mpr c5
     obtain rfl := Option.some.inj H
     have p366 : 0 ≤ (x5_1 : Int) := da
     have q366 : x5_1 < (l0.length : Int) := da
     obtain ⟨ad366, e366, hx366_0⟩ := Kd.at_int HR0.out x5_1 p366 q366
     cases e366
     replace p366 := eq_true p366; replace q366 := eq_true q366; go_wp2
     go_ret
     exact ⟨er, drw⟩
   ·rw [if_neg c3] at H
    have c3b0 : decide (x5_1 < (l0.length : Int)) = false := decide_eq_false c3
    clear c3
    obtain rfl := Option.some.inj H
    go_wp2
    go_ret
    exact ⟨er, drw⟩

/-! ### laws_heldIntSS: function 134 -/
def laws_heldIntSS.l0 : Nat → List (List Int) → Int → Int → Option (Int)
  | 0, _, _, _ => none
  | k + 1, x0, x1, x5 => if x5 < (x0.length : Int) then (if 0 ≤ x5 then ((laws_heldIntS.f k (rd_L1 x0 x5) x1).bind fun t368 => (if t368 < 0 then (some (-1)) else (laws_heldIntSS.l0 k x0 t368 (wrap64 (x5 + 1))))) else (none)) else (some x1)
def laws_heldIntSS.f (k : Nat) (l0 : List (List Int)) (a1 : Int) : Option (Int) := laws_heldIntSS.l0 k l0 a1 0
theorem laws_heldIntSS.mono_l : ∀ k, (∀ y0 y1 y2, LeO (laws_heldIntSS.l0 k y0 y1 y2) (laws_heldIntSS.l0 (k + 1) y0 y1 y2))
 | 0 => fun _ _ _ r h => by simp [laws_heldIntSS.l0] at h
 | k + 1 => by
  have ih0 := laws_heldIntSS.mono_l k
  ·intro y0 y1 y2
   unfold laws_heldIntSS.l0
   repeat' (first | (with_reducible first | exact ih0 _ _ _ | exact laws_heldIntS.mono _ _ _ | exact LeO.refl _ | exact LeO.none _ | refine LeO.ite ?_ ?_ | refine LeO.bind ?_ (fun _ => ?_)) | exact ih0 _ _ _ | exact laws_heldIntS.mono _ _ _ | exact LeO.none _ | refine LeO.ite ?_ ?_ | refine LeO.bind ?_ (fun _ => ?_))
theorem laws_heldIntSS.mono : ∀ a0 a1 k, LeO (laws_heldIntSS.f k a0 a1) (laws_heldIntSS.f (k + 1) a0 a1) := by
 intro a0 a1 k
 have ih0 := laws_heldIntSS.mono_l k
 unfold laws_heldIntSS.f
 repeat' (first | (with_reducible first | exact ih0 _ _ _ | exact laws_heldIntS.mono _ _ _ | exact LeO.refl _ | exact LeO.none _ | refine LeO.ite ?_ ?_ | refine LeO.bind ?_ (fun _ => ?_)) | exact ih0 _ _ _ | exact laws_heldIntS.mono _ _ _ | exact LeO.none _ | refine LeO.ite ?_ ?_ | refine LeO.bind ?_ (fun _ => ?_))
set_option maxHeartbeats 8000000 in
set_option maxRecDepth 100000 in
theorem laws_heldIntSS.calls (k : Nat) (A0 : Option Addr) (c0 : Nat) (l0 : List (List Int)) (a1 : Int) (r : Int) (w : World) (hr0 : Kd.C (Kd.slice 3 (Kd.int .i64)) w A0 l0.length l0) (hc0 : l0.length ≤ c0) (h : laws_heldIntSS.f k l0 a1 = some r) :
  Calls Try.prog 134 #[.slice A0 l0.length c0, .int .i64 a1] w fun e w' => e = .returned (.int .i64 r) ∧ Drawn0 w w' := by
 have HR0 := Aside0.mk hr0; have HC0 := Aside0.mk hc0; clear hr0 hc0
 have H : (laws_heldIntSS.l0 k l0 a1 0) = some r := h
 clear h
 have H' := Aside0.mk H
 clear H
 go_enter Try.func134, Try.ntmps134
 go_wp2
 go_loopg [1, 5] k (fun kq v1 v5 w' => ∃ (x1_1 : Int) (x5_1 : Int), v1 = .int .i64 x1_1 ∧ v5 = .int .i64 x5_1 ∧ Aside0 (laws_heldIntSS.l0 kq l0 x1_1 x5_1 = some r) ∧ Aside0 (kq ≤ k) ∧ Drawn0 w w')
 case atStart => exact ⟨(a1), (0), er, er, H', ⟨Nat.le_refl _⟩, drw⟩
 case round =>
  clear H'
  obtain ⟨x1_1, x5_1, rfl, rfl, HA, HK1, ⟨m1, rfl⟩⟩ := hrel
  cases gk with
  | zero => exact absurd HA.out (by simp [laws_heldIntSS.l0])
  | succ k1 =>
   have H := HA.out; clear HA
   simp only [laws_heldIntSS.l0] at H
   by_cases c3 : x5_1 < (l0.length : Int)
   ·rw [if_pos c3] at H
    have c3b0 : decide (x5_1 < (l0.length : Int)) = true := decide_eq_true c3
    clear c3; replace H := ifS H; obtain ⟨c4, H⟩ := H; have c4b0 := decide_eq_true c4; clear c4; replace H := bS H; obtain ⟨t368, A5, H⟩ := H
    replace H : (if t368 < 0 then (some (-1)) else (laws_heldIntSS.l0 k1 l0 t368 (wrap64 (x5_1 + 1)))) = some r := H
    by_cases c6 : t368 < 0
    ·rw [if_pos c6] at H
     have c6b0 : decide (t368 < 0) = true := decide_eq_true c6
     clear c6
     obtain rfl := Option.some.inj H
     have p367 : 0 ≤ (x5_1 : Int) := da
     have q367 : x5_1 < (l0.length : Int) := da
     obtain ⟨ad367, A367_0, c367_0, e367, hx367_0, hl367_0, hi367_0⟩ := at_L1 HR0.out x5_1 p367 q367
     cases e367
     have HR367_0 := Aside0.mk hi367_0; have HC367_0 := Aside0.mk hl367_0; clear hi367_0 hl367_0; replace p367 := eq_true p367; replace q367 := eq_true q367
     go_wp2_with (first | ((with_reducible refine gate_callee (f := 109) rfl ?_); refine goesLa (some 17) rfl Try.func109 #[.slice A367_0 (rd_L1 l0 x5_1).length c367_0, .int .i64 x1_1] rfl ?_; (with_reducible refine (laws_heldIntS.calls k1 _ _ (rd_L1 l0 x5_1) x1_1 t368 _ ?side1 ?side2 A5.out).mono ?_); (case side1 => exact cd HR367_0.out); (case side2 => exact HC367_0.out); rintro e w' ⟨rfl, ⟨nd, rfl⟩⟩; refine ⟨_, rfl, ?_⟩))
     go_ret
     exact ⟨er, drw⟩
    ·rw [if_neg c6] at H
     have c6b0 : decide (t368 < 0) = false := decide_eq_false c6
     clear c6
     have H' := Aside0.mk H
     clear H
     have p367 : 0 ≤ (x5_1 : Int) := da
     have q367 : x5_1 < (l0.length : Int) := da
     obtain ⟨ad367, A367_0, c367_0, e367, hx367_0, hl367_0, hi367_0⟩ := at_L1 HR0.out x5_1 p367 q367
     cases e367
     have HR367_0 := Aside0.mk hi367_0; have HC367_0 := Aside0.mk hl367_0; clear hi367_0 hl367_0; replace p367 := eq_true p367; replace q367 := eq_true q367
     go_wp2_with (first | ((with_reducible refine gate_callee (f := 109) rfl ?_); refine goesLa (some 17) rfl Try.func109 #[.slice A367_0 (rd_L1 l0 x5_1).length c367_0, .int .i64 x1_1] rfl ?_; (with_reducible refine (laws_heldIntS.calls k1 _ _ (rd_L1 l0 x5_1) x1_1 t368 _ ?side1 ?side2 A5.out).mono ?_); (case side1 => exact cd HR367_0.out); (case side2 => exact HC367_0.out); rintro e w' ⟨rfl, ⟨nd, rfl⟩⟩; refine ⟨_, rfl, ?_⟩))
     go_roundg k1
     case measure => have := HK1.out; omega
     case rel => exact ⟨(t368), (wrap64 (x5_1 + 1)), er, er, H', ⟨by have := HK1.out; omega⟩, drw⟩
   ·rw [if_neg c3] at H
    have c3b0 : decide (x5_1 < (l0.length : Int)) = false := decide_eq_false c3
    clear c3
    obtain rfl := Option.some.inj H
    go_wp2
    go_ret
    exact ⟨er, drw⟩

/-! ### laws_heldBoard: function 45 -/
def laws_heldBoard.f (k : Nat) (a0_0 : Int) (a0_1 : Int) (l0_2 : List (List Int)) (l0_3 : List Int) (l0_4 : List Int) (a1 : Int) : Option (Int) := (laws_heldIntSS.f k l0_2 a1).bind fun t370 => (if t370 < 0 then (some (-1)) else ((laws_heldIntS.f k l0_3 t370).bind fun t371 => (if t371 < 0 then (some (-1)) else ((laws_heldIntS.f k l0_4 t371).bind fun t372 => (if t372 < 0 then (some (-1)) else (some t372))))))
theorem laws_heldBoard.mono : ∀ a0 a1 a2 a3 a4 a5 k, LeO (laws_heldBoard.f k a0 a1 a2 a3 a4 a5) (laws_heldBoard.f (k + 1) a0 a1 a2 a3 a4 a5) := by
 intro a0 a1 a2 a3 a4 a5 k
 unfold laws_heldBoard.f
 repeat' (first | (with_reducible first | exact laws_heldIntS.mono _ _ _ | exact laws_heldIntSS.mono _ _ _ | exact LeO.refl _ | exact LeO.none _ | refine LeO.ite ?_ ?_ | refine LeO.bind ?_ (fun _ => ?_)) | exact laws_heldIntS.mono _ _ _ | exact laws_heldIntSS.mono _ _ _ | exact LeO.none _ | refine LeO.ite ?_ ?_ | refine LeO.bind ?_ (fun _ => ?_))
set_option maxHeartbeats 8000000 in
set_option maxRecDepth 100000 in
theorem laws_heldBoard.calls (k : Nat) (a0_0 : Int) (a0_1 : Int) (A0_2 : Option Addr) (c0_2 : Nat) (l0_2 : List (List Int)) (A0_3 : Option Addr) (c0_3 : Nat) (l0_3 : List Int) (A0_4 : Option Addr) (c0_4 : Nat) (l0_4 : List Int) (a1 : Int) (r : Int) (w : World) (hr0_2 : Kd.C (Kd.slice 3 (Kd.int .i64)) w A0_2 l0_2.length l0_2) (hc0_2 : l0_2.length ≤ c0_2) (hr0_3 : Kd.C (Kd.int .i64) w A0_3 l0_3.length l0_3) (hc0_3 : l0_3.length ≤ c0_3) (hr0_4 : Kd.C (Kd.int .i64) w A0_4 l0_4.length l0_4) (hc0_4 : l0_4.length ≤ c0_4) (h : laws_heldBoard.f k a0_0 a0_1 l0_2 l0_3 l0_4 a1 = some r) :
  Calls Try.prog 45 #[.agg #[.int .i64 a0_0, .int .i64 a0_1, .slice A0_2 l0_2.length c0_2, .slice A0_3 l0_3.length c0_3, .slice A0_4 l0_4.length c0_4], .int .i64 a1] w fun e w' => e = .returned (.int .i64 r) ∧ Below w.heap.size w w' := by
 have hu47 := Try.underlying47
 have HR0_2 := Aside0.mk hr0_2; have HC0_2 := Aside0.mk hc0_2; clear hr0_2 hc0_2; have HR0_3 := Aside0.mk hr0_3; have HC0_3 := Aside0.mk hc0_3; clear hr0_3 hc0_3; have HR0_4 := Aside0.mk hr0_4; have HC0_4 := Aside0.mk hc0_4; clear hr0_4 hc0_4
 have HB := Aside0.mk (Below.refl w.heap.size w)
 have H : ((laws_heldIntSS.f k l0_2 a1).bind fun t370 => (if t370 < 0 then (some (-1)) else ((laws_heldIntS.f k l0_3 t370).bind fun t371 => (if t371 < 0 then (some (-1)) else ((laws_heldIntS.f k l0_4 t371).bind fun t372 => (if t372 < 0 then (some (-1)) else (some t372))))))) = some r := h
 clear h; replace H := bS H; obtain ⟨t370, A3, H⟩ := H
 replace H : (if t370 < 0 then (some (-1)) else ((laws_heldIntS.f k l0_3 t370).bind fun t371 => (if t371 < 0 then (some (-1)) else ((laws_heldIntS.f k l0_4 t371).bind fun t372 => (if t372 < 0 then (some (-1)) else (some t372)))))) = some r := H
 by_cases c4 : t370 < 0
 ·rw [if_pos c4] at H
  have c4b0 : decide (t370 < 0) = true := decide_eq_true c4
  clear c4
  obtain rfl := Option.some.inj H
  go_enter Try.func45, Try.ntmps45
  go_wp2_with (first | ((with_reducible refine gate_dst (N := 2) rfl ?_); refine boxev 2 #[.int .i64 a0_0, .int .i64 a0_1, .slice A0_2 l0_2.length c0_2, .slice A0_3 l0_3.length c0_3, .slice A0_4 l0_4.length c0_4] 47 ?_; intro gb369 hg w5 hbox hb; have BK369 := ak (hbox); have GW369 := ak (hgl hg (belowd HB)); have GE369 := ak (hgl hg (belowd HB)); replace HB := ak (below_step (belowd HB) hb); clear hb hbox hg; obtain ⟨hcz6_0, hcz6_1, hcz6_2, hcz6_3, hcz6_4, hfz6_0, hfz6_1, hfz6_2, hfz6_3, hfz6_4⟩ := box5 BK369) | ((with_reducible refine gate_callee (f := 134) rfl ?_); refine goesLa (some 8) rfl Try.func134 #[.slice A0_2 l0_2.length c0_2, .int .i64 a1] rfl ?_; (with_reducible refine (laws_heldIntSS.calls k _ _ l0_2 a1 t370 _ ?side1 ?side2 A3.out).mono ?_); (case side1 => exact cd (Kd.C_below HR0_2.out HB.out)); (case side2 => exact HC0_2.out); rintro e w' ⟨rfl, ⟨nd, rfl⟩⟩; refine ⟨_, rfl, ?_⟩))
  go_ret
  exact ⟨er2, belowg1 HB GE369⟩
 ·rw [if_neg c4] at H
  have c4b0 : decide (t370 < 0) = false := decide_eq_false c4
  clear c4; replace H := bS H; obtain ⟨t371, A7, H⟩ := H
  replace H : (if t371 < 0 then (some (-1)) else ((laws_heldIntS.f k l0_4 t371).bind fun t372 => (if t372 < 0 then (some (-1)) else (some t372)))) = some r := H
  by_cases c8 : t371 < 0
  ·rw [if_pos c8] at H
   have c8b0 : decide (t371 < 0) = true := decide_eq_true c8
   clear c8
   obtain rfl := Option.some.inj H
   go_enter Try.func45, Try.ntmps45
   go_wp2_with (first | ((with_reducible refine gate_dst (N := 2) rfl ?_); refine boxev 2 #[.int .i64 a0_0, .int .i64 a0_1, .slice A0_2 l0_2.length c0_2, .slice A0_3 l0_3.length c0_3, .slice A0_4 l0_4.length c0_4] 47 ?_; intro gb369 hg w9 hbox hb; have BK369 := ak (hbox); have GW369 := ak (hgl hg (belowd HB)); have GE369 := ak (hgl hg (belowd HB)); replace HB := ak (below_step (belowd HB) hb); clear hb hbox hg; obtain ⟨hcz10_0, hcz10_1, hcz10_2, hcz10_3, hcz10_4, hfz10_0, hfz10_1, hfz10_2, hfz10_3, hfz10_4⟩ := box5 BK369) | ((with_reducible refine gate_callee (f := 134) rfl ?_); refine goesLa (some 8) rfl Try.func134 #[.slice A0_2 l0_2.length c0_2, .int .i64 a1] rfl ?_; (with_reducible refine (laws_heldIntSS.calls k _ _ l0_2 a1 t370 _ ?side1 ?side2 A3.out).mono ?_); (case side1 => exact cd (Kd.C_below HR0_2.out HB.out)); (case side2 => exact HC0_2.out); rintro e w' ⟨rfl, ⟨nd, rfl⟩⟩; refine ⟨_, rfl, ?_⟩) | ((with_reducible refine gate_callee (f := 109) rfl ?_); refine goesLa (some 14) rfl Try.func109 #[.slice A0_3 l0_3.length c0_3, .int .i64 t370] rfl ?_; (with_reducible refine (laws_heldIntS.calls k _ _ l0_3 t370 t371 _ ?side1 ?side2 A7.out).mono ?_); (case side1 => exact cd (Kd.C_below HR0_3.out (belowg1 HB GE369))); (case side2 => exact HC0_3.out); rintro e w' ⟨rfl, ⟨nd, rfl⟩⟩; refine ⟨_, rfl, ?_⟩))
   go_ret
   exact ⟨er2, belowg1 HB GE369⟩
  ·rw [if_neg c8] at H
   have c8b0 : decide (t371 < 0) = false := decide_eq_false c8
   clear c8; replace H := bS H; obtain ⟨t372, A11, H⟩ := H
   replace H : (if t372 < 0 then (some (-1)) else (some t372)) = some r := H
   by_cases c12 : t372 < 0
   ·rw [if_pos c12] at H
    have c12b0 : decide (t372 < 0) = true := decide_eq_true c12
    clear c12
    obtain rfl := Option.some.inj H
    go_enter Try.func45, Try.ntmps45
    go_wp2_with (first | ((with_reducible refine gate_dst (N := 2) rfl ?_); refine boxev 2 #[.int .i64 a0_0, .int .i64 a0_1, .slice A0_2 l0_2.length c0_2, .slice A0_3 l0_3.length c0_3, .slice A0_4 l0_4.length c0_4] 47 ?_; intro gb369 hg w13 hbox hb; have BK369 := ak (hbox); have GW369 := ak (hgl hg (belowd HB)); have GE369 := ak (hgl hg (belowd HB)); replace HB := ak (below_step (belowd HB) hb); clear hb hbox hg; obtain ⟨hcz14_0, hcz14_1, hcz14_2, hcz14_3, hcz14_4, hfz14_0, hfz14_1, hfz14_2, hfz14_3, hfz14_4⟩ := box5 BK369) | ((with_reducible refine gate_callee (f := 134) rfl ?_); refine goesLa (some 8) rfl Try.func134 #[.slice A0_2 l0_2.length c0_2, .int .i64 a1] rfl ?_; (with_reducible refine (laws_heldIntSS.calls k _ _ l0_2 a1 t370 _ ?side1 ?side2 A3.out).mono ?_); (case side1 => exact cd (Kd.C_below HR0_2.out HB.out)); (case side2 => exact HC0_2.out); rintro e w' ⟨rfl, ⟨nd, rfl⟩⟩; refine ⟨_, rfl, ?_⟩) | ((with_reducible refine gate_callee (f := 109) rfl ?_); refine goesLa (some 14) rfl Try.func109 #[.slice A0_3 l0_3.length c0_3, .int .i64 t370] rfl ?_; (with_reducible refine (laws_heldIntS.calls k _ _ l0_3 t370 t371 _ ?side1 ?side2 A7.out).mono ?_); (case side1 => exact cd (Kd.C_below HR0_3.out (belowg1 HB GE369))); (case side2 => exact HC0_3.out); rintro e w' ⟨rfl, ⟨nd, rfl⟩⟩; refine ⟨_, rfl, ?_⟩) | ((with_reducible refine gate_callee (f := 109) rfl ?_); refine goesLa (some 20) rfl Try.func109 #[.slice A0_4 l0_4.length c0_4, .int .i64 t371] rfl ?_; (with_reducible refine (laws_heldIntS.calls k _ _ l0_4 t371 t372 _ ?side1 ?side2 A11.out).mono ?_); (case side1 => exact cd (Kd.C_below HR0_4.out (belowg1 HB GE369))); (case side2 => exact HC0_4.out); rintro e w' ⟨rfl, ⟨nd, rfl⟩⟩; refine ⟨_, rfl, ?_⟩))
    go_ret
    exact ⟨er2, belowg1 HB GE369⟩
   ·rw [if_neg c12] at H
    have c12b0 : decide (t372 < 0) = false := decide_eq_false c12
    clear c12
    obtain rfl := Option.some.inj H
    go_enter Try.func45, Try.ntmps45
    go_wp2_with (first | ((with_reducible refine gate_dst (N := 2) rfl ?_); refine boxev 2 #[.int .i64 a0_0, .int .i64 a0_1, .slice A0_2 l0_2.length c0_2, .slice A0_3 l0_3.length c0_3, .slice A0_4 l0_4.length c0_4] 47 ?_; intro gb369 hg w15 hbox hb; have BK369 := ak (hbox); have GW369 := ak (hgl hg (belowd HB)); have GE369 := ak (hgl hg (belowd HB)); replace HB := ak (below_step (belowd HB) hb); clear hb hbox hg; obtain ⟨hcz16_0, hcz16_1, hcz16_2, hcz16_3, hcz16_4, hfz16_0, hfz16_1, hfz16_2, hfz16_3, hfz16_4⟩ := box5 BK369) | ((with_reducible refine gate_callee (f := 134) rfl ?_); refine goesLa (some 8) rfl Try.func134 #[.slice A0_2 l0_2.length c0_2, .int .i64 a1] rfl ?_; (with_reducible refine (laws_heldIntSS.calls k _ _ l0_2 a1 t370 _ ?side1 ?side2 A3.out).mono ?_); (case side1 => exact cd (Kd.C_below HR0_2.out HB.out)); (case side2 => exact HC0_2.out); rintro e w' ⟨rfl, ⟨nd, rfl⟩⟩; refine ⟨_, rfl, ?_⟩) | ((with_reducible refine gate_callee (f := 109) rfl ?_); refine goesLa (some 14) rfl Try.func109 #[.slice A0_3 l0_3.length c0_3, .int .i64 t370] rfl ?_; (with_reducible refine (laws_heldIntS.calls k _ _ l0_3 t370 t371 _ ?side1 ?side2 A7.out).mono ?_); (case side1 => exact cd (Kd.C_below HR0_3.out (belowg1 HB GE369))); (case side2 => exact HC0_3.out); rintro e w' ⟨rfl, ⟨nd, rfl⟩⟩; refine ⟨_, rfl, ?_⟩) | ((with_reducible refine gate_callee (f := 109) rfl ?_); refine goesLa (some 20) rfl Try.func109 #[.slice A0_4 l0_4.length c0_4, .int .i64 t371] rfl ?_; (with_reducible refine (laws_heldIntS.calls k _ _ l0_4 t371 t372 _ ?side1 ?side2 A11.out).mono ?_); (case side1 => exact cd (Kd.C_below HR0_4.out (belowg1 HB GE369))); (case side2 => exact HC0_4.out); rintro e w' ⟨rfl, ⟨nd, rfl⟩⟩; refine ⟨_, rfl, ?_⟩))
    go_ret
    exact ⟨er2, belowg1 HB GE369⟩

/-! ### laws_heldBoolS: function 46 -/
def laws_heldBoolS.l0 : Nat → List Bool → Int → Int → Option (Int)
  | 0, _, _, _ => none
  | k + 1, x0, x1, x5 => if x5 < (x0.length : Int) then (if 0 ≤ x5 then (if ((rdOf false x0 x5) != ((Int.tmod x1 3) == 0)) = true then (some (-1)) else (laws_heldBoolS.l0 k x0 (wrap64 (x1 + 1)) (wrap64 (x5 + 1)))) else (none)) else (some x1)
def laws_heldBoolS.f (k : Nat) (l0 : List Bool) (a1 : Int) : Option (Int) := laws_heldBoolS.l0 k l0 a1 0
theorem laws_heldBoolS.mono_l : ∀ k, (∀ y0 y1 y2, LeO (laws_heldBoolS.l0 k y0 y1 y2) (laws_heldBoolS.l0 (k + 1) y0 y1 y2))
 | 0 => fun _ _ _ r h => by simp [laws_heldBoolS.l0] at h
 | k + 1 => by
  have ih0 := laws_heldBoolS.mono_l k
  ·intro y0 y1 y2
   unfold laws_heldBoolS.l0
   repeat' (first | (with_reducible first | exact ih0 _ _ _ | exact LeO.refl _ | exact LeO.none _ | refine LeO.ite ?_ ?_ | refine LeO.bind ?_ (fun _ => ?_)) | exact ih0 _ _ _ | exact LeO.none _ | refine LeO.ite ?_ ?_ | refine LeO.bind ?_ (fun _ => ?_))
theorem laws_heldBoolS.mono : ∀ a0 a1 k, LeO (laws_heldBoolS.f k a0 a1) (laws_heldBoolS.f (k + 1) a0 a1) := by
 intro a0 a1 k
 have ih0 := laws_heldBoolS.mono_l k
 unfold laws_heldBoolS.f
 repeat' (first | (with_reducible first | exact ih0 _ _ _ | exact LeO.refl _ | exact LeO.none _ | refine LeO.ite ?_ ?_ | refine LeO.bind ?_ (fun _ => ?_)) | exact ih0 _ _ _ | exact LeO.none _ | refine LeO.ite ?_ ?_ | refine LeO.bind ?_ (fun _ => ?_))
set_option maxHeartbeats 8000000 in
set_option maxRecDepth 100000 in
theorem laws_heldBoolS.calls (k : Nat) (A0 : Option Addr) (c0 : Nat) (l0 : List Bool) (a1 : Int) (r : Int) (w : World) (hr0 : Kd.C Kd.bool w A0 l0.length l0) (hc0 : l0.length ≤ c0) (h : laws_heldBoolS.f k l0 a1 = some r) :
  Calls Try.prog 46 #[.slice A0 l0.length c0, .int .i64 a1] w fun e w' => e = .returned (.int .i64 r) ∧ Drawn0 w w' := by
 have HR0 := Aside0.mk hr0; have HC0 := Aside0.mk hc0; clear hr0 hc0
 have H : (laws_heldBoolS.l0 k l0 a1 0) = some r := h
 clear h
 have H' := Aside0.mk H
 clear H
 go_enter Try.func46, Try.ntmps46
 go_wp2
 go_loopg [1, 5] k (fun kq v1 v5 w' => ∃ (x1_1 : Int) (x5_1 : Int), v1 = .int .i64 x1_1 ∧ v5 = .int .i64 x5_1 ∧ Aside0 (laws_heldBoolS.l0 kq l0 x1_1 x5_1 = some r) ∧ Aside0 (kq ≤ k) ∧ Drawn0 w w')
 case atStart => exact ⟨(a1), (0), er, er, H', ⟨Nat.le_refl _⟩, drw⟩
 case round =>
  clear H'
  obtain ⟨x1_1, x5_1, rfl, rfl, HA, HK1, ⟨m1, rfl⟩⟩ := hrel
  cases gk with
  | zero => exact absurd HA.out (by simp [laws_heldBoolS.l0])
  | succ k1 =>
   have H := HA.out; clear HA
   simp only [laws_heldBoolS.l0] at H
   by_cases c3 : x5_1 < (l0.length : Int)
   ·rw [if_pos c3] at H
    have c3b0 : decide (x5_1 < (l0.length : Int)) = true := decide_eq_true c3
    clear c3; replace H := ifS H; obtain ⟨c4, H⟩ := H; have c4b0 := decide_eq_true c4; clear c4
    by_cases c5 : ((rdOf false l0 x5_1) != ((Int.tmod x1_1 3) == 0)) = true
    ·rw [if_pos c5] at H
     have c5b0 : ((rdOf false l0 x5_1) != ((Int.tmod x1_1 3) == 0)) = true := c5
     (try (have c5b1 : decide ((rdOf false l0 x5_1) = ((Int.tmod x1_1 3) == 0)) = false := by simpa using c5))
     (try (have c5b2 : ((rdOf false l0 x5_1) == ((Int.tmod x1_1 3) == 0)) = false := by simpa using c5))
     (try (have c5b3 : ¬ ((rdOf false l0 x5_1) = ((Int.tmod x1_1 3) == 0)) := by simpa using c5))
     clear c5
     obtain rfl := Option.some.inj H
     have p373 : 0 ≤ (x5_1 : Int) := da
     have q373 : x5_1 < (l0.length : Int) := da
     obtain ⟨ad373, e373, hx373_0⟩ := Kd.at_bool HR0.out x5_1 p373 q373
     cases e373
     replace p373 := eq_true p373; replace q373 := eq_true q373; go_wp2
     go_ret
     exact ⟨er, drw⟩
    ·rw [if_neg c5] at H
     have c5b0 : ((rdOf false l0 x5_1) != ((Int.tmod x1_1 3) == 0)) = false := by simpa using c5
     (try (have c5b1 : decide ((rdOf false l0 x5_1) = ((Int.tmod x1_1 3) == 0)) = true := by simpa using c5))
     (try (have c5b2 : ((rdOf false l0 x5_1) == ((Int.tmod x1_1 3) == 0)) = true := by simpa using c5))
     clear c5
     have H' := Aside0.mk H
     clear H
     have p373 : 0 ≤ (x5_1 : Int) := da
     have q373 : x5_1 < (l0.length : Int) := da
     obtain ⟨ad373, e373, hx373_0⟩ := Kd.at_bool HR0.out x5_1 p373 q373
     cases e373
     replace p373 := eq_true p373; replace q373 := eq_true q373; go_wp2
     go_roundg k1
     case measure => have := HK1.out; omega
     case rel => exact ⟨(wrap64 (x1_1 + 1)), (wrap64 (x5_1 + 1)), er, er, H', ⟨by have := HK1.out; omega⟩, drw⟩
   ·rw [if_neg c3] at H
    have c3b0 : decide (x5_1 < (l0.length : Int)) = false := decide_eq_false c3
    clear c3
    obtain rfl := Option.some.inj H
    go_wp2
    go_ret
    exact ⟨er, drw⟩

end Go.Proofs.Ytkgogglnipdcfaa.QFnExactPlayBoard
