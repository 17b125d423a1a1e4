-- printed by this session's own program (wip/tools/pp.py: the kit's print.py with changes); Lean checks it
import Derived.Test.YtkgogglnipdcfaaQFnBoardx0
import Derived.Test.YtkgogglnipdcfaaQFnBoardx2
import Derived.Test.YtkgogglnipdcfaaQFnBoardx4
namespace Go.Proofs.Ytkgogglnipdcfaa.QFnBoard
open Go.RowKit Go.Proofs.YtkgogglnipdcfaaW.PrintWords Go.Proofs.YtkgogglnipdcfaaW.PrintLast Go.Proofs.YtkgogglnipdcfaaW.PrintMore
attribute [local go_sem] max2_int min2_int max_two min_two max_three min_three max_four min_four strLss strGtr strLeq strGeq   -- for this text's walks alone
set_option linter.unusedVariables false
set_option linter.unusedSimpArgs false

/-! ### (*impl.Board).sign's closure (227), slices.IndexFunc (240) and slices.ContainsFunc (226) at it -/
def bd_at.f (l0 : List Int) (a1 a2 : Int) : Option Bool := if 0 < (l0.length : Int) then (if (rd l0 0) = a1 then (if 1 < (l0.length : Int) then (some ((rd l0 1) == a2)) else (none)) else (some false)) else (none)
set_option maxHeartbeats 8000000 in
set_option maxRecDepth 100000 in
theorem bd_at.calls (A0 : Option Addr) (c0 : Nat) (l0 : List Int) (g1 g2 g : Nat) (f0 a1 a2 : Int) (v2 v3 v4 : Value) (r : Bool) (w : World) (hr0 : Kd.C (Kd.int .i64) w A0 l0.length l0) (hc0 : l0.length ≤ c0) (hq1 : w.heap[g1]? = some (.cells #[.pointer (some ⟨g, 0, none⟩)] 210 (0, 0))) (hq2 : w.heap[g2]? = some (.cells #[.int .i64 a2] 3 (0, 0))) (hq : w.heap[g]? = some (.cells #[.int .i64 f0, .int .i64 a1, v2, v3, v4] 47 (0, 0))) (h : bd_at.f l0 a1 a2 = some r) :
  Calls Try.prog 227 #[.slice A0 l0.length c0, .pointer (some ⟨g1, 0, none⟩), .pointer (some ⟨g2, 0, none⟩)] w fun e w' => e = .returned (.bool r) ∧ Drawn0 w w' := by
 have HR0 := Aside0.mk hr0; have HC0 := Aside0.mk hc0; clear hr0 hc0
 have hcq1 : w.cell? ⟨g1, 0, none⟩ = some (.pointer (some ⟨g, 0, none⟩)) := (blk_cell hq1 0).trans rfl
 have hcq2 : w.cell? ⟨g2, 0, none⟩ = some (.int .i64 a2) := (blk_cell hq2 0).trans rfl
 have hcq3 : w.cell? ⟨g, 1, none⟩ = some (.int .i64 a1) := (blk_cell hq 1).trans rfl
 have H : (if 0 < (l0.length : Int) then (if (rd l0 0) = a1 then (if 1 < (l0.length : Int) then (some ((rd l0 1) == a2)) else (none)) else (some false)) else (none)) = some r := h
 clear h; replace H := ifS H; obtain ⟨c5, H⟩ := H; have c5b0 := decide_eq_true c5
 have c5b1 : decide (0 < l0.length) = true := decide_eq_true (by omega)
 clear c5
 by_cases c6 : (rd l0 0) = a1
 ·rw [if_pos c6] at H
  have c6b0 : ((rd l0 0) == a1) = true := beq_iff_eq.mpr c6
  have c6b1 : ((rd l0 0) != a1) = false := bne_eq_false_iff_eq.mpr c6
  clear c6; replace H := ifS H; obtain ⟨c7, H⟩ := H; have c7b0 := decide_eq_true c7
  have c7b1 : decide (1 < l0.length) = true := decide_eq_true (by omega)
  clear c7
  obtain rfl := Option.some.inj H
  have p338 : 0 ≤ (0 : Int) := (by omega)
  have q338 : 0 < (l0.length : Int) := da
  obtain ⟨ad338, e338, hx338_0⟩ := Kd.at_int HR0.out 0 p338 q338
  cases e338
  have qi338 : (0 < l0.length) = True := eq_true (by omega)
  (try rw [show ((0 : Int)).toNat = 0 from rfl] at hx338_0)
  (try rw [Addr.add_zero'] at hx338_0)
  replace p338 := eq_true p338; replace q338 := eq_true q338
  have p339 : 0 ≤ (1 : Int) := (by omega)
  have q339 : 1 < (l0.length : Int) := da
  obtain ⟨ad339, e339, hx339_0⟩ := Kd.at_int HR0.out 1 p339 q339
  obtain rfl : ad338 = ad339 := (by injection e339)
  (try simp only [show (1 : Int).toNat = 1 from rfl, Nat.reduceMul, Nat.reduceEqDiff, Go.Addr.add, ↓reduceIte] at hx339_0)
  have qi339 : (1 < l0.length) = True := eq_true (by omega)
  (try rw [show ((1 : Int)).toNat = 1 from rfl] at hx339_0)
  replace p339 := eq_true p339; replace q339 := eq_true q339
  go_enter Try.func227, Try.ntmps227
  go_wp2
  repeat (go_quiet (fail); try go_wp2)
  go_ret
  exact ⟨er, drw⟩
 ·rw [if_neg c6] at H
  have c6b0 : ((rd l0 0) == a1) = false := beq_eq_false_iff_ne.mpr c6
  have c6b1 : ((rd l0 0) != a1) = true := bne_iff_ne.mpr c6
  obtain rfl := Option.some.inj H
  have p338 : 0 ≤ (0 : Int) := (by omega)
  have q338 : 0 < (l0.length : Int) := da
  obtain ⟨ad338, e338, hx338_0⟩ := Kd.at_int HR0.out 0 p338 q338
  cases e338
  have qi338 : (0 < l0.length) = True := eq_true (by omega)
  (try rw [show ((0 : Int)).toNat = 0 from rfl] at hx338_0)
  (try rw [Addr.add_zero'] at hx338_0)
  replace p338 := eq_true p338; replace q338 := eq_true q338
  go_enter Try.func227, Try.ntmps227
  go_wp2
  repeat (go_quiet (fail); try go_wp2)
  go_ret
  exact ⟨er, drw⟩
def bd_ix.l0 : Nat → List (List Int) → Int → Int → Int → Int → Option (Int)
  | 0, _, _, _, _, _ => none
  | k + 1, x0, x7, x8, a1, a2 => if x8 < x7 then (if 0 ≤ x8 then (if x8 < (x0.length : Int) then ((bd_at.f (rd_L3 x0 x8) a1 a2).bind fun t342 => (if t342 = true then (some x8) else (bd_ix.l0 k x0 x7 (wrap64 (x8 + 1)) a1 a2))) else (none)) else (none)) else (some (-1))
theorem bd_ix.mono_l : ∀ k, (∀ y0 y1 y2 y3 y4, LeO (bd_ix.l0 k y0 y1 y2 y3 y4) (bd_ix.l0 (k + 1) y0 y1 y2 y3 y4))
 | 0 => fun _ _ _ _ _ r h => by simp [bd_ix.l0] at h
 | k + 1 => by
  have ih0 := bd_ix.mono_l k
  intro y0 y1 y2 y3 y4
  unfold bd_ix.l0
  repeat' (first | (with_reducible first | exact ih0 _ _ _ _ _ | exact LeO.refl _ | exact LeO.none _ | refine LeO.ite ?_ ?_ | refine LeO.bind ?_ (fun _ => ?_)) | exact ih0 _ _ _ _ _ | exact LeO.none _ | refine LeO.ite ?_ ?_ | refine LeO.bind ?_ (fun _ => ?_))
set_option maxHeartbeats 8000000 in
set_option maxRecDepth 100000 in
theorem bd_ix.calls (k : Nat) (A0 : Option Addr) (c0 : Nat) (l0 : List (List Int)) (g1 g2 g : Nat) (f0 a1 a2 : Int) (v2 v3 v4 : Value) (r : Int) (w : World) (hr0 : Kd.C (Kd.slice 3 (Kd.int .i64)) w A0 l0.length l0) (hc0 : l0.length ≤ c0) (hq1 : w.heap[g1]? = some (.cells #[.pointer (some ⟨g, 0, none⟩)] 210 (0, 0))) (hq2 : w.heap[g2]? = some (.cells #[.int .i64 a2] 3 (0, 0))) (hq : w.heap[g]? = some (.cells #[.int .i64 f0, .int .i64 a1, v2, v3, v4] 47 (0, 0))) (h : bd_ix.l0 k l0 (l0.length : Int) 0 a1 a2 = some r) :
  Calls Try.prog 240 #[.slice A0 l0.length c0, .func (.func 227) #[] #[.pointer (some ⟨g1, 0, none⟩), .pointer (some ⟨g2, 0, none⟩)]] w fun e w' => e = .returned (.int .i64 r) ∧ Drawn0 w w' := by
 have HR0 := Aside0.mk hr0; have HC0 := Aside0.mk hc0; clear hr0 hc0
 have H' := Aside0.mk h
 clear h
 go_enter Try.func240, Try.ntmps240
 go_wp2
 go_loopg [8] k (fun kq v8 w' => ∃ (x8_1 : Int), v8 = .int .i64 x8_1 ∧ Aside0 (bd_ix.l0 kq l0 (l0.length : Int) x8_1 a1 a2 = some r) ∧ Aside0 (kq ≤ k) ∧ Drawn0 w w')
 case atStart => exact ⟨(0), er, H', ⟨Nat.le_refl _⟩, drw⟩
 case round =>
  clear H'
  obtain ⟨x8_1, rfl, HA, HK1, ⟨m1, rfl⟩⟩ := hrel
  cases gk with
  | zero => exact absurd HA.out (by simp [bd_ix.l0])
  | succ k1 =>
   have H := HA.out; clear HA
   simp only [bd_ix.l0] at H
   by_cases c3 : x8_1 < (l0.length : Int)
   ·rw [if_pos c3] at H
    have c3b0 : decide (x8_1 < (l0.length : Int)) = true := decide_eq_true c3
    clear c3; replace H := ifS H; obtain ⟨c4, H⟩ := H; have c4b0 := decide_eq_true c4; clear c4; replace H := ifS H; obtain ⟨c5, H⟩ := H; have c5b0 := decide_eq_true c5; clear c5; replace H := bS H; obtain ⟨t342, A6, H⟩ := H
    replace H : (if t342 = true then (some x8_1) else (bd_ix.l0 k1 l0 (l0.length : Int) (wrap64 (x8_1 + 1)) a1 a2)) = some r := H
    have p341 : 0 ≤ (x8_1 : Int) := da
    have q341 : x8_1 < (l0.length : Int) := da
    obtain ⟨ad341, A341_0, c341_0, e341, hx341_0, hl341_0, hi341_0⟩ := at_L3 HR0.out x8_1 p341 q341
    cases e341
    have HR341_0 := Aside0.mk hi341_0; have HC341_0 := Aside0.mk hl341_0; clear hi341_0 hl341_0; replace p341 := eq_true p341; replace q341 := eq_true q341
    cases t342 with
    | true =>
     have H1 : (some x8_1) = some r := by rw [if_pos rfl] at H; exact H
     obtain rfl := Option.some.inj H1
     clear H H1
     go_wp2_with (first | ((with_reducible refine gate_value (f := 227) rfl rfl ?_); refine goesV_ (some 16) rfl rfl Try.func227 (by kernel_rfl) rfl #[.slice A341_0 (rd_L3 l0 x8_1).length c341_0, .pointer (some ⟨g1, 0, none⟩), .pointer (some ⟨g2, 0, none⟩)] rfl rfl (by (try simp only [List.map_toArray, List.map_cons, List.map_nil]); first | done | rfl | (simp only [List.length_drop, List.length_take]; rfl)) ?_; (with_reducible refine (bd_at.calls _ _ (rd_L3 l0 x8_1) g1 g2 g f0 a1 a2 v2 v3 v4 true _ ?side1 ?side2 ?side3 ?side4 ?side5 A6.out).mono ?_); (case side3 => first | ((with_reducible repeat (first | refine blk_drewN ?_ _ | refine blk_drew ?_ | refine blk_alloc ?_ _)); exact hq1)); (case side4 => first | ((with_reducible repeat (first | refine blk_drewN ?_ _ | refine blk_drew ?_ | refine blk_alloc ?_ _)); exact hq2)); (case side5 => first | ((with_reducible repeat (first | refine blk_drewN ?_ _ | refine blk_drew ?_ | refine blk_alloc ?_ _)); exact hq)); (case side1 => exact cd HR341_0.out); (case side2 => exact HC341_0.out); rintro e w' ⟨rfl, ⟨nd, rfl⟩⟩; refine ⟨_, rfl, ?_⟩))
     go_ret
     exact ⟨er, drw⟩
    | false =>
     have H1 : (bd_ix.l0 k1 l0 (l0.length : Int) (wrap64 (x8_1 + 1)) a1 a2) = some r := by rw [if_neg (show ¬ (false = true) by decide)] at H; exact H
     clear H
     have H' := Aside0.mk H1
     clear H1
     go_wp2_with (first | ((with_reducible refine gate_value (f := 227) rfl rfl ?_); refine goesV_ (some 16) rfl rfl Try.func227 (by kernel_rfl) rfl #[.slice A341_0 (rd_L3 l0 x8_1).length c341_0, .pointer (some ⟨g1, 0, none⟩), .pointer (some ⟨g2, 0, none⟩)] rfl rfl (by (try simp only [List.map_toArray, List.map_cons, List.map_nil]); first | done | rfl | (simp only [List.length_drop, List.length_take]; rfl)) ?_; (with_reducible refine (bd_at.calls _ _ (rd_L3 l0 x8_1) g1 g2 g f0 a1 a2 v2 v3 v4 false _ ?side1 ?side2 ?side3 ?side4 ?side5 A6.out).mono ?_); (case side3 => first | ((with_reducible repeat (first | refine blk_drewN ?_ _ | refine blk_drew ?_ | refine blk_alloc ?_ _)); exact hq1)); (case side4 => first | ((with_reducible repeat (first | refine blk_drewN ?_ _ | refine blk_drew ?_ | refine blk_alloc ?_ _)); exact hq2)); (case side5 => first | ((with_reducible repeat (first | refine blk_drewN ?_ _ | refine blk_drew ?_ | refine blk_alloc ?_ _)); exact hq)); (case side1 => exact cd HR341_0.out); (case side2 => exact HC341_0.out); rintro e w' ⟨rfl, ⟨nd, rfl⟩⟩; refine ⟨_, rfl, ?_⟩))
     go_roundg k1
     case measure => have := HK1.out; omega
     case rel => exact ⟨(wrap64 (x8_1 + 1)), er, H', ⟨by have := HK1.out; omega⟩, drw⟩
   ·rw [if_neg c3] at H
    have c3b0 : decide (x8_1 < (l0.length : Int)) = false := decide_eq_false c3
    clear c3
    obtain rfl := Option.some.inj H
    go_wp2
    go_ret
    exact ⟨er, drw⟩
def bd_any.f (k : Nat) (l0 : List (List Int)) (a1 a2 : Int) : Option (Bool) := (bd_ix.l0 k l0 (l0.length : Int) 0 a1 a2).bind fun t343 => (some (decide (t343 ≥ 0)))
theorem bd_any.mono : ∀ a0 a1 a2 k, LeO (bd_any.f k a0 a1 a2) (bd_any.f (k + 1) a0 a1 a2) := by
 intro a0 a1 a2 k
 unfold bd_any.f
 exact LeO.bind (bd_ix.mono_l k _ _ _ _ _) (fun _ => LeO.refl _)
set_option maxHeartbeats 8000000 in
set_option maxRecDepth 100000 in
theorem bd_any.calls (k : Nat) (A0 : Option Addr) (c0 : Nat) (l0 : List (List Int)) (g1 g2 g : Nat) (f0 a1 a2 : Int) (v2 v3 v4 : Value) (r : Bool) (w : World) (hr0 : Kd.C (Kd.slice 3 (Kd.int .i64)) w A0 l0.length l0) (hc0 : l0.length ≤ c0) (hq1 : w.heap[g1]? = some (.cells #[.pointer (some ⟨g, 0, none⟩)] 210 (0, 0))) (hq2 : w.heap[g2]? = some (.cells #[.int .i64 a2] 3 (0, 0))) (hq : w.heap[g]? = some (.cells #[.int .i64 f0, .int .i64 a1, v2, v3, v4] 47 (0, 0))) (h : bd_any.f k l0 a1 a2 = some r) :
  Calls Try.prog 226 #[.slice A0 l0.length c0, .func (.func 227) #[] #[.pointer (some ⟨g1, 0, none⟩), .pointer (some ⟨g2, 0, none⟩)]] w fun e w' => e = .returned (.bool r) ∧ Drawn0 w w' := by
 have HR0 := Aside0.mk hr0; have HC0 := Aside0.mk hc0; clear hr0 hc0
 have H : ((bd_ix.l0 k l0 (l0.length : Int) 0 a1 a2).bind fun t343 => (some (decide (t343 ≥ 0)))) = some r := h
 clear h; replace H := bS H; obtain ⟨t343, A3, H⟩ := H
 replace H : (some (decide (t343 ≥ 0))) = some r := H
 obtain rfl := Option.some.inj H
 go_enter Try.func226, Try.ntmps226
 go_wp2_with (first | ((with_reducible refine gate_callee (f := 240) rfl ?_); refine goesLa (some 7) rfl Try.func240 #[.slice A0 l0.length c0, .func (.func 227) #[] #[.pointer (some ⟨g1, 0, none⟩), .pointer (some ⟨g2, 0, none⟩)]] rfl ?_; (with_reducible refine (bd_ix.calls k _ _ l0 g1 g2 g f0 a1 a2 v2 v3 v4 t343 _ ?side1 ?side2 ?side3 ?side4 ?side5 A3.out).mono ?_); (case side3 => first | ((with_reducible repeat (first | refine blk_drewN ?_ _ | refine blk_drew ?_ | refine blk_alloc ?_ _)); exact hq1)); (case side4 => first | ((with_reducible repeat (first | refine blk_drewN ?_ _ | refine blk_drew ?_ | refine blk_alloc ?_ _)); exact hq2)); (case side5 => first | ((with_reducible repeat (first | refine blk_drewN ?_ _ | refine blk_drew ?_ | refine blk_alloc ?_ _)); exact hq)); (case side1 => exact cd HR0.out); (case side2 => exact HC0.out); rintro e w' ⟨rfl, ⟨nd, rfl⟩⟩; refine ⟨_, rfl, ?_⟩))
 go_ret
 exact ⟨er, drw⟩
/-! ### (*impl.Board).sign (191) -/
/-- A board in memory: its cells, its rows; what lies elsewhere lies as in w. -/
structure BdIn (w0 w : World) (g : Nat) (row : Option Nat) (f0 f1 : Int) (v2 v3 v4 : Value) (l2 : List (List Int)) (l3 l4 : List Int) (W : World) : Prop where
  blk : W.heap[g]? = some (.cells #[.int .i64 f0, .int .i64 f1, v2, v3, v4] 47 (0, 0))
  ge : w0.heap.size ≤ g
  s2 : Kd.S (Kd.slice 3 (Kd.int .i64)) 23 W w0.heap.size (fun k_ => some k_ ≠ v3.ownBlock ∧ some k_ ≠ v4.ownBlock) v2 l2
  r3 : Kd.R (Kd.int .i64) 3 W w0.heap.size (fun k_ => some k_ ≠ v4.ownBlock) v3 l3
  r4 : Kd.R (Kd.int .i64) 3 W w0.heap.size (fun k_ => some k_ ≠ v3.ownBlock) v4 l4
  below : Below w0.heap.size w0 W
  keep : KeepBut w W g row
theorem BdIn.step {w0 w : World} {g : Nat} {row : Option Nat} {f0 f1 : Int} {v2 v3 v4 : Value} {l2 : List (List Int)} {l3 l4 : List Int} {W W1 : World} (h : BdIn w0 w g row f0 f1 v2 v3 v4 l2 l3 l4 W) (hb : Below W.heap.size W W1) : BdIn w0 w g row f0 f1 v2 v3 v4 l2 l3 l4 W1 :=
  ⟨blk_below h.blk hb, h.ge, Kd.S_step h.s2 (fun k _ hk => hb.block k hk), Kd.R_below h.r3 hb, Kd.R_below h.r4 hb, below_step h.below hb, ⟨Nat.le_trans h.keep.1 hb.size, fun i hi hg hr => (hb.block i (Nat.lt_of_lt_of_le hi h.keep.1)).trans (h.keep.2 i hi hg hr)⟩⟩
theorem BdIn.drewN {w0 w : World} {g : Nat} {row : Option Nat} {f0 f1 : Int} {v2 v3 v4 : Value} {l2 : List (List Int)} {l3 l4 : List Int} {W : World} (h : BdIn w0 w g row f0 f1 v2 v3 v4 l2 l3 l4 W) (n : Nat) : BdIn w0 w g row f0 f1 v2 v3 v4 l2 l3 l4 (W.drewN n) := h.step (by first | exact pw_below_drewN (Below.refl _ W) n | exact Below.drewN (Below.refl _ W) n)
section
variable {w0 w : World} {g : Nat} {row : Option Nat} {f0 f1 : Int} {v2 v3 v4 : Value} {l2 : List (List Int)} {l3 l4 : List Int} {W : World}
theorem BdIn.c0 (h : BdIn w0 w g row f0 f1 v2 v3 v4 l2 l3 l4 W) : W.cell? ⟨g, 0, none⟩ = some (.int .i64 f0) := (blk_cell h.blk 0).trans rfl
theorem BdIn.c1 (h : BdIn w0 w g row f0 f1 v2 v3 v4 l2 l3 l4 W) : W.cell? ⟨g, 1, none⟩ = some (.int .i64 f1) := (blk_cell h.blk 1).trans rfl
theorem BdIn.c2 (h : BdIn w0 w g row f0 f1 v2 v3 v4 l2 l3 l4 W) : W.cell? ⟨g, 2, none⟩ = some v2 := (blk_cell h.blk 2).trans rfl
theorem BdIn.c3 (h : BdIn w0 w g row f0 f1 v2 v3 v4 l2 l3 l4 W) : W.cell? ⟨g, 3, none⟩ = some v3 := (blk_cell h.blk 3).trans rfl
theorem BdIn.c4 (h : BdIn w0 w g row f0 f1 v2 v3 v4 l2 l3 l4 W) : W.cell? ⟨g, 4, none⟩ = some v4 := (blk_cell h.blk 4).trans rfl
end
theorem BdIn.put {w0 w : World} {g : Nat} {row : Option Nat} {f0 f1 : Int} {v2 v3 v4 : Value} {l2 : List (List Int)} {l3 l4 : List Int} {W : World} {cs : Array Value} (i : Nat) (u : Value) (hb : W.heap[g]? = some (.cells cs 47 (0, 0))) (he : cs.setIfInBounds i u = #[.int .i64 f0, .int .i64 f1, v2, v3, v4]) (ge : w0.heap.size ≤ g)
    (s2 : Kd.S (Kd.slice 3 (Kd.int .i64)) 23 W w0.heap.size (fun k_ => some k_ ≠ v3.ownBlock ∧ some k_ ≠ v4.ownBlock) v2 l2) (r3 : Kd.R (Kd.int .i64) 3 W w0.heap.size (fun k_ => some k_ ≠ v4.ownBlock) v3 l3) (r4 : Kd.R (Kd.int .i64) 3 W w0.heap.size (fun k_ => some k_ ≠ v3.ownBlock) v4 l4) (below : Below w0.heap.size w0 W) (keep : KeepBut w W g row) :
    BdIn w0 w g row f0 f1 v2 v3 v4 l2 l3 l4 (W.setCell ⟨g, i, none⟩ u) :=
  ⟨he ▸ blk_set hb i u, ge, Kd.S_mono (Kd.S_far (p := ⟨g, i, none⟩) (Kd.S_types s2 hb (by decide)) (fun _ hk => hk.2) u) (fun _ hk => hk.1), Kd.R_mono (Kd.R_far (p := ⟨g, i, none⟩) (Kd.R_types r3 hb (by decide)) (fun _ hk => hk.2) u) (fun _ hk => hk.1), Kd.R_mono (Kd.R_far (p := ⟨g, i, none⟩) (Kd.R_types r4 hb (by decide)) (fun _ hk => hk.2) u) (fun _ hk => hk.1), below.setCell (p := ⟨g, i, none⟩) ge u, keep.set_ i u⟩
theorem bd_keep {w W W1 : World} {g : Nat} {row : Option Nat} (h : KeepBut w W g row) (hg : W.grownBy W1 row) : KeepBut w W1 g row :=
  ⟨Nat.le_trans h.1 hg.size, fun i hi h1 h2 => (hg.block i (Nat.lt_of_lt_of_le hi h.1) h2).trans (h.2 i hi h1 h2)⟩
def bd_sign.f (k : Nat) (f0 f1 : Int) (l2 : List (List Int)) (l3 l4 : List Int) (m n : Int) : Option (List (List Int) × Bool) :=
  (impl_isMemberOf.f f0 m).bind fun t1 => if t1 = true then ((slices_Contains_int_int.f k l4 n).bind fun t2 => if t2 = true then ((impl_Board_hasSigned.f k f0 f1 l2 l3 l4 f1 m n).bind fun t3 => if t3 = true then some (l2, false) else (if (l2.length : Int) = 200 then some (l2, false) else ((bd_any.f k l2 f1 m).bind fun t4 => if t4 = true then ((slices_Contains_int_int.f k l3 m).bind fun t5 => if t5 = true then (if l2.length < 1000 then some (l2 ++ [[f1, m, n]], true) else none) else some (l2, false)) else (if l2.length < 1000 then some (l2 ++ [[f1, m, n]], true) else none)))) else some (l2, false)) else some (l2, false)
theorem bd_sign.mono : ∀ a0 a1 a2 a3 a4 a5 a6 k, LeO (bd_sign.f k a0 a1 a2 a3 a4 a5 a6) (bd_sign.f (k + 1) a0 a1 a2 a3 a4 a5 a6) := by
 intro a0 a1 a2 a3 a4 a5 a6 k
 unfold bd_sign.f
 repeat' (first | exact LeO.refl _ | exact slices_Contains_int_int.mono _ _ _ | exact impl_Board_hasSigned.mono _ _ _ _ _ _ _ _ _ | exact bd_any.mono _ _ _ _ | refine LeO.ite ?_ ?_ | refine LeO.bind ?_ (fun _ => ?_))
def bd_sign.T1 : Bool × List (List Nat × List Nat) := (true, [([], []), ([0], [0]), ([1], [1]), ([2], [2]), ([], []), ([3, 4], [3, 4]), ([5], [5]), ([6, 5], [6]), ([7], [7]), ([8, 7], [7, 8]), ([9, 7], [7, 9]), ([10, 7], [7, 10]), ([7], [7]), ([11, 12, 7, 7], [7, 11, 12]), ([13, 7], [7, 13]), ([7, 14], [7, 14]), ([15, 13], [15]), ([16], [16]), ([17, 16], [16, 17]), ([18, 16], [16, 18]), ([16], [16]), ([20, 16], [16, 20]), ([21, 16], [16, 21]), ([22, 16], [16, 22]), ([16], [16]), ([16], [16]), ([19, 23, 24, 25, 16, 16], [16, 19, 23, 24, 25]), ([16, 26], [16, 26]), ([27, 26], [27]), ([28], [28]), ([29, 28], [28, 29]), ([30, 28], [28, 30]), ([31, 28], [28, 31]), ([32, 28], [28, 32]), ([33, 28], [28, 33]), ([28, 34], [28, 34])])
def bd_sign.B1 : List Nat := [0, 1, 3, 7, 0, 31, 63, 127, 255, 511, 1023, 2047, 255, 8191, 16383, 32767, 65535, 131071, 262143, 524287, 131071, 1179647, 3276799, 7471103, 131071, 131071, 67108863, 134217727, 268435455, 536870911, 1073741823, 2147483647, 4294967295, 8589934591, 17179869183, 34359738367]
theorem bd_sign.tab1 : rtab .any (opsOf Try.f191 1) = bd_sign.T1 := by kernel_rfl
theorem bd_sign.bits1 : waitsOk bd_sign.T1.2 bd_sign.B1 = true := by kernel_rfl
def bd_sign.T6 : Bool × List (List Nat × List Nat) := (true, [([], []), ([], []), ([1], [1]), ([2], [2]), ([3], [3]), ([], []), ([5], [5]), ([6], [6]), ([7], [7]), ([], []), ([], []), ([8, 9, 10], [8, 9, 10]), ([11], [11]), ([4, 12], [4, 12]), ([0, 0, 1, 2, 3, 4, 5, 6, 7, 8, 9, 10, 11, 12, 13], [0]), ([14, 0, 1, 2, 3, 4, 5, 6, 7, 8, 9, 10, 11, 12, 13], [14]), ([15, 13, 13, 0, 1, 2, 3, 4, 5, 6, 7, 8, 9, 10, 11, 12, 13], [13, 15])])
def bd_sign.B6 : List Nat := [0, 0, 2, 6, 14, 0, 32, 96, 224, 0, 0, 2016, 4064, 8190, 16383, 32767, 65535]
theorem bd_sign.tab6 : rtab .any (opsOf Try.f191 6) = bd_sign.T6 := by kernel_rfl
theorem bd_sign.bits6 : waitsOk bd_sign.T6.2 bd_sign.B6 = true := by kernel_rfl
set_option maxHeartbeats 8000000 in
set_option maxRecDepth 100000 in
theorem bd_sign.calls (k : Nat) (g : Nat) (f0 f1 : Int) (v2 v3 v4 : Value) (l2 : List (List Int)) (l3 l4 : List Int) (m n : Int) (r2 : List (List Int)) (r : Bool) (w0 w : World) (hI : BdIn w0 w g v2.ownBlock f0 f1 v2 v3 v4 l2 l3 l4 w) (h : bd_sign.f k f0 f1 l2 l3 l4 m n = some (r2, r)) :
  Calls Try.prog 191 #[.pointer (some ⟨g, 0, none⟩), .int .i64 m, .int .i64 n] w fun e w' => ∃ u2 : Value, e = .returned (.bool r) ∧ BdIn w0 w g v2.ownBlock f0 f1 u2 v3 v4 r2 l3 l4 w' := by
 obtain ⟨X2, Y2, rfl⟩ := Kd.S_slice hI.s2
 obtain ⟨X3, Y3, rfl⟩ := Kd.R_slice hI.r3
 obtain ⟨X4, Y4, rfl⟩ := Kd.R_slice hI.r4
 have BI := Aside0.mk hI
 clear hI
 have hu47 := Try.underlying47
 unfold bd_sign.f at h
 replace h := bS h; obtain ⟨t1, A1, h⟩ := h
 go_enter Try.func191, Try.ntmps191
 go_upto_region 1 with (first | ((with_reducible refine gate_dst (N := 3) rfl ?_); refine boxev 3 #[.pointer (some ⟨g, 0, none⟩)] 210 ?_; intro gb1 hg_ w4 hbox hb; clear hg_; have BK1 := ak hbox; replace BI := ak (BI.out.step hb); clear hb hbox) | ((with_reducible refine gate_dst (N := 4) rfl ?_); refine boxev 4 #[.int .i64 m] 3 ?_; intro gb2 hg_ w5 hbox hb; clear hg_; have BK2 := ak hbox; replace BK1 := ak (blk_below BK1.out hb); replace BI := ak (BI.out.step hb); have hc1 : w5.cell? ⟨gb1, 0, none⟩ = some (.pointer (some ⟨g, 0, none⟩)) := (blk_cell BK1.out 0).trans rfl; have hc2 : w5.cell? ⟨gb2, 0, none⟩ = some (.int .i64 m) := (blk_cell BK2.out 0).trans rfl; have hx0 := BI.out.c0; have hx1 := BI.out.c1; have hx2 := BI.out.c2; have hx3 := BI.out.c3; have hx4 := BI.out.c4; clear hb hbox))
 cases t1 with
 | false =>
  rw [if_neg (by decide)] at h
  obtain ⟨rfl, rfl⟩ := Prod.mk.inj (Option.some.inj h)
  clear h
  go_quiet (first | (go_at_call 197; (with_reducible refine (impl_isMemberOf.calls f0 m _ _ A1.out).mono ?_); rintro e w' ⟨rfl, ⟨nd, rfl⟩⟩; (try first | exact ⟨rfl, _, World.drewN_drewN _ _ _⟩ | exact ⟨rfl, _, Eq.trans (World.drewN_drewN _ _ _) (congrArg (World.drewN _) (Nat.add_assoc _ _ _))⟩)) | (go_at_call 103; (with_reducible refine (slices_Contains_int_int.calls k _ _ l4 n _ _ ?side1 ?side2 A2.out).mono ?_); (case side1 => exact cd (Kd.R_reads' BI.out.r4).2.2); (case side2 => exact (Kd.R_reads' BI.out.r4).2.1); rintro e w' ⟨rfl, ⟨nd, rfl⟩⟩; (try first | exact ⟨rfl, _, World.drewN_drewN _ _ _⟩ | exact ⟨rfl, _, Eq.trans (World.drewN_drewN _ _ _) (congrArg (World.drewN _) (Nat.add_assoc _ _ _))⟩)))
  go_wp2
  go_ret
  exact ⟨_, er, BI.out.drewN _⟩
 | true =>
  rw [if_pos rfl] at h
  replace h := bS h; obtain ⟨t2, A2, h⟩ := h
  cases t2 with
  | false =>
   rw [if_neg (by decide)] at h
   obtain ⟨rfl, rfl⟩ := Prod.mk.inj (Option.some.inj h)
   clear h
   go_quiet (first | (go_at_call 197; (with_reducible refine (impl_isMemberOf.calls f0 m _ _ A1.out).mono ?_); rintro e w' ⟨rfl, ⟨nd, rfl⟩⟩; (try first | exact ⟨rfl, _, World.drewN_drewN _ _ _⟩ | exact ⟨rfl, _, Eq.trans (World.drewN_drewN _ _ _) (congrArg (World.drewN _) (Nat.add_assoc _ _ _))⟩)) | (go_at_call 103; (with_reducible refine (slices_Contains_int_int.calls k _ _ l4 n _ _ ?side1 ?side2 A2.out).mono ?_); (case side1 => exact cd (Kd.R_reads' BI.out.r4).2.2); (case side2 => exact (Kd.R_reads' BI.out.r4).2.1); rintro e w' ⟨rfl, ⟨nd, rfl⟩⟩; (try first | exact ⟨rfl, _, World.drewN_drewN _ _ _⟩ | exact ⟨rfl, _, Eq.trans (World.drewN_drewN _ _ _) (congrArg (World.drewN _) (Nat.add_assoc _ _ _))⟩)))
   go_wp2
   go_ret
   exact ⟨_, er, BI.out.drewN _⟩
  | true =>
   rw [if_pos rfl] at h
   replace h := bS h; obtain ⟨t3, A3, h⟩ := h
   cases t3 with
   | true =>
    rw [if_pos rfl] at h
    obtain ⟨rfl, rfl⟩ := Prod.mk.inj (Option.some.inj h)
    clear h
    replace BI := ak (BI.out.step (below_drew (Below.refl _ _)))
    replace BK1 := ak (blk_drew BK1.out)
    replace BK2 := ak (blk_drew BK2.out)
    clear hc1 hc2 hx0 hx1 hx2 hx3 hx4
    refine start_ (n := 36) (S := fun w' => w'.cell? ⟨gb1, 0, none⟩ = some (.pointer (some ⟨g, 0, none⟩)) ∧ w'.cell? ⟨gb2, 0, none⟩ = some (.int .i64 m) ∧ w'.cell? ⟨g, 0, none⟩ = some (.int .i64 f0) ∧ w'.cell? ⟨g, 1, none⟩ = some (.int .i64 f1) ∧ w'.cell? ⟨g, 2, none⟩ = some (.slice X2 l2.length Y2) ∧ w'.cell? ⟨g, 3, none⟩ = some (.slice X3 l3.length Y3) ∧ w'.cell? ⟨g, 4, none⟩ = some (.slice X4 l4.length Y4)) (ds := []) (bl 36 0) (by kernel_rfl) rfl rfl ⟨bq BK1 0, bq BK2 0, BI.out.c0, BI.out.c1, BI.out.c2, BI.out.c3, BI.out.c4⟩ (fun hHeld => ?_); refine with_tabW bd_sign.tab1 bd_sign.bits1 (fun HT_ HW_ => ?_)
    generalize w5.drew = w6 at BI BK1 BK2 hHeld ⊢
    refine takeA 0 (some 8) 36 1 HT_ HW_ hHeld ?_ (hy := by rintro w' ⟨s0, s1, s2, s3, s4, s5, s6⟩; go_simp; with_reducible rfl)
    refine pureA 1 (some 9) 36 3 HT_ ?_
    refine pureA 2 (some 10) 36 7 HT_ ?_
    refine takeA 3 (some 11) 36 15 HT_ HW_ hHeld ?_ (hy := by rintro w' ⟨s0, s1, s2, s3, s4, s5, s6⟩; go_simp; with_reducible rfl)
    refine takeA 4 (some 12) 36 31 HT_ HW_ hHeld ?_ (hy := by rintro w' ⟨s0, s1, s2, s3, s4, s5, s6⟩; go_simp; with_reducible rfl)
    refine oneA 5 (some 13) 36 63 HT_ (fun K hK => ?_)
    refine goes_ Try.func197 (by kernel_rfl) rfl #[.int .i64 f0, .int .i64 m] (by rfl) rfl rfl (by (try simp only [List.map_toArray, List.map_cons, List.map_nil]); first | done | rfl) ?_
    with_reducible refine (impl_isMemberOf.calls f0 m true _ A1.out).mono ?_
    rintro e w' ⟨rfl, ⟨nd, rfl⟩⟩
    refine ⟨_, rfl, ?_⟩
    replace BI := ak (BI.out.drewN nd)
    replace BK1 := ak (blk_drewN BK1.out nd)
    replace BK2 := ak (blk_drewN BK2.out nd)
    generalize w6.drewN nd = w7 at BI BK1 BK2 ⊢
    refine hK.out _ _ ⟨bq BK1 0, bq BK2 0, BI.out.c0, BI.out.c1, BI.out.c2, BI.out.c3, BI.out.c4⟩ (fun hHeld => ?_)
    clear hK K
    refine norm_ (a' := ?_) ?_ ?_
    rotate_left
    ·show Act.put _ (some 13) _ = _
     simp only [Act.put, List.setIfInBounds_toArray, List.set_cons_zero, List.set_cons_succ, i64_w, i32_w]
     rfl
    refine pureA 6 (some 14) 36 127 HT_ ?_
    refine pureA 7 (some 15) 36 255 HT_ ?_
    refine takeA 8 (some 16) 36 511 HT_ HW_ hHeld ?_ (hy := by rintro w' ⟨s0, s1, s2, s3, s4, s5, s6⟩; go_simp; with_reducible rfl)
    refine pureA 9 (some 17) 36 1023 HT_ ?_
    refine pureA 10 (some 18) 36 2047 HT_ ?_
    refine takeA 11 (some 19) 36 4095 HT_ HW_ hHeld ?_ (hy := by rintro w' ⟨s0, s1, s2, s3, s4, s5, s6⟩; go_simp; with_reducible rfl)
    refine pureA 12 (some 20) 36 8191 HT_ ?_
    refine oneA 13 (some 21) 36 16383 HT_ (fun K hK => ?_)
    refine goes_ Try.func103 (by kernel_rfl) rfl #[.slice X4 l4.length Y4, .int .i64 n] (by rfl) rfl rfl (by (try simp only [List.map_toArray, List.map_cons, List.map_nil]); first | done | rfl) ?_
    with_reducible refine (slices_Contains_int_int.calls k _ _ l4 n true _ ?side1 ?side2 A2.out).mono ?_
    (case side1 => exact cd (Kd.R_reads' BI.out.r4).2.2)
    (case side2 => exact (Kd.R_reads' BI.out.r4).2.1)
    rintro e w' ⟨rfl, ⟨nd, rfl⟩⟩
    refine ⟨_, rfl, ?_⟩
    replace BI := ak (BI.out.drewN nd)
    replace BK1 := ak (blk_drewN BK1.out nd)
    replace BK2 := ak (blk_drewN BK2.out nd)
    generalize w7.drewN nd = w8 at BI BK1 BK2 ⊢
    refine hK.out _ _ ⟨bq BK1 0, bq BK2 0, BI.out.c0, BI.out.c1, BI.out.c2, BI.out.c3, BI.out.c4⟩ (fun hHeld => ?_)
    clear hK K
    refine norm_ (a' := ?_) ?_ ?_
    rotate_left
    ·show Act.put _ (some 21) _ = _
     simp only [Act.put, List.setIfInBounds_toArray, List.set_cons_zero, List.set_cons_succ, i64_w, i32_w]
     rfl
    refine pureA 14 (some 22) 36 32767 HT_ ?_
    refine pureA 15 (some 23) 36 65535 HT_ ?_
    refine pureA 16 (some 24) 36 131071 HT_ ?_
    refine takeA 17 (some 25) 36 262143 HT_ HW_ hHeld ?_ (hy := by rintro w' ⟨s0, s1, s2, s3, s4, s5, s6⟩; go_simp; with_reducible rfl)
    refine pureA 18 (some 26) 36 524287 HT_ ?_
    refine takeA 19 (some 27) 36 1048575 HT_ HW_ hHeld ?_ (hy := by rintro w' ⟨s0, s1, s2, s3, s4, s5, s6⟩; go_simp; with_reducible rfl)
    refine takeA 20 (some 28) 36 2097151 HT_ HW_ hHeld ?_ (hy := by rintro w' ⟨s0, s1, s2, s3, s4, s5, s6⟩; go_simp; with_reducible rfl)
    refine pureA 21 (some 29) 36 4194303 HT_ ?_
    refine pureA 22 (some 30) 36 8388607 HT_ ?_
    refine takeA 23 (some 31) 36 16777215 HT_ HW_ hHeld ?_ (hy := by rintro w' ⟨s0, s1, s2, s3, s4, s5, s6⟩; go_simp; with_reducible rfl)
    refine takeA 24 (some 32) 36 33554431 HT_ HW_ hHeld ?_ (hy := by rintro w' ⟨s0, s1, s2, s3, s4, s5, s6⟩; go_simp; with_reducible rfl)
    refine pureA 25 (some 33) 36 67108863 HT_ ?_
    refine oneA 26 (some 34) 36 134217727 HT_ (fun K hK => ?_)
    refine goes_ Try.func225 (by kernel_rfl) rfl #[.agg #[.int .i64 f0, .int .i64 f1, .slice X2 l2.length Y2, .slice X3 l3.length Y3, .slice X4 l4.length Y4], .int .i64 f1, .int .i64 m, .int .i64 n] (by rfl) rfl rfl (by (try simp only [List.map_toArray, List.map_cons, List.map_nil]); first | done | rfl) ?_
    with_reducible refine (impl_Board_hasSigned.calls k f0 f1 _ _ l2 _ _ l3 _ _ l4 f1 m n true _ ?side1 ?side2 ?side3 ?side4 ?side5 ?side6 A3.out).mono ?_
    (case side1 => exact cd (Kd.S_reads' BI.out.s2).2.2)
    (case side2 => exact (Kd.S_reads' BI.out.s2).2.1)
    (case side3 => exact cd (Kd.R_reads' BI.out.r3).2.2)
    (case side4 => exact (Kd.R_reads' BI.out.r3).2.1)
    (case side5 => exact cd (Kd.R_reads' BI.out.r4).2.2)
    (case side6 => exact (Kd.R_reads' BI.out.r4).2.1)
    rintro e w9 ⟨rfl, hb⟩
    refine ⟨_, rfl, ?_⟩
    replace BI := ak (BI.out.step hb)
    replace BK1 := ak (blk_below BK1.out hb)
    replace BK2 := ak (blk_below BK2.out hb)
    clear hb
    refine hK.out _ _ ⟨bq BK1 0, bq BK2 0, BI.out.c0, BI.out.c1, BI.out.c2, BI.out.c3, BI.out.c4⟩ (fun hHeld => ?_)
    clear hK K
    refine norm_ (a' := ?_) ?_ ?_
    rotate_left
    ·show Act.put _ (some 34) _ = _
     simp only [Act.put, List.setIfInBounds_toArray, List.set_cons_zero, List.set_cons_succ, i64_w, i32_w]
     rfl
    refine pureA 27 (some 35) 36 268435455 HT_ ?_
    refine pureA 28 (some 36) 36 536870911 HT_ ?_
    refine pureB 29 (some 37) 36 1073741823 HT_ ?_
    refine pureB 30 (some 38) 36 2147483647 HT_ ?_
    refine pureB 31 (some 39) 36 4294967295 HT_ ?_
    refine pureB 32 (some 40) 36 8589934591 HT_ ?_
    refine pureB 33 (some 41) 36 17179869183 HT_ ?_
    refine pureB 34 (some 42) 36 34359738367 HT_ ?_
    refine pureA 35 (some 43) 36 68719476735 HT_ ?_
    refine done_ (done_of HT_.out (by kernel_rfl)) ?_
    go_wp2
    go_ret
    exact ⟨_, er, BI.out⟩
   | false =>
    rw [if_neg (by decide)] at h
    by_cases c2 : (l2.length : Int) = 200
    ·rw [if_pos c2] at h
     obtain ⟨rfl, rfl⟩ := Prod.mk.inj (Option.some.inj h)
     clear h
     have c2b0 : decide ((l2.length : Int) = 200) = true := decide_eq_true c2
     have c2b1 : ((l2.length : Int) == 200) = true := beq_iff_eq.mpr c2
     clear c2
     replace BI := ak (BI.out.step (below_drew (Below.refl _ _)))
     replace BK1 := ak (blk_drew BK1.out)
     replace BK2 := ak (blk_drew BK2.out)
     clear hc1 hc2 hx0 hx1 hx2 hx3 hx4
     refine start_ (n := 36) (S := fun w' => w'.cell? ⟨gb1, 0, none⟩ = some (.pointer (some ⟨g, 0, none⟩)) ∧ w'.cell? ⟨gb2, 0, none⟩ = some (.int .i64 m) ∧ w'.cell? ⟨g, 0, none⟩ = some (.int .i64 f0) ∧ w'.cell? ⟨g, 1, none⟩ = some (.int .i64 f1) ∧ w'.cell? ⟨g, 2, none⟩ = some (.slice X2 l2.length Y2) ∧ w'.cell? ⟨g, 3, none⟩ = some (.slice X3 l3.length Y3) ∧ w'.cell? ⟨g, 4, none⟩ = some (.slice X4 l4.length Y4)) (ds := []) (bl 36 0) (by kernel_rfl) rfl rfl ⟨bq BK1 0, bq BK2 0, BI.out.c0, BI.out.c1, BI.out.c2, BI.out.c3, BI.out.c4⟩ (fun hHeld => ?_); refine with_tabW bd_sign.tab1 bd_sign.bits1 (fun HT_ HW_ => ?_)
     generalize w5.drew = w6 at BI BK1 BK2 hHeld ⊢
     refine takeA 0 (some 8) 36 1 HT_ HW_ hHeld ?_ (hy := by rintro w' ⟨s0, s1, s2, s3, s4, s5, s6⟩; go_simp; with_reducible rfl)
     refine pureA 1 (some 9) 36 3 HT_ ?_
     refine pureA 2 (some 10) 36 7 HT_ ?_
     refine takeA 3 (some 11) 36 15 HT_ HW_ hHeld ?_ (hy := by rintro w' ⟨s0, s1, s2, s3, s4, s5, s6⟩; go_simp; with_reducible rfl)
     refine takeA 4 (some 12) 36 31 HT_ HW_ hHeld ?_ (hy := by rintro w' ⟨s0, s1, s2, s3, s4, s5, s6⟩; go_simp; with_reducible rfl)
     refine oneA 5 (some 13) 36 63 HT_ (fun K hK => ?_)
     refine goes_ Try.func197 (by kernel_rfl) rfl #[.int .i64 f0, .int .i64 m] (by rfl) rfl rfl (by (try simp only [List.map_toArray, List.map_cons, List.map_nil]); first | done | rfl) ?_
     with_reducible refine (impl_isMemberOf.calls f0 m true _ A1.out).mono ?_
     rintro e w' ⟨rfl, ⟨nd, rfl⟩⟩
     refine ⟨_, rfl, ?_⟩
     replace BI := ak (BI.out.drewN nd)
     replace BK1 := ak (blk_drewN BK1.out nd)
     replace BK2 := ak (blk_drewN BK2.out nd)
     generalize w6.drewN nd = w7 at BI BK1 BK2 ⊢
     refine hK.out _ _ ⟨bq BK1 0, bq BK2 0, BI.out.c0, BI.out.c1, BI.out.c2, BI.out.c3, BI.out.c4⟩ (fun hHeld => ?_)
     clear hK K
     refine norm_ (a' := ?_) ?_ ?_
     rotate_left
     ·show Act.put _ (some 13) _ = _
      simp only [Act.put, List.setIfInBounds_toArray, List.set_cons_zero, List.set_cons_succ, i64_w, i32_w]
      rfl
     refine pureA 6 (some 14) 36 127 HT_ ?_
     refine pureA 7 (some 15) 36 255 HT_ ?_
     refine takeA 8 (some 16) 36 511 HT_ HW_ hHeld ?_ (hy := by rintro w' ⟨s0, s1, s2, s3, s4, s5, s6⟩; go_simp; with_reducible rfl)
     refine pureA 9 (some 17) 36 1023 HT_ ?_
     refine pureA 10 (some 18) 36 2047 HT_ ?_
     refine takeA 11 (some 19) 36 4095 HT_ HW_ hHeld ?_ (hy := by rintro w' ⟨s0, s1, s2, s3, s4, s5, s6⟩; go_simp; with_reducible rfl)
     refine pureA 12 (some 20) 36 8191 HT_ ?_
     refine oneA 13 (some 21) 36 16383 HT_ (fun K hK => ?_)
     refine goes_ Try.func103 (by kernel_rfl) rfl #[.slice X4 l4.length Y4, .int .i64 n] (by rfl) rfl rfl (by (try simp only [List.map_toArray, List.map_cons, List.map_nil]); first | done | rfl) ?_
     with_reducible refine (slices_Contains_int_int.calls k _ _ l4 n true _ ?side1 ?side2 A2.out).mono ?_
     (case side1 => exact cd (Kd.R_reads' BI.out.r4).2.2)
     (case side2 => exact (Kd.R_reads' BI.out.r4).2.1)
     rintro e w' ⟨rfl, ⟨nd, rfl⟩⟩
     refine ⟨_, rfl, ?_⟩
     replace BI := ak (BI.out.drewN nd)
     replace BK1 := ak (blk_drewN BK1.out nd)
     replace BK2 := ak (blk_drewN BK2.out nd)
     generalize w7.drewN nd = w8 at BI BK1 BK2 ⊢
     refine hK.out _ _ ⟨bq BK1 0, bq BK2 0, BI.out.c0, BI.out.c1, BI.out.c2, BI.out.c3, BI.out.c4⟩ (fun hHeld => ?_)
     clear hK K
     refine norm_ (a' := ?_) ?_ ?_
     rotate_left
     ·show Act.put _ (some 21) _ = _
      simp only [Act.put, List.setIfInBounds_toArray, List.set_cons_zero, List.set_cons_succ, i64_w, i32_w]
      rfl
     refine pureA 14 (some 22) 36 32767 HT_ ?_
     refine pureA 15 (some 23) 36 65535 HT_ ?_
     refine pureA 16 (some 24) 36 131071 HT_ ?_
     refine takeA 17 (some 25) 36 262143 HT_ HW_ hHeld ?_ (hy := by rintro w' ⟨s0, s1, s2, s3, s4, s5, s6⟩; go_simp; with_reducible rfl)
     refine pureA 18 (some 26) 36 524287 HT_ ?_
     refine takeA 19 (some 27) 36 1048575 HT_ HW_ hHeld ?_ (hy := by rintro w' ⟨s0, s1, s2, s3, s4, s5, s6⟩; go_simp; with_reducible rfl)
     refine takeA 20 (some 28) 36 2097151 HT_ HW_ hHeld ?_ (hy := by rintro w' ⟨s0, s1, s2, s3, s4, s5, s6⟩; go_simp; with_reducible rfl)
     refine pureA 21 (some 29) 36 4194303 HT_ ?_
     refine pureA 22 (some 30) 36 8388607 HT_ ?_
     refine takeA 23 (some 31) 36 16777215 HT_ HW_ hHeld ?_ (hy := by rintro w' ⟨s0, s1, s2, s3, s4, s5, s6⟩; go_simp; with_reducible rfl)
     refine takeA 24 (some 32) 36 33554431 HT_ HW_ hHeld ?_ (hy := by rintro w' ⟨s0, s1, s2, s3, s4, s5, s6⟩; go_simp; with_reducible rfl)
     refine pureA 25 (some 33) 36 67108863 HT_ ?_
     refine oneA 26 (some 34) 36 134217727 HT_ (fun K hK => ?_)
     refine goes_ Try.func225 (by kernel_rfl) rfl #[.agg #[.int .i64 f0, .int .i64 f1, .slice X2 l2.length Y2, .slice X3 l3.length Y3, .slice X4 l4.length Y4], .int .i64 f1, .int .i64 m, .int .i64 n] (by rfl) rfl rfl (by (try simp only [List.map_toArray, List.map_cons, List.map_nil]); first | done | rfl) ?_
     with_reducible refine (impl_Board_hasSigned.calls k f0 f1 _ _ l2 _ _ l3 _ _ l4 f1 m n false _ ?side1 ?side2 ?side3 ?side4 ?side5 ?side6 A3.out).mono ?_
     (case side1 => exact cd (Kd.S_reads' BI.out.s2).2.2)
     (case side2 => exact (Kd.S_reads' BI.out.s2).2.1)
     (case side3 => exact cd (Kd.R_reads' BI.out.r3).2.2)
     (case side4 => exact (Kd.R_reads' BI.out.r3).2.1)
     (case side5 => exact cd (Kd.R_reads' BI.out.r4).2.2)
     (case side6 => exact (Kd.R_reads' BI.out.r4).2.1)
     rintro e w9 ⟨rfl, hb⟩
     refine ⟨_, rfl, ?_⟩
     replace BI := ak (BI.out.step hb)
     replace BK1 := ak (blk_below BK1.out hb)
     replace BK2 := ak (blk_below BK2.out hb)
     clear hb
     refine hK.out _ _ ⟨bq BK1 0, bq BK2 0, BI.out.c0, BI.out.c1, BI.out.c2, BI.out.c3, BI.out.c4⟩ (fun hHeld => ?_)
     clear hK K
     refine norm_ (a' := ?_) ?_ ?_
     rotate_left
     ·show Act.put _ (some 34) _ = _
      simp only [Act.put, List.setIfInBounds_toArray, List.set_cons_zero, List.set_cons_succ, i64_w, i32_w]
      rfl
     refine pureA 27 (some 35) 36 268435455 HT_ ?_
     refine pureA 28 (some 36) 36 536870911 HT_ ?_
     refine takeA 29 (some 37) 36 1073741823 HT_ HW_ hHeld ?_ (hy := by rintro w' ⟨s0, s1, s2, s3, s4, s5, s6⟩; go_simp; with_reducible rfl)
     refine pureA 30 (some 38) 36 2147483647 HT_ ?_
     refine pureA 31 (some 39) 36 4294967295 HT_ ?_
     refine takeA 32 (some 40) 36 8589934591 HT_ HW_ hHeld ?_ (hy := by rintro w' ⟨s0, s1, s2, s3, s4, s5, s6⟩; go_simp; with_reducible rfl)
     refine pureA 33 (some 41) 36 17179869183 HT_ ?_
     refine pureA 34 (some 42) 36 34359738367 HT_ ?_
     refine pureA 35 (some 43) 36 68719476735 HT_ ?_
     refine done_ (done_of HT_.out (by kernel_rfl)) ?_
     go_wp2
     go_ret
     exact ⟨_, er, BI.out⟩
    ·rw [if_neg c2] at h
     have c2b0 : decide ((l2.length : Int) = 200) = false := decide_eq_false c2
     have c2b1 : ((l2.length : Int) == 200) = false := beq_eq_false_iff_ne.mpr c2
     clear c2
     replace BI := ak (BI.out.step (below_drew (Below.refl _ _)))
     replace BK1 := ak (blk_drew BK1.out)
     replace BK2 := ak (blk_drew BK2.out)
     clear hc1 hc2 hx0 hx1 hx2 hx3 hx4
     refine start_ (n := 36) (S := fun w' => w'.cell? ⟨gb1, 0, none⟩ = some (.pointer (some ⟨g, 0, none⟩)) ∧ w'.cell? ⟨gb2, 0, none⟩ = some (.int .i64 m) ∧ w'.cell? ⟨g, 0, none⟩ = some (.int .i64 f0) ∧ w'.cell? ⟨g, 1, none⟩ = some (.int .i64 f1) ∧ w'.cell? ⟨g, 2, none⟩ = some (.slice X2 l2.length Y2) ∧ w'.cell? ⟨g, 3, none⟩ = some (.slice X3 l3.length Y3) ∧ w'.cell? ⟨g, 4, none⟩ = some (.slice X4 l4.length Y4)) (ds := []) (bl 36 0) (by kernel_rfl) rfl rfl ⟨bq BK1 0, bq BK2 0, BI.out.c0, BI.out.c1, BI.out.c2, BI.out.c3, BI.out.c4⟩ (fun hHeld => ?_); refine with_tabW bd_sign.tab1 bd_sign.bits1 (fun HT_ HW_ => ?_)
     generalize w5.drew = w6 at BI BK1 BK2 hHeld ⊢
     refine takeA 0 (some 8) 36 1 HT_ HW_ hHeld ?_ (hy := by rintro w' ⟨s0, s1, s2, s3, s4, s5, s6⟩; go_simp; with_reducible rfl)
     refine pureA 1 (some 9) 36 3 HT_ ?_
     refine pureA 2 (some 10) 36 7 HT_ ?_
     refine takeA 3 (some 11) 36 15 HT_ HW_ hHeld ?_ (hy := by rintro w' ⟨s0, s1, s2, s3, s4, s5, s6⟩; go_simp; with_reducible rfl)
     refine takeA 4 (some 12) 36 31 HT_ HW_ hHeld ?_ (hy := by rintro w' ⟨s0, s1, s2, s3, s4, s5, s6⟩; go_simp; with_reducible rfl)
     refine oneA 5 (some 13) 36 63 HT_ (fun K hK => ?_)
     refine goes_ Try.func197 (by kernel_rfl) rfl #[.int .i64 f0, .int .i64 m] (by rfl) rfl rfl (by (try simp only [List.map_toArray, List.map_cons, List.map_nil]); first | done | rfl) ?_
     with_reducible refine (impl_isMemberOf.calls f0 m true _ A1.out).mono ?_
     rintro e w' ⟨rfl, ⟨nd, rfl⟩⟩
     refine ⟨_, rfl, ?_⟩
     replace BI := ak (BI.out.drewN nd)
     replace BK1 := ak (blk_drewN BK1.out nd)
     replace BK2 := ak (blk_drewN BK2.out nd)
     generalize w6.drewN nd = w7 at BI BK1 BK2 ⊢
     refine hK.out _ _ ⟨bq BK1 0, bq BK2 0, BI.out.c0, BI.out.c1, BI.out.c2, BI.out.c3, BI.out.c4⟩ (fun hHeld => ?_)
     clear hK K
     refine norm_ (a' := ?_) ?_ ?_
     rotate_left
     ·show Act.put _ (some 13) _ = _
      simp only [Act.put, List.setIfInBounds_toArray, List.set_cons_zero, List.set_cons_succ, i64_w, i32_w]
      rfl
     refine pureA 6 (some 14) 36 127 HT_ ?_
     refine pureA 7 (some 15) 36 255 HT_ ?_
     refine takeA 8 (some 16) 36 511 HT_ HW_ hHeld ?_ (hy := by rintro w' ⟨s0, s1, s2, s3, s4, s5, s6⟩; go_simp; with_reducible rfl)
     refine pureA 9 (some 17) 36 1023 HT_ ?_
     refine pureA 10 (some 18) 36 2047 HT_ ?_
     refine takeA 11 (some 19) 36 4095 HT_ HW_ hHeld ?_ (hy := by rintro w' ⟨s0, s1, s2, s3, s4, s5, s6⟩; go_simp; with_reducible rfl)
     refine pureA 12 (some 20) 36 8191 HT_ ?_
     refine oneA 13 (some 21) 36 16383 HT_ (fun K hK => ?_)
     refine goes_ Try.func103 (by kernel_rfl) rfl #[.slice X4 l4.length Y4, .int .i64 n] (by rfl) rfl rfl (by (try simp only [List.map_toArray, List.map_cons, List.map_nil]); first | done | rfl) ?_
     with_reducible refine (slices_Contains_int_int.calls k _ _ l4 n true _ ?side1 ?side2 A2.out).mono ?_
     (case side1 => exact cd (Kd.R_reads' BI.out.r4).2.2)
     (case side2 => exact (Kd.R_reads' BI.out.r4).2.1)
     rintro e w' ⟨rfl, ⟨nd, rfl⟩⟩
     refine ⟨_, rfl, ?_⟩
     replace BI := ak (BI.out.drewN nd)
     replace BK1 := ak (blk_drewN BK1.out nd)
     replace BK2 := ak (blk_drewN BK2.out nd)
     generalize w7.drewN nd = w8 at BI BK1 BK2 ⊢
     refine hK.out _ _ ⟨bq BK1 0, bq BK2 0, BI.out.c0, BI.out.c1, BI.out.c2, BI.out.c3, BI.out.c4⟩ (fun hHeld => ?_)
     clear hK K
     refine norm_ (a' := ?_) ?_ ?_
     rotate_left
     ·show Act.put _ (some 21) _ = _
      simp only [Act.put, List.setIfInBounds_toArray, List.set_cons_zero, List.set_cons_succ, i64_w, i32_w]
      rfl
     refine pureA 14 (some 22) 36 32767 HT_ ?_
     refine pureA 15 (some 23) 36 65535 HT_ ?_
     refine pureA 16 (some 24) 36 131071 HT_ ?_
     refine takeA 17 (some 25) 36 262143 HT_ HW_ hHeld ?_ (hy := by rintro w' ⟨s0, s1, s2, s3, s4, s5, s6⟩; go_simp; with_reducible rfl)
     refine pureA 18 (some 26) 36 524287 HT_ ?_
     refine takeA 19 (some 27) 36 1048575 HT_ HW_ hHeld ?_ (hy := by rintro w' ⟨s0, s1, s2, s3, s4, s5, s6⟩; go_simp; with_reducible rfl)
     refine takeA 20 (some 28) 36 2097151 HT_ HW_ hHeld ?_ (hy := by rintro w' ⟨s0, s1, s2, s3, s4, s5, s6⟩; go_simp; with_reducible rfl)
     refine pureA 21 (some 29) 36 4194303 HT_ ?_
     refine pureA 22 (some 30) 36 8388607 HT_ ?_
     refine takeA 23 (some 31) 36 16777215 HT_ HW_ hHeld ?_ (hy := by rintro w' ⟨s0, s1, s2, s3, s4, s5, s6⟩; go_simp; with_reducible rfl)
     refine takeA 24 (some 32) 36 33554431 HT_ HW_ hHeld ?_ (hy := by rintro w' ⟨s0, s1, s2, s3, s4, s5, s6⟩; go_simp; with_reducible rfl)
     refine pureA 25 (some 33) 36 67108863 HT_ ?_
     refine oneA 26 (some 34) 36 134217727 HT_ (fun K hK => ?_)
     refine goes_ Try.func225 (by kernel_rfl) rfl #[.agg #[.int .i64 f0, .int .i64 f1, .slice X2 l2.length Y2, .slice X3 l3.length Y3, .slice X4 l4.length Y4], .int .i64 f1, .int .i64 m, .int .i64 n] (by rfl) rfl rfl (by (try simp only [List.map_toArray, List.map_cons, List.map_nil]); first | done | rfl) ?_
     with_reducible refine (impl_Board_hasSigned.calls k f0 f1 _ _ l2 _ _ l3 _ _ l4 f1 m n false _ ?side1 ?side2 ?side3 ?side4 ?side5 ?side6 A3.out).mono ?_
     (case side1 => exact cd (Kd.S_reads' BI.out.s2).2.2)
     (case side2 => exact (Kd.S_reads' BI.out.s2).2.1)
     (case side3 => exact cd (Kd.R_reads' BI.out.r3).2.2)
     (case side4 => exact (Kd.R_reads' BI.out.r3).2.1)
     (case side5 => exact cd (Kd.R_reads' BI.out.r4).2.2)
     (case side6 => exact (Kd.R_reads' BI.out.r4).2.1)
     rintro e w9 ⟨rfl, hb⟩
     refine ⟨_, rfl, ?_⟩
     replace BI := ak (BI.out.step hb)
     replace BK1 := ak (blk_below BK1.out hb)
     replace BK2 := ak (blk_below BK2.out hb)
     clear hb
     refine hK.out _ _ ⟨bq BK1 0, bq BK2 0, BI.out.c0, BI.out.c1, BI.out.c2, BI.out.c3, BI.out.c4⟩ (fun hHeld => ?_)
     clear hK K
     refine norm_ (a' := ?_) ?_ ?_
     rotate_left
     ·show Act.put _ (some 34) _ = _
      simp only [Act.put, List.setIfInBounds_toArray, List.set_cons_zero, List.set_cons_succ, i64_w, i32_w]
      rfl
     refine pureA 27 (some 35) 36 268435455 HT_ ?_
     refine pureA 28 (some 36) 36 536870911 HT_ ?_
     refine takeA 29 (some 37) 36 1073741823 HT_ HW_ hHeld ?_ (hy := by rintro w' ⟨s0, s1, s2, s3, s4, s5, s6⟩; go_simp; with_reducible rfl)
     refine pureA 30 (some 38) 36 2147483647 HT_ ?_
     refine pureA 31 (some 39) 36 4294967295 HT_ ?_
     refine takeA 32 (some 40) 36 8589934591 HT_ HW_ hHeld ?_ (hy := by rintro w' ⟨s0, s1, s2, s3, s4, s5, s6⟩; go_simp; with_reducible rfl)
     refine pureA 33 (some 41) 36 17179869183 HT_ ?_
     refine pureA 34 (some 42) 36 34359738367 HT_ ?_
     refine pureA 35 (some 43) 36 68719476735 HT_ ?_
     refine done_ (done_of HT_.out (by kernel_rfl)) ?_
     replace h := bS h; obtain ⟨t4, A4, h⟩ := h
     cases t4 with
     | false =>
      rw [if_neg (by decide)] at h
      replace h := ifS h; obtain ⟨HL, h⟩ := h; replace HL := ak HL
      obtain ⟨rfl, rfl⟩ := Prod.mk.inj (Option.some.inj h)
      clear h
      have hc1 : w9.cell? ⟨gb1, 0, none⟩ = some (.pointer (some ⟨g, 0, none⟩)) := bq BK1 0; have hc2 : w9.cell? ⟨gb2, 0, none⟩ = some (.int .i64 m) := bq BK2 0; have hx0 := BI.out.c0; have hx1 := BI.out.c1; have hx2 := BI.out.c2; have hx3 := BI.out.c3; have hx4 := BI.out.c4
      go_wp2_with (first | ((with_reducible refine gate_callee (f := 226) rfl ?_); refine goesLa (some 49) rfl Try.func226 #[.slice X2 l2.length Y2, .func (.func 227) #[] #[.pointer (some ⟨gb1, 0, none⟩), .pointer (some ⟨gb2, 0, none⟩)]] rfl ?_; (with_reducible refine (bd_any.calls k _ _ l2 gb1 gb2 g f0 f1 m _ _ _ _ _ ?side1 ?side2 BK1.out BK2.out BI.out.blk A4.out).mono ?_); (case side1 => exact cd (Kd.S_reads' BI.out.s2).2.2); (case side2 => exact (Kd.S_reads' BI.out.s2).2.1); rintro e w' ⟨rfl, ⟨nd, rfl⟩⟩; refine ⟨_, rfl, ?_⟩))
      go_quiet (first | (go_at_call 197; (with_reducible refine (impl_isMemberOf.calls f0 m _ _ A1.out).mono ?_); rintro e w' ⟨rfl, ⟨nd, rfl⟩⟩; (try first | exact ⟨rfl, _, World.drewN_drewN _ _ _⟩ | exact ⟨rfl, _, Eq.trans (World.drewN_drewN _ _ _) (congrArg (World.drewN _) (Nat.add_assoc _ _ _))⟩)) | (go_at_call 103; (with_reducible refine (slices_Contains_int_int.calls k _ _ l4 n _ _ ?side1 ?side2 A2.out).mono ?_); (case side1 => exact cd (Kd.R_reads' BI.out.r4).2.2); (case side2 => exact (Kd.R_reads' BI.out.r4).2.1); rintro e w' ⟨rfl, ⟨nd, rfl⟩⟩; (try first | exact ⟨rfl, _, World.drewN_drewN _ _ _⟩ | exact ⟨rfl, _, Eq.trans (World.drewN_drewN _ _ _) (congrArg (World.drewN _) (Nat.add_assoc _ _ _))⟩)))
      go_wp2
      replace BI := ak ((BI.out.drewN nd).drewN nq); replace BK1 := ak (blk_drewN (blk_drewN BK1.out nd) nq); replace BK2 := ak (blk_drewN (blk_drewN BK2.out nd) nq)
      clear hc1 hc2 hx0 hx1 hx2 hx3 hx4
      replace BI := ak (BI.out.step (below_drew (Below.refl _ _)))
      replace BK1 := ak (blk_drew BK1.out)
      replace BK2 := ak (blk_drew BK2.out)
      refine start_ (n := 17) (S := fun w' => w'.cell? ⟨gb1, 0, none⟩ = some (.pointer (some ⟨g, 0, none⟩)) ∧ w'.cell? ⟨gb2, 0, none⟩ = some (.int .i64 m) ∧ w'.cell? ⟨g, 0, none⟩ = some (.int .i64 f0) ∧ w'.cell? ⟨g, 1, none⟩ = some (.int .i64 f1) ∧ w'.cell? ⟨g, 2, none⟩ = some (.slice X2 l2.length Y2) ∧ w'.cell? ⟨g, 3, none⟩ = some (.slice X3 l3.length Y3) ∧ w'.cell? ⟨g, 4, none⟩ = some (.slice X4 l4.length Y4)) (ds := [16]) (bl 17 0) (by kernel_rfl) rfl rfl ⟨bq BK1 0, bq BK2 0, BI.out.c0, BI.out.c1, BI.out.c2, BI.out.c3, BI.out.c4⟩ (fun hHeld => ?_); refine with_tabW bd_sign.tab6 bd_sign.bits6 (fun HT_ HW_ => ?_)
      generalize World.drew _ = w10 at BI BK1 BK2 hHeld ⊢
      refine takeA 0 (some 60) 17 1 HT_ HW_ hHeld ?_ (hy := by rintro w' ⟨s0, s1, s2, s3, s4, s5, s6⟩; go_simp; with_reducible rfl)
      refine takeA 1 (some 61) 17 3 HT_ HW_ hHeld ?_ (hy := by rintro w' ⟨s0, s1, s2, s3, s4, s5, s6⟩; go_simp; with_reducible rfl)
      refine pureA 2 (some 62) 17 7 HT_ ?_
      refine pureA 3 (some 63) 17 15 HT_ ?_
      refine takeA 4 (some 64) 17 31 HT_ HW_ hHeld ?_ (hy := by rintro w' ⟨s0, s1, s2, s3, s4, s5, s6⟩; go_simp; with_reducible rfl)
      refine takeA 5 (some 65) 17 63 HT_ HW_ hHeld ?_ (hy := by rintro w' ⟨s0, s1, s2, s3, s4, s5, s6⟩; go_simp; with_reducible rfl)
      refine pureA 6 (some 66) 17 127 HT_ ?_
      refine pureA 7 (some 67) 17 255 HT_ ?_
      refine takeA 8 (some 68) 17 511 HT_ HW_ hHeld ?_ (hy := by rintro w' ⟨s0, s1, s2, s3, s4, s5, s6⟩; go_simp; with_reducible rfl)
      refine takeA 9 (some 69) 17 1023 HT_ HW_ hHeld ?_ (hy := by rintro w' ⟨s0, s1, s2, s3, s4, s5, s6⟩; go_simp; with_reducible rfl)
      refine pureA 10 (some 70) 17 2047 HT_ ?_
      refine oneA 11 (some 71) 17 4095 HT_ (fun K hK => ?_)
      refine Kd.R_lit_step (Kd.int .i64) _ 3 ?hg (N := 71) ?hd (xs := ([f1, m, n] : List Int)) (inner := [.int .i64 f1, .int .i64 m, .int .i64 n]) (ok := fun _ => True) (okp := fun _ => True) ?hr ?hp (fun _ hk => hk) trivial (Below.refl _ _) (Nat.le_refl _) (by simp) ?_; (case hd => rfl); (case hg => rfl); (case hr => first | (go_simp; done) | (go_simp; rfl)); (case hp => exact (Reps.one (show Kd.M (Kd.int .i64) _ _ _ f1 [.int .i64 f1] from rfl) (Reps.one (show Kd.M (Kd.int .i64) _ _ _ m [.int .i64 m] from rfl) (Reps.one (show Kd.M (Kd.int .i64) _ _ _ n [.int .i64 n] from rfl) (Reps.none _ _)))))
      intro vN w11 ho hb hg_ hnew_
      clear hg_ hnew_
      have HS := ak (Kd.S_elder' BI.out.s2 (Kd.R_base ho) hb)
      have HF := ak (⟨Kd.fresh' (Kd.R_lt BI.out.r3), Kd.fresh' (Kd.R_lt BI.out.r4), Kd.fresh' (Kd.S_lt BI.out.s2)⟩ : (∀ k_, w10.heap.size ≤ k_ → some k_ ≠ (Value.slice X3 l3.length Y3).ownBlock) ∧ (∀ k_, w10.heap.size ≤ k_ → some k_ ≠ (Value.slice X4 l4.length Y4).ownBlock) ∧ (∀ k_, w10.heap.size ≤ k_ → some k_ ≠ (Value.slice X2 l2.length Y2).ownBlock))
      have HV := ak (Kd.R_base ho)
      have HN := ak (Kd.R_lower ho BI.out.below.size)
      replace BI := ak (BI.out.step hb)
      replace BK1 := ak (blk_below BK1.out hb)
      replace BK2 := ak (blk_below BK2.out hb)
      clear ho hb
      obtain ⟨XN, YN, eN⟩ := Kd.R_slice HN.out
      subst eN
      refine hK.out _ _ ⟨bq BK1 0, bq BK2 0, BI.out.c0, BI.out.c1, BI.out.c2, BI.out.c3, BI.out.c4⟩ (fun hHeld => ?_)
      clear hK K
      refine norm_ (a' := ?_) ?_ ?_
      rotate_left
      ·show Act.put _ (some 71) _ = _
       simp only [Act.put, List.setIfInBounds_toArray, List.set_cons_zero, List.set_cons_succ, i64_w, i32_w]
       rfl
      refine oneA 12 (some 72) 17 8191 HT_ (fun K hK => ?_)
      refine value_ (w1 := ?_) (v := ?_) (by rfl) rfl ?_ ?_
      rotate_left 2
      ·go_simp
       constructor
       ·rfl
       ·rfl
      refine hK.out _ _ ⟨bq (ak (blk_alloc BK1.out _)) 0, bq (ak (blk_alloc BK2.out _)) 0, bq (ak (blk_alloc BI.out.blk _)) 0, bq (ak (blk_alloc BI.out.blk _)) 1, bq (ak (blk_alloc BI.out.blk _)) 2, bq (ak (blk_alloc BI.out.blk _)) 3, bq (ak (blk_alloc BI.out.blk _)) 4⟩ (fun hHeld => ?_)
      clear hK K
      refine norm_ (a' := ?_) ?_ ?_
      rotate_left
      ·show Act.put _ (some 72) _ = _
       simp only [Act.put, List.setIfInBounds_toArray, List.set_cons_zero, List.set_cons_succ, i64_w, i32_w]
       rfl
      refine oneA 13 (some 73) 17 16383 HT_ (fun K hK => ?_)
      refine Kd.S_append_step (Kd.slice 3 (Kd.int .i64)) (w0 := w0) w0.heap.size (by rfl) (.tmp 64) (.tmp 72) 45 23 (.slice none 0 0) 24 rfl Try.underlying45 info23 rfl (by decide) (by omega) (.slice X2 l2.length Y2) l2 [f1, m, n] [.slice XN [f1, m, n].length YN] (fun k_ => some k_ ≠ (Value.slice X3 l3.length Y3).ownBlock ∧ some k_ ≠ (Value.slice X4 l4.length Y4).ownBlock) (fun k_ => some k_ = (Value.slice XN [f1, m, n].length YN).ownBlock) rfl rfl ?aP ?aQ ?aF ?aO ?aB ?aS ?aL ?_
      (case aP => exact Kd.M_row (Kd.R_tight rfl HN.out))
      (case aQ => exact fun k_ hk_ => ⟨⟨HF.out.1 k_ (HV.out k_ hk_.symm), HF.out.2.1 k_ (HV.out k_ hk_.symm)⟩, HF.out.2.2 k_ (HV.out k_ hk_.symm)⟩)
      (case aF => exact (fun k_ hk => ⟨Kd.fresh' (Kd.R_lt BI.out.r3) k_ hk, Kd.fresh' (Kd.R_lt BI.out.r4) k_ hk⟩))
      (case aO => exact Kd.S_mono HS.out (fun k_ hk => ⟨hk.1, fun e_ => hk.2 e_⟩))
      (case aB => exact BI.out.below)
      (case aS => exact BI.out.below.size)
      (case aL => have := HL.out; omega)
      intro u2 w12 ho hb hg hat
      clear hat
      have HG := ak (blk_grown BI.out.blk hg (Kd.S_ne BI.out.s2 BI.out.blk (by decide)))
      have H3 := ak (Kd.R_over' BI.out.r3 (Kd.S_typed BI.out.s2) (by decide) hg)
      have H4 := ak (Kd.R_over' BI.out.r4 (Kd.S_typed BI.out.s2) (by decide) hg)
      have HK := ak (bd_keep BI.out.keep hg)
      replace BK1 := ak (blk_grown BK1.out hg (Kd.S_ne BI.out.s2 BK1.out (by decide)))
      replace BK2 := ak (blk_grown BK2.out hg (Kd.S_ne BI.out.s2 BK2.out (by decide)))
      have HB := ak hb
      have GE := ak BI.out.ge
      have HO := ak ho
      clear ho hb hg BI HS
      obtain ⟨X5, Y5, e5⟩ := Kd.S_slice HO.out
      rw [show (l2 ++ [[f1, m, n]]).length = l2.length + 1 by simp] at e5
      subst e5
      refine hK.out _ _ ⟨bq BK1 0, bq BK2 0, bq HG 0, bq HG 1, bq HG 2, bq HG 3, bq HG 4⟩ (fun hHeld => ?_)
      clear hK K
      refine norm_ (a' := ?_) ?_ ?_
      rotate_left
      ·show Act.put _ (some 73) _ = _
       simp only [Act.put, List.setIfInBounds_toArray, List.set_cons_zero, List.set_cons_succ, i64_w, i32_w]
       rfl
      refine pureA 14 (some 74) 17 32767 HT_ ?_
      refine pureA 15 (some 75) 17 65535 HT_ ?_
      refine last_ (i := 16) (N := none) (bl 17 131071) rfl rfl (one_of HT_.out (by kernel_rfl)) (by decide) (fun K hK => ?_)
      have hs_ : w12.cell? ⟨g, 2, none⟩ = some (.slice X2 l2.length Y2) := bq HG 2
      have hfs_ := blk_frozen HG.out 2
      refine skip_ (w1 := ?_) (by rfl) rfl ?_ ?_
      rotate_left
      ·go_simp
       rfl
      refine hK.out _ _ ?_
      clear hK K
      refine done_ (done_of HT_.out (by kernel_rfl)) ?_
      go_wp2
      go_ret
      exact ⟨_, er, BdIn.put 2 _ HG.out rfl GE.out HO.out H3.out H4.out HB.out HK.out⟩
     | true =>
      rw [if_pos rfl] at h
      replace h := bS h; obtain ⟨t5, A5, h⟩ := h
      cases t5 with
      | false =>
       rw [if_neg (by decide)] at h
       obtain ⟨rfl, rfl⟩ := Prod.mk.inj (Option.some.inj h)
       clear h
       have hc1 : w9.cell? ⟨gb1, 0, none⟩ = some (.pointer (some ⟨g, 0, none⟩)) := bq BK1 0; have hc2 : w9.cell? ⟨gb2, 0, none⟩ = some (.int .i64 m) := bq BK2 0; have hx0 := BI.out.c0; have hx1 := BI.out.c1; have hx2 := BI.out.c2; have hx3 := BI.out.c3; have hx4 := BI.out.c4
       go_wp2_with (first | ((with_reducible refine gate_callee (f := 226) rfl ?_); refine goesLa (some 49) rfl Try.func226 #[.slice X2 l2.length Y2, .func (.func 227) #[] #[.pointer (some ⟨gb1, 0, none⟩), .pointer (some ⟨gb2, 0, none⟩)]] rfl ?_; (with_reducible refine (bd_any.calls k _ _ l2 gb1 gb2 g f0 f1 m _ _ _ _ _ ?side1 ?side2 BK1.out BK2.out BI.out.blk A4.out).mono ?_); (case side1 => exact cd (Kd.S_reads' BI.out.s2).2.2); (case side2 => exact (Kd.S_reads' BI.out.s2).2.1); rintro e w' ⟨rfl, ⟨nd, rfl⟩⟩; refine ⟨_, rfl, ?_⟩))
       go_quiet (first | (go_at_call 103; (with_reducible refine (slices_Contains_int_int.calls k _ _ l3 m _ _ ?side1 ?side2 A5.out).mono ?_); (case side1 => exact cd (Kd.R_reads' BI.out.r3).2.2); (case side2 => exact (Kd.R_reads' BI.out.r3).2.1); rintro e w' ⟨rfl, ⟨nd, rfl⟩⟩; (try first | exact ⟨rfl, _, World.drewN_drewN _ _ _⟩ | exact ⟨rfl, _, Eq.trans (World.drewN_drewN _ _ _) (congrArg (World.drewN _) (Nat.add_assoc _ _ _))⟩)))
       go_wp2
       go_ret
       exact ⟨_, er, (BI.out.drewN nd).drewN nq⟩
      | true =>
       rw [if_pos rfl] at h
       replace h := ifS h; obtain ⟨HL, h⟩ := h; replace HL := ak HL
       obtain ⟨rfl, rfl⟩ := Prod.mk.inj (Option.some.inj h)
       clear h
       have hc1 : w9.cell? ⟨gb1, 0, none⟩ = some (.pointer (some ⟨g, 0, none⟩)) := bq BK1 0; have hc2 : w9.cell? ⟨gb2, 0, none⟩ = some (.int .i64 m) := bq BK2 0; have hx0 := BI.out.c0; have hx1 := BI.out.c1; have hx2 := BI.out.c2; have hx3 := BI.out.c3; have hx4 := BI.out.c4
       go_wp2_with (first | ((with_reducible refine gate_callee (f := 226) rfl ?_); refine goesLa (some 49) rfl Try.func226 #[.slice X2 l2.length Y2, .func (.func 227) #[] #[.pointer (some ⟨gb1, 0, none⟩), .pointer (some ⟨gb2, 0, none⟩)]] rfl ?_; (with_reducible refine (bd_any.calls k _ _ l2 gb1 gb2 g f0 f1 m _ _ _ _ _ ?side1 ?side2 BK1.out BK2.out BI.out.blk A4.out).mono ?_); (case side1 => exact cd (Kd.S_reads' BI.out.s2).2.2); (case side2 => exact (Kd.S_reads' BI.out.s2).2.1); rintro e w' ⟨rfl, ⟨nd, rfl⟩⟩; refine ⟨_, rfl, ?_⟩))
       go_quiet (first | (go_at_call 103; (with_reducible refine (slices_Contains_int_int.calls k _ _ l3 m _ _ ?side1 ?side2 A5.out).mono ?_); (case side1 => exact cd (Kd.R_reads' BI.out.r3).2.2); (case side2 => exact (Kd.R_reads' BI.out.r3).2.1); rintro e w' ⟨rfl, ⟨nd, rfl⟩⟩; (try first | exact ⟨rfl, _, World.drewN_drewN _ _ _⟩ | exact ⟨rfl, _, Eq.trans (World.drewN_drewN _ _ _) (congrArg (World.drewN _) (Nat.add_assoc _ _ _))⟩)))
       go_wp2
       replace BI := ak ((BI.out.drewN nd).drewN nq); replace BK1 := ak (blk_drewN (blk_drewN BK1.out nd) nq); replace BK2 := ak (blk_drewN (blk_drewN BK2.out nd) nq)
       clear hc1 hc2 hx0 hx1 hx2 hx3 hx4
       replace BI := ak (BI.out.step (below_drew (Below.refl _ _)))
       replace BK1 := ak (blk_drew BK1.out)
       replace BK2 := ak (blk_drew BK2.out)
       refine start_ (n := 17) (S := fun w' => w'.cell? ⟨gb1, 0, none⟩ = some (.pointer (some ⟨g, 0, none⟩)) ∧ w'.cell? ⟨gb2, 0, none⟩ = some (.int .i64 m) ∧ w'.cell? ⟨g, 0, none⟩ = some (.int .i64 f0) ∧ w'.cell? ⟨g, 1, none⟩ = some (.int .i64 f1) ∧ w'.cell? ⟨g, 2, none⟩ = some (.slice X2 l2.length Y2) ∧ w'.cell? ⟨g, 3, none⟩ = some (.slice X3 l3.length Y3) ∧ w'.cell? ⟨g, 4, none⟩ = some (.slice X4 l4.length Y4)) (ds := [16]) (bl 17 0) (by kernel_rfl) rfl rfl ⟨bq BK1 0, bq BK2 0, BI.out.c0, BI.out.c1, BI.out.c2, BI.out.c3, BI.out.c4⟩ (fun hHeld => ?_); refine with_tabW bd_sign.tab6 bd_sign.bits6 (fun HT_ HW_ => ?_)
       generalize World.drew _ = w10 at BI BK1 BK2 hHeld ⊢
       refine takeA 0 (some 60) 17 1 HT_ HW_ hHeld ?_ (hy := by rintro w' ⟨s0, s1, s2, s3, s4, s5, s6⟩; go_simp; with_reducible rfl)
       refine takeA 1 (some 61) 17 3 HT_ HW_ hHeld ?_ (hy := by rintro w' ⟨s0, s1, s2, s3, s4, s5, s6⟩; go_simp; with_reducible rfl)
       refine pureA 2 (some 62) 17 7 HT_ ?_
       refine pureA 3 (some 63) 17 15 HT_ ?_
       refine takeA 4 (some 64) 17 31 HT_ HW_ hHeld ?_ (hy := by rintro w' ⟨s0, s1, s2, s3, s4, s5, s6⟩; go_simp; with_reducible rfl)
       refine takeA 5 (some 65) 17 63 HT_ HW_ hHeld ?_ (hy := by rintro w' ⟨s0, s1, s2, s3, s4, s5, s6⟩; go_simp; with_reducible rfl)
       refine pureA 6 (some 66) 17 127 HT_ ?_
       refine pureA 7 (some 67) 17 255 HT_ ?_
       refine takeA 8 (some 68) 17 511 HT_ HW_ hHeld ?_ (hy := by rintro w' ⟨s0, s1, s2, s3, s4, s5, s6⟩; go_simp; with_reducible rfl)
       refine takeA 9 (some 69) 17 1023 HT_ HW_ hHeld ?_ (hy := by rintro w' ⟨s0, s1, s2, s3, s4, s5, s6⟩; go_simp; with_reducible rfl)
       refine pureA 10 (some 70) 17 2047 HT_ ?_
       refine oneA 11 (some 71) 17 4095 HT_ (fun K hK => ?_)
       refine Kd.R_lit_step (Kd.int .i64) _ 3 ?hg (N := 71) ?hd (xs := ([f1, m, n] : List Int)) (inner := [.int .i64 f1, .int .i64 m, .int .i64 n]) (ok := fun _ => True) (okp := fun _ => True) ?hr ?hp (fun _ hk => hk) trivial (Below.refl _ _) (Nat.le_refl _) (by simp) ?_; (case hd => rfl); (case hg => rfl); (case hr => first | (go_simp; done) | (go_simp; rfl)); (case hp => exact (Reps.one (show Kd.M (Kd.int .i64) _ _ _ f1 [.int .i64 f1] from rfl) (Reps.one (show Kd.M (Kd.int .i64) _ _ _ m [.int .i64 m] from rfl) (Reps.one (show Kd.M (Kd.int .i64) _ _ _ n [.int .i64 n] from rfl) (Reps.none _ _)))))
       intro vN w11 ho hb hg_ hnew_
       clear hg_ hnew_
       have HS := ak (Kd.S_elder' BI.out.s2 (Kd.R_base ho) hb)
       have HF := ak (⟨Kd.fresh' (Kd.R_lt BI.out.r3), Kd.fresh' (Kd.R_lt BI.out.r4), Kd.fresh' (Kd.S_lt BI.out.s2)⟩ : (∀ k_, w10.heap.size ≤ k_ → some k_ ≠ (Value.slice X3 l3.length Y3).ownBlock) ∧ (∀ k_, w10.heap.size ≤ k_ → some k_ ≠ (Value.slice X4 l4.length Y4).ownBlock) ∧ (∀ k_, w10.heap.size ≤ k_ → some k_ ≠ (Value.slice X2 l2.length Y2).ownBlock))
       have HV := ak (Kd.R_base ho)
       have HN := ak (Kd.R_lower ho BI.out.below.size)
       replace BI := ak (BI.out.step hb)
       replace BK1 := ak (blk_below BK1.out hb)
       replace BK2 := ak (blk_below BK2.out hb)
       clear ho hb
       obtain ⟨XN, YN, eN⟩ := Kd.R_slice HN.out
       subst eN
       refine hK.out _ _ ⟨bq BK1 0, bq BK2 0, BI.out.c0, BI.out.c1, BI.out.c2, BI.out.c3, BI.out.c4⟩ (fun hHeld => ?_)
       clear hK K
       refine norm_ (a' := ?_) ?_ ?_
       rotate_left
       ·show Act.put _ (some 71) _ = _
        simp only [Act.put, List.setIfInBounds_toArray, List.set_cons_zero, List.set_cons_succ, i64_w, i32_w]
        rfl
       refine oneA 12 (some 72) 17 8191 HT_ (fun K hK => ?_)
       refine value_ (w1 := ?_) (v := ?_) (by rfl) rfl ?_ ?_
       rotate_left 2
       ·go_simp
        constructor
        ·rfl
        ·rfl
       refine hK.out _ _ ⟨bq (ak (blk_alloc BK1.out _)) 0, bq (ak (blk_alloc BK2.out _)) 0, bq (ak (blk_alloc BI.out.blk _)) 0, bq (ak (blk_alloc BI.out.blk _)) 1, bq (ak (blk_alloc BI.out.blk _)) 2, bq (ak (blk_alloc BI.out.blk _)) 3, bq (ak (blk_alloc BI.out.blk _)) 4⟩ (fun hHeld => ?_)
       clear hK K
       refine norm_ (a' := ?_) ?_ ?_
       rotate_left
       ·show Act.put _ (some 72) _ = _
        simp only [Act.put, List.setIfInBounds_toArray, List.set_cons_zero, List.set_cons_succ, i64_w, i32_w]
        rfl
       refine oneA 13 (some 73) 17 16383 HT_ (fun K hK => ?_)
       refine Kd.S_append_step (Kd.slice 3 (Kd.int .i64)) (w0 := w0) w0.heap.size (by rfl) (.tmp 64) (.tmp 72) 45 23 (.slice none 0 0) 24 rfl Try.underlying45 info23 rfl (by decide) (by omega) (.slice X2 l2.length Y2) l2 [f1, m, n] [.slice XN [f1, m, n].length YN] (fun k_ => some k_ ≠ (Value.slice X3 l3.length Y3).ownBlock ∧ some k_ ≠ (Value.slice X4 l4.length Y4).ownBlock) (fun k_ => some k_ = (Value.slice XN [f1, m, n].length YN).ownBlock) rfl rfl ?aP ?aQ ?aF ?aO ?aB ?aS ?aL ?_
       (case aP => exact Kd.M_row (Kd.R_tight rfl HN.out))
       (case aQ => exact fun k_ hk_ => ⟨⟨HF.out.1 k_ (HV.out k_ hk_.symm), HF.out.2.1 k_ (HV.out k_ hk_.symm)⟩, HF.out.2.2 k_ (HV.out k_ hk_.symm)⟩)
       (case aF => exact (fun k_ hk => ⟨Kd.fresh' (Kd.R_lt BI.out.r3) k_ hk, Kd.fresh' (Kd.R_lt BI.out.r4) k_ hk⟩))
       (case aO => exact Kd.S_mono HS.out (fun k_ hk => ⟨hk.1, fun e_ => hk.2 e_⟩))
       (case aB => exact BI.out.below)
       (case aS => exact BI.out.below.size)
       (case aL => have := HL.out; omega)
       intro u2 w12 ho hb hg hat
       clear hat
       have HG := ak (blk_grown BI.out.blk hg (Kd.S_ne BI.out.s2 BI.out.blk (by decide)))
       have H3 := ak (Kd.R_over' BI.out.r3 (Kd.S_typed BI.out.s2) (by decide) hg)
       have H4 := ak (Kd.R_over' BI.out.r4 (Kd.S_typed BI.out.s2) (by decide) hg)
       have HK := ak (bd_keep BI.out.keep hg)
       replace BK1 := ak (blk_grown BK1.out hg (Kd.S_ne BI.out.s2 BK1.out (by decide)))
       replace BK2 := ak (blk_grown BK2.out hg (Kd.S_ne BI.out.s2 BK2.out (by decide)))
       have HB := ak hb
       have GE := ak BI.out.ge
       have HO := ak ho
       clear ho hb hg BI HS
       obtain ⟨X5, Y5, e5⟩ := Kd.S_slice HO.out
       rw [show (l2 ++ [[f1, m, n]]).length = l2.length + 1 by simp] at e5
       subst e5
       refine hK.out _ _ ⟨bq BK1 0, bq BK2 0, bq HG 0, bq HG 1, bq HG 2, bq HG 3, bq HG 4⟩ (fun hHeld => ?_)
       clear hK K
       refine norm_ (a' := ?_) ?_ ?_
       rotate_left
       ·show Act.put _ (some 73) _ = _
        simp only [Act.put, List.setIfInBounds_toArray, List.set_cons_zero, List.set_cons_succ, i64_w, i32_w]
        rfl
       refine pureA 14 (some 74) 17 32767 HT_ ?_
       refine pureA 15 (some 75) 17 65535 HT_ ?_
       refine last_ (i := 16) (N := none) (bl 17 131071) rfl rfl (one_of HT_.out (by kernel_rfl)) (by decide) (fun K hK => ?_)
       have hs_ : w12.cell? ⟨g, 2, none⟩ = some (.slice X2 l2.length Y2) := bq HG 2
       have hfs_ := blk_frozen HG.out 2
       refine skip_ (w1 := ?_) (by rfl) rfl ?_ ?_
       rotate_left
       ·go_simp
        rfl
       refine hK.out _ _ ?_
       clear hK K
       refine done_ (done_of HT_.out (by kernel_rfl)) ?_
       go_wp2
       go_ret
       exact ⟨_, er, BdIn.put 2 _ HG.out rfl GE.out HO.out H3.out H4.out HB.out HK.out⟩
/-! ### (*impl.Board).step (119) -/
section
variable {w0 w : World} {g : Nat} {row : Option Nat} {f0 f1 : Int} {v2 v3 v4 : Value} {l2 : List (List Int)} {l3 l4 : List Int} {W W1 : World}
theorem BdIn.rebase (h : BdIn w0 w g row f0 f1 v2 v3 v4 l2 l3 l4 W) (row1 : Option Nat) : BdIn w0 W g row1 f0 f1 v2 v3 v4 l2 l3 l4 W := ⟨h.blk, h.ge, h.s2, h.r3, h.r4, h.below, KeepBut.refl _ _ _⟩
theorem BdIn.after (hk : KeepBut w W g row) (h : BdIn w0 W g row f0 f1 v2 v3 v4 l2 l3 l4 W1) : BdIn w0 w g row f0 f1 v2 v3 v4 l2 l3 l4 W1 :=
  ⟨h.blk, h.ge, h.s2, h.r3, h.r4, h.below, ⟨Nat.le_trans hk.1 h.keep.1, fun i hi h1 h2 => (h.keep.2 i (Nat.lt_of_lt_of_le hi hk.1) h1 h2).trans (hk.2 i hi h1 h2)⟩⟩
theorem BdIn.none4 (h : BdIn w0 w g row f0 f1 v2 v3 v4 l2 l3 l4 W) : BdIn w0 w g row f0 f1 v2 v3 (.slice none 0 0) l2 l3 [] (W.setCell ⟨g, 4, none⟩ (.slice none 0 0)) :=
  BdIn.put 4 _ h.blk rfl h.ge (Kd.S_mono h.s2 (fun _ hk => ⟨hk.1, by simp [Value.ownBlock]⟩)) (Kd.R_mono h.r3 (fun _ _ => by simp [Value.ownBlock])) (Kd.R_nil _ _ _ _ _) h.below h.keep
theorem BdIn.set1 (h : BdIn w0 w g row f0 f1 v2 v3 v4 l2 l3 l4 W) (x : Int) : BdIn w0 w g row f0 x v2 v3 v4 l2 l3 l4 (W.setCell ⟨g, 1, none⟩ (.int .i64 x)) :=
  BdIn.put 1 _ h.blk rfl h.ge h.s2 h.r3 h.r4 h.below h.keep
/-- A new row comes into the place of the lists. -/
theorem BdIn.row4 (h : BdIn w0 w g row f0 f1 v2 v3 v4 l2 l3 l4 W) {u : Value} {y : List Int} (hu : Kd.R (Kd.int .i64) 3 W1 W.heap.size (fun _ => True) u y) (hb : Below W.heap.size W W1) : BdIn w0 w g row f0 f1 v2 v3 u l2 l3 y (W1.setCell ⟨g, 4, none⟩ u) :=
  BdIn.put 4 _ (blk_below h.blk hb) rfl h.ge (Kd.S_mono (Kd.S_elder' h.s2 (Kd.R_base hu) hb) (fun _ hk => ⟨hk.1.1, hk.2⟩)) (Kd.R_mono (Kd.R_elder' h.r3 (Kd.R_base hu) hb) (fun _ hk => hk.2)) (Kd.R_lower (Kd.R_mono (Kd.R_new' hu (Kd.R_lt h.r3)) (fun _ hk => hk.2)) h.below.size) (h.step hb).below (h.step hb).keep
end
def bd_step.f (k : Nat) (f0 f1 : Int) (l2 : List (List Int)) (l3 l4 : List Int) (a b c : Int) : Option (Int × List (List Int) × List Int × Bool) :=
  if a = 1 then (if b = 0 then ((impl_isListNumber.f c).bind fun t1 => if t1 = true then ((slices_Contains_int_int.f k l4 c).bind fun t2 => if t2 = true then some (f1, l2, l4, false) else ((impl_placed_int.f k l4 c).bind fun y => some (f1, l2, y, true))) else some (f1, l2, l4, false)) else some (f1, l2, l4, false))
  else (if a = 2 then ((bd_sign.f k f0 f1 l2 l3 l4 b c).bind fun q => some (f1, q.1, l4, q.2))
  else (if a = 3 then (if b = 0 then (if c = 0 then (if f1 = 20 then some (f1, l2, l4, false) else some (wrap64 (f1 + 1), l2, [], true)) else some (f1, l2, l4, false)) else some (f1, l2, l4, false)) else some (f1, l2, l4, false)))
theorem bd_step.mono : ∀ a0 a1 a2 a3 a4 a5 a6 a7 k, LeO (bd_step.f k a0 a1 a2 a3 a4 a5 a6 a7) (bd_step.f (k + 1) a0 a1 a2 a3 a4 a5 a6 a7) := by
 intro a0 a1 a2 a3 a4 a5 a6 a7 k
 unfold bd_step.f
 repeat' (first | exact LeO.refl _ | exact slices_Contains_int_int.mono _ _ _ | exact impl_placed_int.mono _ _ _ | exact bd_sign.mono _ _ _ _ _ _ _ _ | refine LeO.ite ?_ ?_ | refine LeO.bind ?_ (fun _ => ?_))
def bd_step.T5 : Bool × List (List Nat × List Nat) := (true, [([], []), ([], []), ([1], [1]), ([2], [2]), ([3], [3]), ([], []), ([5], [5]), ([4, 6], [4, 6]), ([0, 0, 1, 2, 3, 4, 5, 6, 7], [0]), ([8, 0, 1, 2, 3, 4, 5, 6, 7], [8]), ([9, 7, 7, 0, 1, 2, 3, 4, 5, 6, 7], [7, 9])])
def bd_step.B5 : List Nat := [0, 0, 2, 6, 14, 0, 32, 126, 255, 511, 1023]
theorem bd_step.tab5 : rtab .any (opsOf Try.f119 5) = bd_step.T5 := by kernel_rfl
theorem bd_step.bits5 : waitsOk bd_step.T5.2 bd_step.B5 = true := by kernel_rfl
theorem bs_0 {W : World} {g : Nat} {a b c : Int} (h : W.heap[g]? = some (.cells #[.int .i64 a, .int .i64 b, .int .i64 c] 158 (0, 0))) : W.cell? ⟨g, 0, none⟩ = some (.int .i64 a) := (blk_cell h 0).trans rfl
theorem bs_1 {W : World} {g : Nat} {a b c : Int} (h : W.heap[g]? = some (.cells #[.int .i64 a, .int .i64 b, .int .i64 c] 158 (0, 0))) : W.cell? ⟨g, 1, none⟩ = some (.int .i64 b) := (blk_cell h 1).trans rfl
theorem bs_2 {W : World} {g : Nat} {a b c : Int} (h : W.heap[g]? = some (.cells #[.int .i64 a, .int .i64 b, .int .i64 c] 158 (0, 0))) : W.cell? ⟨g, 2, none⟩ = some (.int .i64 c) := (blk_cell h 2).trans rfl
set_option maxHeartbeats 8000000 in
set_option maxRecDepth 100000 in
theorem bd_step.calls (k : Nat) (g : Nat) (f0 f1 : Int) (v2 v3 v4 : Value) (l2 : List (List Int)) (l3 l4 : List Int) (a b c : Int) (r1 : Int) (r2 : List (List Int)) (r4 : List Int) (r : Bool) (w0 w : World) (hI : BdIn w0 w g v2.ownBlock f0 f1 v2 v3 v4 l2 l3 l4 w) (h : bd_step.f k f0 f1 l2 l3 l4 a b c = some (r1, r2, r4, r)) :
  Calls Try.prog 119 #[.pointer (some ⟨g, 0, none⟩), .agg #[.int .i64 a, .int .i64 b, .int .i64 c]] w fun e w' => ∃ u2 u4 : Value, e = .returned (.bool r) ∧ BdIn w0 w g v2.ownBlock f0 r1 u2 v3 u4 r2 l3 r4 w' := by
 obtain ⟨X2, Y2, rfl⟩ := Kd.S_slice hI.s2
 obtain ⟨X3, Y3, rfl⟩ := Kd.R_slice hI.r3
 obtain ⟨X4, Y4, rfl⟩ := Kd.R_slice hI.r4
 have BI := Aside0.mk hI
 clear hI
 have hu47 := Try.underlying47
 have hu158 := Try.underlying158
 unfold bd_step.f at h
 by_cases ca : a = 1
 ·rw [if_pos ca] at h
  have cab0 : decide (a = 1) = true := decide_eq_true ca
  have cab1 : (a == 1) = true := beq_iff_eq.mpr ca
  have cab2 : (a != 1) = false := bne_eq_false_iff_eq.mpr ca
  clear ca
  by_cases cb : b = 0
  ·rw [if_pos cb] at h
   have cbb0 : decide (b = 0) = true := decide_eq_true cb
   have cbb1 : (b == 0) = true := beq_iff_eq.mpr cb
   have cbb2 : (b != 0) = false := bne_eq_false_iff_eq.mpr cb
   clear cb
   replace h := bS h; obtain ⟨t1, A1, h⟩ := h
   cases t1 with
   | false =>
    rw [if_neg (by decide)] at h
    simp only [Option.some.injEq, Prod.mk.injEq] at h
    obtain ⟨rfl, rfl, rfl, rfl⟩ := h
    go_enter Try.func119, Try.ntmps119
    go_wp2_with (first | ((with_reducible refine gate_dst (N := 3) rfl ?_); refine boxev 3 #[.int .i64 a, .int .i64 b, .int .i64 c] 158 ?_; intro gs hg_ w4 hbox hb; clear hg_; have BS := ak hbox; replace BI := ak (BI.out.step hb); have hs0 := bs_0 BS.out; have hs1 := bs_1 BS.out; have hs2 := bs_2 BS.out; have hx0 := BI.out.c0; have hx1 := BI.out.c1; have hx2 := BI.out.c2; have hx3 := BI.out.c3; have hx4 := BI.out.c4; have hf1 := blk_frozen BI.out.blk 1; have hf4 := blk_frozen BI.out.blk 4; clear hb hbox))
    go_quiet (first | (go_at_call 190; (with_reducible refine (impl_isListNumber.calls c _ _ A1.out).mono ?_); rintro e w' ⟨rfl, ⟨nd, rfl⟩⟩; (try first | exact ⟨rfl, _, World.drewN_drewN _ _ _⟩ | exact ⟨rfl, _, Eq.trans (World.drewN_drewN _ _ _) (congrArg (World.drewN _) (Nat.add_assoc _ _ _))⟩)))
    go_wp2
    go_ret
    exact ⟨_, _, er, BI.out.drewN _⟩
   | true =>
    rw [if_pos rfl] at h
    replace h := bS h; obtain ⟨t2, A2, h⟩ := h
    cases t2 with
    | true =>
     rw [if_pos rfl] at h
     simp only [Option.some.injEq, Prod.mk.injEq] at h
     obtain ⟨rfl, rfl, rfl, rfl⟩ := h
     go_enter Try.func119, Try.ntmps119
     go_wp2_with (first | ((with_reducible refine gate_dst (N := 3) rfl ?_); refine boxev 3 #[.int .i64 a, .int .i64 b, .int .i64 c] 158 ?_; intro gs hg_ w4 hbox hb; clear hg_; have BS := ak hbox; replace BI := ak (BI.out.step hb); have hs0 := bs_0 BS.out; have hs1 := bs_1 BS.out; have hs2 := bs_2 BS.out; have hx0 := BI.out.c0; have hx1 := BI.out.c1; have hx2 := BI.out.c2; have hx3 := BI.out.c3; have hx4 := BI.out.c4; have hf1 := blk_frozen BI.out.blk 1; have hf4 := blk_frozen BI.out.blk 4; clear hb hbox))
     go_quiet (first | (go_at_call 190; (with_reducible refine (impl_isListNumber.calls c _ _ A1.out).mono ?_); rintro e w' ⟨rfl, ⟨nd, rfl⟩⟩; (try first | exact ⟨rfl, _, World.drewN_drewN _ _ _⟩ | exact ⟨rfl, _, Eq.trans (World.drewN_drewN _ _ _) (congrArg (World.drewN _) (Nat.add_assoc _ _ _))⟩)) | (go_at_call 103; (with_reducible refine (slices_Contains_int_int.calls k _ _ l4 c _ _ ?side1 ?side2 A2.out).mono ?_); (case side1 => exact cd (Kd.R_reads' BI.out.r4).2.2); (case side2 => exact (Kd.R_reads' BI.out.r4).2.1); rintro e w' ⟨rfl, ⟨nd, rfl⟩⟩; (try first | exact ⟨rfl, _, World.drewN_drewN _ _ _⟩ | exact ⟨rfl, _, Eq.trans (World.drewN_drewN _ _ _) (congrArg (World.drewN _) (Nat.add_assoc _ _ _))⟩)))
     go_wp2
     go_ret
     exact ⟨_, _, er, BI.out.drewN _⟩
    | false =>
     rw [if_neg (by decide)] at h
     replace h := bS h; obtain ⟨y, A3, h⟩ := h
     simp only [Option.some.injEq, Prod.mk.injEq] at h
     obtain ⟨rfl, rfl, rfl, rfl⟩ := h
     go_enter Try.func119, Try.ntmps119
     go_wp2_with (first | ((with_reducible refine gate_dst (N := 3) rfl ?_); refine boxev 3 #[.int .i64 a, .int .i64 b, .int .i64 c] 158 ?_; intro gs hg_ w4 hbox hb; clear hg_; have BS := ak hbox; replace BI := ak (BI.out.step hb); have hs0 := bs_0 BS.out; have hs1 := bs_1 BS.out; have hs2 := bs_2 BS.out; have hx0 := BI.out.c0; have hx1 := BI.out.c1; have hx2 := BI.out.c2; have hx3 := BI.out.c3; have hx4 := BI.out.c4; have hf1 := blk_frozen BI.out.blk 1; have hf4 := blk_frozen BI.out.blk 4; clear hb hbox))
     go_quiet (first | (go_at_call 190; (with_reducible refine (impl_isListNumber.calls c _ _ A1.out).mono ?_); rintro e w' ⟨rfl, ⟨nd, rfl⟩⟩; (try first | exact ⟨rfl, _, World.drewN_drewN _ _ _⟩ | exact ⟨rfl, _, Eq.trans (World.drewN_drewN _ _ _) (congrArg (World.drewN _) (Nat.add_assoc _ _ _))⟩)) | (go_at_call 103; (with_reducible refine (slices_Contains_int_int.calls k _ _ l4 c _ _ ?side1 ?side2 A2.out).mono ?_); (case side1 => exact cd (Kd.R_reads' BI.out.r4).2.2); (case side2 => exact (Kd.R_reads' BI.out.r4).2.1); rintro e w' ⟨rfl, ⟨nd, rfl⟩⟩; (try first | exact ⟨rfl, _, World.drewN_drewN _ _ _⟩ | exact ⟨rfl, _, Eq.trans (World.drewN_drewN _ _ _) (congrArg (World.drewN _) (Nat.add_assoc _ _ _))⟩)))
     go_wp2
     replace BI := ak (BI.out.drewN nq); replace BS := ak (blk_drewN BS.out nq)
     clear hs0 hs1 hs2 hx0 hx1 hx2 hx3 hx4 hf1 hf4
     replace BI := ak (BI.out.step (below_drew (Below.refl _ _)))
     replace BS := ak (blk_drew BS.out)
     refine start_ (n := 11) (S := fun w' => w'.cell? ⟨gs, 0, none⟩ = some (.int .i64 a) ∧ w'.cell? ⟨gs, 1, none⟩ = some (.int .i64 b) ∧ w'.cell? ⟨gs, 2, none⟩ = some (.int .i64 c) ∧ w'.cell? ⟨g, 0, none⟩ = some (.int .i64 f0) ∧ w'.cell? ⟨g, 1, none⟩ = some (.int .i64 f1) ∧ w'.cell? ⟨g, 2, none⟩ = some (.slice X2 l2.length Y2) ∧ w'.cell? ⟨g, 3, none⟩ = some (.slice X3 l3.length Y3) ∧ w'.cell? ⟨g, 4, none⟩ = some (.slice X4 l4.length Y4)) (ds := [10]) (bl 11 0) (by kernel_rfl) rfl rfl ⟨bs_0 BS.out, bs_1 BS.out, bs_2 BS.out, BI.out.c0, BI.out.c1, BI.out.c2, BI.out.c3, BI.out.c4⟩ (fun hHeld => ?_); refine with_tabW bd_step.tab5 bd_step.bits5 (fun HT_ HW_ => ?_)
     generalize World.drew _ = w10 at BI BS hHeld ⊢
     refine pureA 0 (some 27) 11 1 HT_ ?_
     refine pureA 1 (some 28) 11 3 HT_ ?_
     refine pureA 2 (some 29) 11 7 HT_ ?_
     refine pureA 3 (some 30) 11 15 HT_ ?_
     refine takeA 4 (some 31) 11 31 HT_ HW_ hHeld ?_ (hy := by rintro w' ⟨s0, s1, s2, s3, s4, s5, s6, s7⟩; go_simp; with_reducible rfl)
     refine pureA 5 (some 32) 11 63 HT_ ?_
     refine takeA 6 (some 33) 11 127 HT_ HW_ hHeld ?_ (hy := by rintro w' ⟨s0, s1, s2, s3, s4, s5, s6, s7⟩; go_simp; with_reducible rfl)
     refine oneA 7 (some 34) 11 255 HT_ (fun K hK => ?_)
     refine goes_ Try.func105 (by kernel_rfl) rfl #[.slice X4 l4.length Y4, .int .i64 c] (by rfl) rfl rfl (by (try simp only [List.map_toArray, List.map_cons, List.map_nil]); first | done | rfl) ?_
     with_reducible refine (impl_placed_int.calls k _ _ l4 c y _ ?side1 ?side2 A3.out).mono ?_
     (case side1 => exact cd (Kd.R_reads' BI.out.r4).2.2)
     (case side2 => exact (Kd.R_reads' BI.out.r4).2.1)
     rintro e w11 ⟨vP, rfl, ho, hb⟩
     refine ⟨_, rfl, ?_⟩
     have HP := ak ho
     have HQ := ak hb
     have BJ := ak (BI.out.step hb)
     replace BS := ak (blk_below BS.out hb)
     clear ho hb
     obtain ⟨X5, Y5, e5⟩ := Kd.R_slice HP.out
     subst e5
     refine hK.out _ _ ⟨bs_0 BS.out, bs_1 BS.out, bs_2 BS.out, BJ.out.c0, BJ.out.c1, BJ.out.c2, BJ.out.c3, BJ.out.c4⟩ (fun hHeld => ?_)
     clear hK K
     refine norm_ (a' := ?_) ?_ ?_
     rotate_left
     ·show Act.put _ (some 34) _ = _
      simp only [Act.put, List.setIfInBounds_toArray, List.set_cons_zero, List.set_cons_succ, i64_w, i32_w]
      rfl
     refine pureA 8 (some 35) 11 511 HT_ ?_
     refine pureA 9 (some 36) 11 1023 HT_ ?_
     refine last_ (i := 10) (N := none) (bl 11 2047) rfl rfl (one_of HT_.out (by kernel_rfl)) (by decide) (fun K hK => ?_)
     have hs_ : w11.cell? ⟨g, 4, none⟩ = some (.slice X4 l4.length Y4) := BJ.out.c4
     have hfs_ := blk_frozen BJ.out.blk 4
     refine skip_ (w1 := ?_) (by rfl) rfl ?_ ?_
     rotate_left
     ·go_simp
      rfl
     refine hK.out _ _ ?_
     clear hK K
     refine done_ (done_of HT_.out (by kernel_rfl)) ?_
     go_wp2
     go_ret
     exact ⟨_, _, er, BI.out.row4 HP.out HQ.out⟩
  ·rw [if_neg cb] at h
   have cbb0 : decide (b = 0) = false := decide_eq_false cb
   have cbb1 : (b == 0) = false := beq_eq_false_iff_ne.mpr cb
   have cbb2 : (b != 0) = true := bne_iff_ne.mpr cb
   clear cb
   simp only [Option.some.injEq, Prod.mk.injEq] at h
   obtain ⟨rfl, rfl, rfl, rfl⟩ := h
   go_enter Try.func119, Try.ntmps119
   go_wp2_with (first | ((with_reducible refine gate_dst (N := 3) rfl ?_); refine boxev 3 #[.int .i64 a, .int .i64 b, .int .i64 c] 158 ?_; intro gs hg_ w4 hbox hb; clear hg_; have BS := ak hbox; replace BI := ak (BI.out.step hb); have hs0 := bs_0 BS.out; have hs1 := bs_1 BS.out; have hs2 := bs_2 BS.out; have hx0 := BI.out.c0; have hx1 := BI.out.c1; have hx2 := BI.out.c2; have hx3 := BI.out.c3; have hx4 := BI.out.c4; have hf1 := blk_frozen BI.out.blk 1; have hf4 := blk_frozen BI.out.blk 4; clear hb hbox))
   go_quiet (first | (go_at_call 190; (with_reducible refine (impl_isListNumber.calls c _ _ A1.out).mono ?_); rintro e w' ⟨rfl, ⟨nd, rfl⟩⟩; (try first | exact ⟨rfl, _, World.drewN_drewN _ _ _⟩ | exact ⟨rfl, _, Eq.trans (World.drewN_drewN _ _ _) (congrArg (World.drewN _) (Nat.add_assoc _ _ _))⟩)))
   go_wp2
   go_ret
   exact ⟨_, _, er, BI.out.drewN _⟩
 ·rw [if_neg ca] at h
  have cab0 : decide (a = 1) = false := decide_eq_false ca
  have cab1 : (a == 1) = false := beq_eq_false_iff_ne.mpr ca
  have cab2 : (a != 1) = true := bne_iff_ne.mpr ca
  clear ca
  by_cases cd2 : a = 2
  ·rw [if_pos cd2] at h
   have cd2b0 : decide (a = 2) = true := decide_eq_true cd2
   have cd2b1 : (a == 2) = true := beq_iff_eq.mpr cd2
   have cd2b2 : (a != 2) = false := bne_eq_false_iff_eq.mpr cd2
   clear cd2
   replace h := bS h; obtain ⟨⟨q1, q2⟩, A1, h⟩ := h
   simp only [Option.some.injEq, Prod.mk.injEq] at h
   obtain ⟨rfl, rfl, rfl, rfl⟩ := h
   go_enter Try.func119, Try.ntmps119
   go_wp2_with (first | ((with_reducible refine gate_dst (N := 3) rfl ?_); refine boxev 3 #[.int .i64 a, .int .i64 b, .int .i64 c] 158 ?_; intro gs hg_ w4 hbox hb; clear hg_; have BS := ak hbox; replace BI := ak (BI.out.step hb); have hs0 := bs_0 BS.out; have hs1 := bs_1 BS.out; have hs2 := bs_2 BS.out; have hx0 := BI.out.c0; have hx1 := BI.out.c1; have hx2 := BI.out.c2; have hx3 := BI.out.c3; have hx4 := BI.out.c4; have hf1 := blk_frozen BI.out.blk 1; have hf4 := blk_frozen BI.out.blk 4; clear hb hbox))
   refine (bd_sign.calls k g f0 f1 _ _ _ l2 l3 l4 b c _ _ w0 _ (BI.out.rebase _) A1.out).mono ?_
   rintro e w5 ⟨u2, rfl, BJ⟩
   replace BI := ak (BdIn.after BI.out.keep BJ)
   clear BJ hs0 hs1 hs2 hx0 hx1 hx2 hx3 hx4 hf1 hf4
   go_wp2
   go_ret
   exact ⟨_, _, er, BI.out⟩
  ·rw [if_neg cd2] at h
   have cd2b0 : decide (a = 2) = false := decide_eq_false cd2
   have cd2b1 : (a == 2) = false := beq_eq_false_iff_ne.mpr cd2
   have cd2b2 : (a != 2) = true := bne_iff_ne.mpr cd2
   clear cd2
   by_cases ce : a = 3
   ·rw [if_pos ce] at h
    have ceb0 : decide (a = 3) = true := decide_eq_true ce
    have ceb1 : (a == 3) = true := beq_iff_eq.mpr ce
    have ceb2 : (a != 3) = false := bne_eq_false_iff_eq.mpr ce
    clear ce
    by_cases cb : b = 0
    ·rw [if_pos cb] at h
     have cbb0 : decide (b = 0) = true := decide_eq_true cb
     have cbb1 : (b == 0) = true := beq_iff_eq.mpr cb
     have cbb2 : (b != 0) = false := bne_eq_false_iff_eq.mpr cb
     clear cb
     by_cases cc : c = 0
     ·rw [if_pos cc] at h
      have ccb0 : decide (c = 0) = true := decide_eq_true cc
      have ccb1 : (c == 0) = true := beq_iff_eq.mpr cc
      have ccb2 : (c != 0) = false := bne_eq_false_iff_eq.mpr cc
      clear cc
      by_cases cf : f1 = 20
      ·rw [if_pos cf] at h
       have cfb0 : decide (f1 = 20) = true := decide_eq_true cf
       have cfb1 : (f1 == 20) = true := beq_iff_eq.mpr cf
       have cfb2 : (f1 != 20) = false := bne_eq_false_iff_eq.mpr cf
       clear cf
       simp only [Option.some.injEq, Prod.mk.injEq] at h
       obtain ⟨rfl, rfl, rfl, rfl⟩ := h
       go_enter Try.func119, Try.ntmps119
       go_wp2_with (first | ((with_reducible refine gate_dst (N := 3) rfl ?_); refine boxev 3 #[.int .i64 a, .int .i64 b, .int .i64 c] 158 ?_; intro gs hg_ w4 hbox hb; clear hg_; have BS := ak hbox; replace BI := ak (BI.out.step hb); have hs0 := bs_0 BS.out; have hs1 := bs_1 BS.out; have hs2 := bs_2 BS.out; have hx0 := BI.out.c0; have hx1 := BI.out.c1; have hx2 := BI.out.c2; have hx3 := BI.out.c3; have hx4 := BI.out.c4; have hf1 := blk_frozen BI.out.blk 1; have hf4 := blk_frozen BI.out.blk 4; clear hb hbox))
       go_ret
       exact ⟨_, _, er, BI.out⟩
      ·rw [if_neg cf] at h
       have cfb0 : decide (f1 = 20) = false := decide_eq_false cf
       have cfb1 : (f1 == 20) = false := beq_eq_false_iff_ne.mpr cf
       have cfb2 : (f1 != 20) = true := bne_iff_ne.mpr cf
       clear cf
       simp only [Option.some.injEq, Prod.mk.injEq] at h
       obtain ⟨rfl, rfl, rfl, rfl⟩ := h
       go_enter Try.func119, Try.ntmps119
       go_wp2_with (first | ((with_reducible refine gate_dst (N := 3) rfl ?_); refine boxev 3 #[.int .i64 a, .int .i64 b, .int .i64 c] 158 ?_; intro gs hg_ w4 hbox hb; clear hg_; have BS := ak hbox; replace BI := ak (BI.out.step hb); have hs0 := bs_0 BS.out; have hs1 := bs_1 BS.out; have hs2 := bs_2 BS.out; have hx0 := BI.out.c0; have hx1 := BI.out.c1; have hx2 := BI.out.c2; have hx3 := BI.out.c3; have hx4 := BI.out.c4; have hf1 := blk_frozen BI.out.blk 1; have hf4 := blk_frozen BI.out.blk 4; clear hb hbox))
       go_ret
       exact ⟨_, _, er, (BI.out.set1 _).none4⟩
     ·rw [if_neg cc] at h
      have ccb0 : decide (c = 0) = false := decide_eq_false cc
      have ccb1 : (c == 0) = false := beq_eq_false_iff_ne.mpr cc
      have ccb2 : (c != 0) = true := bne_iff_ne.mpr cc
      clear cc
      simp only [Option.some.injEq, Prod.mk.injEq] at h
      obtain ⟨rfl, rfl, rfl, rfl⟩ := h
      go_enter Try.func119, Try.ntmps119
      go_wp2_with (first | ((with_reducible refine gate_dst (N := 3) rfl ?_); refine boxev 3 #[.int .i64 a, .int .i64 b, .int .i64 c] 158 ?_; intro gs hg_ w4 hbox hb; clear hg_; have BS := ak hbox; replace BI := ak (BI.out.step hb); have hs0 := bs_0 BS.out; have hs1 := bs_1 BS.out; have hs2 := bs_2 BS.out; have hx0 := BI.out.c0; have hx1 := BI.out.c1; have hx2 := BI.out.c2; have hx3 := BI.out.c3; have hx4 := BI.out.c4; have hf1 := blk_frozen BI.out.blk 1; have hf4 := blk_frozen BI.out.blk 4; clear hb hbox))
      go_ret
      exact ⟨_, _, er, BI.out⟩
    ·rw [if_neg cb] at h
     have cbb0 : decide (b = 0) = false := decide_eq_false cb
     have cbb1 : (b == 0) = false := beq_eq_false_iff_ne.mpr cb
     have cbb2 : (b != 0) = true := bne_iff_ne.mpr cb
     clear cb
     simp only [Option.some.injEq, Prod.mk.injEq] at h
     obtain ⟨rfl, rfl, rfl, rfl⟩ := h
     go_enter Try.func119, Try.ntmps119
     go_wp2_with (first | ((with_reducible refine gate_dst (N := 3) rfl ?_); refine boxev 3 #[.int .i64 a, .int .i64 b, .int .i64 c] 158 ?_; intro gs hg_ w4 hbox hb; clear hg_; have BS := ak hbox; replace BI := ak (BI.out.step hb); have hs0 := bs_0 BS.out; have hs1 := bs_1 BS.out; have hs2 := bs_2 BS.out; have hx0 := BI.out.c0; have hx1 := BI.out.c1; have hx2 := BI.out.c2; have hx3 := BI.out.c3; have hx4 := BI.out.c4; have hf1 := blk_frozen BI.out.blk 1; have hf4 := blk_frozen BI.out.blk 4; clear hb hbox))
     go_ret
     exact ⟨_, _, er, BI.out⟩
   ·rw [if_neg ce] at h
    have ceb0 : decide (a = 3) = false := decide_eq_false ce
    have ceb1 : (a == 3) = false := beq_eq_false_iff_ne.mpr ce
    have ceb2 : (a != 3) = true := bne_iff_ne.mpr ce
    clear ce
    simp only [Option.some.injEq, Prod.mk.injEq] at h
    obtain ⟨rfl, rfl, rfl, rfl⟩ := h
    go_enter Try.func119, Try.ntmps119
    go_wp2_with (first | ((with_reducible refine gate_dst (N := 3) rfl ?_); refine boxev 3 #[.int .i64 a, .int .i64 b, .int .i64 c] 158 ?_; intro gs hg_ w4 hbox hb; clear hg_; have BS := ak hbox; replace BI := ak (BI.out.step hb); have hs0 := bs_0 BS.out; have hs1 := bs_1 BS.out; have hs2 := bs_2 BS.out; have hx0 := BI.out.c0; have hx1 := BI.out.c1; have hx2 := BI.out.c2; have hx3 := BI.out.c3; have hx4 := BI.out.c4; have hf1 := blk_frozen BI.out.blk 1; have hf4 := blk_frozen BI.out.blk 4; clear hb hbox))
    go_ret
    exact ⟨_, _, er, BI.out⟩
/-! ### impl.PlayBoard (28) -/
abbrev st5 (W : World) (g : Nat) (a0 a1 a2 a3 a4 : Value) : World := ((((W.setCell ⟨g, 0, none⟩ a0).setCell ⟨g, 1, none⟩ a1).setCell ⟨g, 2, none⟩ a2).setCell ⟨g, 3, none⟩ a3).setCell ⟨g, 4, none⟩ a4
theorem st5_blk {W : World} {g : Nat} {t : TypeId} {z0 z1 z2 z3 z4 : Value} (h : W.heap[g]? = some (.cells #[z0, z1, z2, z3, z4] t (0, 0))) (a0 a1 a2 a3 a4 : Value) : (st5 W g a0 a1 a2 a3 a4).heap[g]? = some (.cells #[a0, a1, a2, a3, a4] t (0, 0)) :=
  blk_put (blk_put (blk_put (blk_put (blk_put h 0 a0 rfl) 1 a1 rfl) 2 a2 rfl) 3 a3 rfl) 4 a4 rfl
theorem st5_far (W : World) (g : Nat) (a0 a1 a2 a3 a4 : Value) (k : Nat) (hk : k ≠ g) : (st5 W g a0 a1 a2 a3 a4).heap[k]? = W.heap[k]? :=
  (Below.heap_setCell _ ⟨g, 4, none⟩ _ k hk).trans ((Below.heap_setCell _ ⟨g, 3, none⟩ _ k hk).trans ((Below.heap_setCell _ ⟨g, 2, none⟩ _ k hk).trans ((Below.heap_setCell _ ⟨g, 1, none⟩ _ k hk).trans (Below.heap_setCell _ ⟨g, 0, none⟩ _ k hk))))
theorem st5_below {w W : World} {g : Nat} (h : Below w.heap.size w W) (hg : w.heap.size ≤ g) (a0 a1 a2 a3 a4 : Value) : Below w.heap.size w (st5 W g a0 a1 a2 a3 a4) := below_set (below_set (below_set (below_set (below_set h hg) hg) hg) hg) hg
theorem st5_in {w0 W : World} {g : Nat} {z0 z1 z2 z3 z4 : Value} (h : W.heap[g]? = some (.cells #[z0, z1, z2, z3, z4] 47 (0, 0))) (hg : w0.heap.size ≤ g) {f0 f1 : Int} {v2 v3 v4 : Value} {l2 : List (List Int)} {l3 l4 : List Int}
    (s2 : Kd.S (Kd.slice 3 (Kd.int .i64)) 23 W w0.heap.size (fun k_ => some k_ ≠ v3.ownBlock ∧ some k_ ≠ v4.ownBlock) v2 l2) (r3 : Kd.R (Kd.int .i64) 3 W w0.heap.size (fun k_ => some k_ ≠ v4.ownBlock) v3 l3) (r4 : Kd.R (Kd.int .i64) 3 W w0.heap.size (fun k_ => some k_ ≠ v3.ownBlock) v4 l4) (below : Below w0.heap.size w0 W) (row : Option Nat) :
    BdIn w0 (st5 W g (.int .i64 f0) (.int .i64 f1) v2 v3 v4) g row f0 f1 v2 v3 v4 l2 l3 l4 (st5 W g (.int .i64 f0) (.int .i64 f1) v2 v3 v4) :=
  ⟨st5_blk h _ _ _ _ _, hg, Kd.S_mono (Kd.S_step (Kd.S_types s2 h (by decide)) (fun k hk _ => st5_far W g _ _ _ _ _ k hk.2)) (fun _ hk => hk.1), Kd.R_mono (Kd.R_step (Kd.R_types r3 h (by decide)) (fun k hk _ => st5_far W g _ _ _ _ _ k hk.2)) (fun _ hk => hk.1), Kd.R_mono (Kd.R_step (Kd.R_types r4 h (by decide)) (fun k hk _ => st5_far W g _ _ _ _ _ k hk.2)) (fun _ hk => hk.1), st5_below below hg _ _ _ _ _, KeepBut.refl _ _ _⟩
theorem BdIn.far {w0 w : World} {g : Nat} {row : Option Nat} {f0 f1 : Int} {v2 v3 v4 : Value} {l2 : List (List Int)} {l3 l4 : List Int} {W : World} (h : BdIn w0 w g row f0 f1 v2 v3 v4 l2 l3 l4 W) {gs : Nat} {cs : Array Value} (hb : W.heap[gs]? = some (.cells cs 158 (0, 0))) (hge : w0.heap.size ≤ gs) (i : Nat) (u : Value) : BdIn w0 (W.setCell ⟨gs, i, none⟩ u) g row f0 f1 v2 v3 v4 l2 l3 l4 (W.setCell ⟨gs, i, none⟩ u) := by
 have hne : g ≠ gs := by
  rintro rfl
  have := h.blk.symm.trans hb
  injection this with this
  injection this with _ this
  exact absurd this (by decide)
 exact ⟨blk_far h.blk hne u, h.ge, Kd.S_mono (Kd.S_far (p := ⟨gs, i, none⟩) (Kd.S_types h.s2 hb (by decide)) (fun _ hk => hk.2) u) (fun _ hk => hk.1), Kd.R_mono (Kd.R_far (p := ⟨gs, i, none⟩) (Kd.R_types h.r3 hb (by decide)) (fun _ hk => hk.2) u) (fun _ hk => hk.1), Kd.R_mono (Kd.R_far (p := ⟨gs, i, none⟩) (Kd.R_types h.r4 hb (by decide)) (fun _ hk => hk.2) u) (fun _ hk => hk.1), below_set h.below hge, KeepBut.refl _ _ _⟩
theorem bd_info4 : (Try.prog.info? 4).map (fun i => (i.zero, i.size, i.bytes)) = some (some (.bool false), 1, 1) := by kernel_rfl
def impl_PlayBoard.l0 : Nat → List S158 → Int → Int → List Bool → Int → Int → List (List Int) → List Int → List Int → Option (Int × List (List Int) × List Int × List Bool)
  | 0, _, _, _, _, _, _, _, _, _ => none
  | k + 1, xs, n, i, did, f0, f1, l2, l3, l4 => if i < n then (if 0 ≤ i then (if i < (xs.length : Int) then ((bd_step.f k f0 f1 l2 l3 l4 (rd_T158 xs i).f0 (rd_T158 xs i).f1 (rd_T158 xs i).f2).bind fun q => if did.length < 1000 then impl_PlayBoard.l0 k xs n (wrap64 (i + 1)) (did ++ [q.2.2.2]) f0 q.1 q.2.1 l3 q.2.2.1 else none) else none) else none) else some (f1, l2, l4, did)
def impl_PlayBoard.f (k : Nat) (a0 : Int) (l1 : List Int) (l2 : List S158) : Option (Int × Int × List (List Int) × List Int × List Int × List Bool × Bool) :=
  (impl_NewBoard.f k a0 l1).bind fun q => if q.2.2.2.2.2 = true then (if (l2.length : Int) > 60 then some (0, 0, [], [], [], [], false) else ((impl_PlayBoard.l0 k l2 (l2.length : Int) 0 [] q.1 q.2.1 q.2.2.1 q.2.2.2.1 q.2.2.2.2.1).bind fun z => some (q.1, z.1, z.2.1, q.2.2.2.1, z.2.2.1, z.2.2.2, true))) else some (0, 0, [], [], [], [], false)
theorem impl_PlayBoard.mono_l : ∀ k, ∀ y0 y1 y2 y3 y4 y5 y6 y7 y8, LeO (impl_PlayBoard.l0 k y0 y1 y2 y3 y4 y5 y6 y7 y8) (impl_PlayBoard.l0 (k + 1) y0 y1 y2 y3 y4 y5 y6 y7 y8)
 | 0 => fun _ _ _ _ _ _ _ _ _ r h => by simp [impl_PlayBoard.l0] at h
 | k + 1 => by
  have ih0 := impl_PlayBoard.mono_l k
  intro y0 y1 y2 y3 y4 y5 y6 y7 y8
  unfold impl_PlayBoard.l0
  repeat' (first | exact ih0 _ _ _ _ _ _ _ _ _ | exact bd_step.mono _ _ _ _ _ _ _ _ _ | exact LeO.refl _ | refine LeO.ite ?_ ?_ | refine LeO.bind ?_ (fun _ => ?_))
theorem impl_PlayBoard.mono : ∀ a0 a1 a2 k, LeO (impl_PlayBoard.f k a0 a1 a2) (impl_PlayBoard.f (k + 1) a0 a1 a2) := by
 intro a0 a1 a2 k
 unfold impl_PlayBoard.f
 repeat' (first | exact impl_NewBoard.mono _ _ _ | exact impl_PlayBoard.mono_l _ _ _ _ _ _ _ _ _ _ | exact LeO.refl _ | refine LeO.ite ?_ ?_ | refine LeO.bind ?_ (fun _ => ?_))
set_option maxHeartbeats 8000000 in
set_option maxRecDepth 100000 in
theorem impl_PlayBoard.calls (k : Nat) (a0 : Int) (A1 : Option Addr) (c1 : Nat) (l1 : List Int) (A2 : Option Addr) (c2 : Nat) (l2 : List S158) (r1 r2 : Int) (r3 : List (List Int)) (r4 r5 : List Int) (r6 : List Bool) (r7 : Bool) (w : World) (hr1 : Kd.C (Kd.int .i64) w A1 l1.length l1) (hc1 : l1.length ≤ c1) (hr2 : Kd.C k158 w A2 l2.length l2) (hc2 : l2.length ≤ c2) (h : impl_PlayBoard.f k a0 l1 l2 = some (r1, r2, r3, r4, r5, r6, r7)) :
  Calls Try.prog 28 #[.int .i64 a0, .slice A1 l1.length c1, .slice A2 l2.length c2] w fun e w' => ∃ v2_ v3_ v4_ v5_ : Value, e = .returned (.tuple #[.agg #[.int .i64 r1, .int .i64 r2, v2_, v3_, v4_], v5_, .bool r7]) ∧ Kd.S (Kd.slice 3 (Kd.int .i64)) 23 w' w.heap.size (fun k_ => some k_ ≠ (v3_ : Value).ownBlock ∧ some k_ ≠ (v4_ : Value).ownBlock) v2_ r3 ∧ Kd.R (Kd.int .i64) 3 w' w.heap.size (fun k_ => some k_ ≠ (v4_ : Value).ownBlock) v3_ r4 ∧ Kd.R (Kd.int .i64) 3 w' w.heap.size (fun k_ => some k_ ≠ (v3_ : Value).ownBlock) v4_ r5 ∧ Kd.R Kd.bool 4 w' w.heap.size (fun _ => True) v5_ r6 ∧ Below w.heap.size w w' := by
 have HR1 := Aside0.mk hr1; have HC1 := Aside0.mk hc1; have HR2 := Aside0.mk hr2; have HC2 := Aside0.mk hc2; clear hr1 hc1 hr2 hc2
 have HB := Aside0.mk (Below.refl w.heap.size w)
 have hu47 := Try.underlying47
 have hu158 := Try.underlying158
 unfold impl_PlayBoard.f at h
 replace h := bS h; obtain ⟨⟨b1, b2, b3, b4, b5, b6⟩, N1, h⟩ := h
 dsimp only at h
 go_enter Try.func28, Try.ntmps28
 go_upto_region 2 with (first | ((with_reducible refine gate_dst (N := 6) rfl ?_); refine boxev 6 #[.int .i64 0, .int .i64 0, .slice none 0 0, .slice none 0 0, .slice none 0 0] 47 ?_; intro gr hg_ w4 hbox hb; have BR := ak hbox; have GR := ak (hgl hg_ (belowd HB)); replace HB := ak (below_step HB.out hb); clear hb hbox hg_) | (go_at_call 118; go_loud ((with_reducible refine (impl_NewBoard.calls k a0 _ _ l1 b1 b2 b3 b4 b5 _ _ ?side1 ?side2 N1.out).mono ?_); (case side1 => exact cd (Kd.C_below HR1.out HB.out)); (case side2 => exact HC1.out); rintro e w5 ⟨u2, u3, u4, rfl, hs2, hs3, hs4, hb⟩; have HS2 := ak (Kd.S_lower hs2 HB.out.size); have HS3 := ak (Kd.R_lower hs3 HB.out.size); have HS4 := ak (Kd.R_lower hs4 HB.out.size); replace BR := ak (blk_below BR.out hb); replace HB := ak (below_step HB.out hb); clear hs2 hs3 hs4 hb; obtain ⟨X2, Y2, e2⟩ := Kd.S_slice HS2.out; subst e2; obtain ⟨X3, Y3, e3⟩ := Kd.R_slice HS3.out; subst e3; obtain ⟨X4, Y4, e4⟩ := Kd.R_slice HS4.out; subst e4)) | ((with_reducible refine gate_dst (N := 9) rfl ?_); refine boxev 9 #[.int .i64 0, .int .i64 0, .slice none 0 0, .slice none 0 0, .slice none 0 0] 47 ?_; intro gb hg_ w6 hbox hb; have NB1 : gr ≠ gb := (by rw [hg_]; exact Nat.ne_of_lt (blk_lt BR.out)); have NB2 : gb ≠ gr := Ne.symm NB1; have BB := ak hbox; have GB := ak (hgl hg_ HB.out); replace HS2 := ak (Kd.S_below HS2.out hb); replace HS3 := ak (Kd.R_below HS3.out hb); replace HS4 := ak (Kd.R_below HS4.out hb); replace BR := ak (blk_below BR.out hb); replace HB := ak (below_step HB.out hb); obtain ⟨hz0, hz1, hz2, hz3, hz4, hq0, hq1, hq2, hq3, hq4⟩ := box5 BB; clear hb hbox hg_))
 have BI := ak (st5_in (f0 := b1) (f1 := b2) BB.out GB.out HS2.out HS3.out HS4.out HB.out (Value.slice X2 b3.length Y2).ownBlock)
 have BR2 := ak ((st5_far w6 gb (.int .i64 b1) (.int .i64 b2) (.slice X2 b3.length Y2) (.slice X3 b4.length Y3) (.slice X4 b5.length Y4) gr NB1).trans BR.out)
 clear hz0 hz1 hz2 hz3 hz4 hq0 hq1 hq2 hq3 hq4 HS2 HS3 HS4 BR HB BB
 dsimp only [st5] at BI BR2
 generalize ((((w6.setCell ⟨gb, 0, none⟩ (.int .i64 b1)).setCell ⟨gb, 1, none⟩ (.int .i64 b2)).setCell ⟨gb, 2, none⟩ (.slice X2 b3.length Y2)).setCell ⟨gb, 3, none⟩ (.slice X3 b4.length Y3)).setCell ⟨gb, 4, none⟩ (.slice X4 b5.length Y4) = w7 at BI BR2 ⊢
 cases b6 with
 | false =>
  rw [if_neg (by decide)] at h
  simp only [Option.some.injEq, Prod.mk.injEq] at h
  obtain ⟨rfl, rfl, rfl, rfl, rfl, rfl, rfl⟩ := h
  obtain ⟨hz0, hz1, hz2, hz3, hz4, hq0, hq1, hq2, hq3, hq4⟩ := box5 BR2
  go_wp2
  refine bodyPost_ret (results_ctt rfl _ _ gr 47 #[.int .i64 0, .int .i64 0, .slice none 0 0, .slice none 0 0, .slice none 0 0] (0, 0) _ rfl (st5_blk BR2.out _ _ _ _ _) Try.underlying47 rfl (by kernel_rfl)) rfl ?_
  exact ⟨_, _, _, _, by first | rfl | (simp; done) | trace_state, Kd.S_nil _ _ _ _ _, Kd.R_nil _ _ _ _ _, Kd.R_nil _ _ _ _ _, Kd.R_nil _ _ _ _ _, st5_below BI.out.below GR.out _ _ _ _ _⟩
 | true =>
  rw [if_pos rfl] at h
  by_cases c6 : (l2.length : Int) > 60
  ·rw [if_pos c6] at h
   have c6b0 : decide ((l2.length : Int) > 60) = true := decide_eq_true c6
   have c6b1 : decide (60 < (l2.length : Int)) = true := decide_eq_true c6
   clear c6
   simp only [Option.some.injEq, Prod.mk.injEq] at h
   obtain ⟨rfl, rfl, rfl, rfl, rfl, rfl, rfl⟩ := h
   obtain ⟨hz0, hz1, hz2, hz3, hz4, hq0, hq1, hq2, hq3, hq4⟩ := box5 BR2
   go_wp2
   refine bodyPost_ret (results_ctt rfl _ _ gr 47 #[.int .i64 0, .int .i64 0, .slice none 0 0, .slice none 0 0, .slice none 0 0] (0, 0) _ rfl (st5_blk BR2.out _ _ _ _ _) Try.underlying47 rfl (by kernel_rfl)) rfl ?_
   exact ⟨_, _, _, _, by first | rfl | (simp; done) | trace_state, Kd.S_nil _ _ _ _ _, Kd.R_nil _ _ _ _ _, Kd.R_nil _ _ _ _ _, Kd.R_nil _ _ _ _ _, st5_below BI.out.below GR.out _ _ _ _ _⟩
  ·rw [if_neg c6] at h
   have c6b0 : decide ((l2.length : Int) > 60) = false := decide_eq_false c6
   have c6b1 : decide (60 < (l2.length : Int)) = false := decide_eq_false c6
   clear c6
   replace h := bS h; obtain ⟨⟨z1, z2, z4, zd⟩, A2, h⟩ := h
   simp only [Option.some.injEq, Prod.mk.injEq] at h
   obtain ⟨rfl, rfl, rfl, rfl, rfl, rfl, rfl⟩ := h
   go_wp2_with (first | ((with_reducible refine gate_dst (N := 28) rfl ?_); refine Kd.R_lit Kd.bool _ 4 ?hg (N := 28) ?hd (xs := ([] : List Bool)) (inner := []) (ok := fun _ => True) (okp := fun _ => True) ?hr ?hp (fun _ hk => hk) trivial (Below.refl _ _) (Nat.le_refl _) (by simp) ?_; (case hd => rfl); (case hg => rfl); (case hr => first | (go_simp; done) | (go_simp; rfl)); (case hp => exact (Reps.none _ _)); intro vD w8 ho hb hg_ hnew_; clear hg_ hnew_; have HD := ak (Kd.R_lower ho BI.out.below.size); replace BI := ak (BI.out.step hb); replace BR2 := ak (blk_below BR2.out hb); clear ho hb))
   go_loopg [11, 31] k (fun kq v11 v31 w' => ∃ (did : List Bool) (x f1 : Int) (m2 : List (List Int)) (m4 : List Int) (y2 y4 : Value), v31 = .int .i64 x ∧ Aside0 (impl_PlayBoard.l0 kq l2 (l2.length : Int) x did b1 f1 m2 b4 m4 = some (z1, z2, z4, zd)) ∧ Aside0 (kq ≤ k) ∧ Aside0 (BdIn w w' gb y2.ownBlock b1 f1 y2 (.slice X3 b4.length Y3) y4 m2 b4 m4 w') ∧ Aside0 (Kd.R Kd.bool 4 w' w.heap.size (fun _ => True) v11 did) ∧ Aside0 (w'.heap[gr]? = some (.cells #[.int .i64 0, .int .i64 0, .slice none 0 0, .slice none 0 0, .slice none 0 0] 47 (0, 0))))
   case atStart => exact ⟨[], 0, b2, b3, b5, _, _, er, A2, ⟨Nat.le_refl _⟩, ak (BI.out.rebase _), HD, BR2⟩
   case round =>
    clear BI HD BR2 A2
    obtain ⟨did, x, f1, m2, m4, y2, y4, rfl, HA, HK1, BI, HD, BR2⟩ := hrel
    cases gk with
    | zero => exact absurd HA.out (by simp [impl_PlayBoard.l0])
    | succ k1 =>
     have H := HA.out; clear HA
     simp only [impl_PlayBoard.l0] at H
     obtain ⟨J2, L2, e2⟩ := Kd.S_slice BI.out.s2; subst e2
     obtain ⟨J4, L4, e4⟩ := Kd.R_slice BI.out.r4; subst e4
     obtain ⟨JD, LD, eD⟩ := Kd.R_slice HD.out; subst eD
     by_cases c3 : x < (l2.length : Int)
     ·rw [if_pos c3] at H
      have c3b0 : decide (x < (l2.length : Int)) = true := decide_eq_true c3
      clear c3; replace H := ifS H; obtain ⟨c4, H⟩ := H; have c4b0 := decide_eq_true c4; clear c4; replace H := ifS H; obtain ⟨c5, H⟩ := H; have c5b0 := decide_eq_true c5; clear c5; replace H := bS H; obtain ⟨⟨q1, q2, q4, qr⟩, A6, H⟩ := H
      replace H := ifS H; obtain ⟨cL, H⟩ := H; have CL := ak cL; clear cL
      have H' := Aside0.mk H
      clear H
      have p341 : 0 ≤ (x : Int) := da
      have q341 : x < (l2.length : Int) := da
      obtain ⟨ad, e341, hl0, hl1, hl2⟩ := at_T158 (Kd.C_below HR2.out BI.out.below) x p341 q341
      cases e341
      replace p341 := eq_true p341; replace q341 := eq_true q341
      go_upto_region 8 with (first | ((with_reducible refine gate_dst (N := 13) rfl ?_); refine boxev 13 #[.int .i64 0, .int .i64 0, .int .i64 0] 158 ?_; intro gs hg_ w10 hbox hb; have GSS := ak (hgl hg_ BI.out.below); clear hg_; have BS := ak hbox; replace BI := ak (BI.out.step hb); replace HD := ak (Kd.R_below HD.out hb); replace BR2 := ak (blk_below BR2.out hb); obtain ⟨ha0, ha1, ha2, hb0, hb1, hb2⟩ := box3 BS; clear hb hbox))
      have GS : w.heap.size ≤ gs := GSS.out
      have NR : gr ≠ gs := (by rintro rfl; have h_ := BR2.out.symm.trans BS.out; injection h_ with h_; injection h_ with _ h_; exact absurd h_ (by decide))
      have BI3 := ak (((BI.out.far BS.out GS 0 (.int .i64 (rd_T158 l2 x).f0)).far (blk_put BS.out 0 _ rfl) GS 1 (.int .i64 (rd_T158 l2 x).f1)).far (blk_put (blk_put BS.out 0 _ rfl) 1 _ rfl) GS 2 (.int .i64 (rd_T158 l2 x).f2))
      have BS3 := ak (blk_put (blk_put (blk_put BS.out 0 (.int .i64 (rd_T158 l2 x).f0) rfl) 1 (.int .i64 (rd_T158 l2 x).f1) rfl) 2 (.int .i64 (rd_T158 l2 x).f2) rfl)
      have BR3 := ak (blk_far (p := ⟨gs, 2, none⟩) (blk_far (p := ⟨gs, 1, none⟩) (blk_far (p := ⟨gs, 0, none⟩) BR2.out NR (.int .i64 (rd_T158 l2 x).f0)) NR (.int .i64 (rd_T158 l2 x).f1)) NR (.int .i64 (rd_T158 l2 x).f2))
      have HD3 := ak (Kd.R_mono (Kd.R_far (p := ⟨gs, 2, none⟩) (Kd.R_far (p := ⟨gs, 1, none⟩) (Kd.R_far (p := ⟨gs, 0, none⟩) (Kd.R_types HD.out BS.out (by decide)) (fun _ hk => hk.2) (.int .i64 (rd_T158 l2 x).f0)) (fun _ hk => hk.2) (.int .i64 (rd_T158 l2 x).f1)) (fun _ hk => hk.2) (.int .i64 (rd_T158 l2 x).f2)) (fun _ _ => trivial))
      clear ha0 ha1 ha2 hb0 hb1 hb2 BI BS BR2 HD hl0 hl1 hl2
      generalize ((w10.setCell ⟨gs, 0, none⟩ (.int .i64 (rd_T158 l2 x).f0)).setCell ⟨gs, 1, none⟩ (.int .i64 (rd_T158 l2 x).f1)).setCell ⟨gs, 2, none⟩ (.int .i64 (rd_T158 l2 x).f2) = w11 at BI3 BS3 BR3 HD3 ⊢
      obtain ⟨ha0, ha1, ha2, hb0, hb1, hb2⟩ := box3 BS3
      go_wp2_with (first | (go_at_call 119; go_loud ((with_reducible refine (bd_step.calls k1 gb b1 f1 _ _ _ m2 b4 m4 _ _ _ q1 q2 q4 qr w _ (BI3.out.rebase _) A6.out).mono ?_); rintro e w12 ⟨y5, y6, rfl, BJ⟩; have HD4 := ak (Kd.R_mono (ok' := fun _ => True) (Kd.R_step (Kd.R_apart' (Kd.R_types HD3.out BI3.out.blk (by decide)) (Kd.S_typed BI3.out.s2) (by decide)) (fun k_ hk_ hlt_ => BJ.keep.2 k_ hlt_ hk_.1.2 hk_.2)) (fun _ _ => trivial)); have BR4 := ak ((BJ.keep.2 gr (blk_lt BR3.out) NB1 (Kd.S_ne BI3.out.s2 BR3.out (by decide))).trans BR3.out); have BI4 := ak (BJ.rebase none); clear BJ HD3 BR3 BI3; obtain ⟨K2, M2, e2⟩ := Kd.S_slice BI4.out.s2; subst e2; obtain ⟨K4, M4, e4⟩ := Kd.R_slice BI4.out.r4; subst e4)) | ((with_reducible refine gate_builtin (b := .append) (xs := #[.tmp 35, .tmp 38]) rfl ?_); at_builtin; go_loud (refine Kd.R_append Kd.bool (w0 := w) w.heap.size rfl (.tmp 35) (.tmp 38) 48 4 (.bool false) 1 rfl Try.underlying48 bd_info4 rfl (by decide) (by omega) (.slice JD did.length LD) did qr [.bool qr] (fun _ => True) (fun _ => False) rfl rfl ?aP (fun _ hk => hk.elim) ?aF ?aO ?aB ?aS ?aL ?_; (case aP => exact rfl); (case aB => exact BI4.out.below); (case aF => exact (fun _ _ => trivial)); (case aO => first | exact HD4.out | exact Kd.R_mono HD4.out (fun _ _ => ⟨trivial, fun h_ => h_⟩)); (case aS => exact BI4.out.below.size); (case aL => have := CL.out; omega); intro vE w13 ho hb hg hat; clear hat; have HD5 := ak ho; have BI5 := ak (⟨blk_grown BI4.out.blk hg (Kd.R_ne HD4.out BI4.out.blk (by decide)), BI4.out.ge, Kd.S_over' BI4.out.s2 (Kd.R_typed HD4.out) (by decide) hg, Kd.R_over' BI4.out.r3 (Kd.R_typed HD4.out) (by decide) hg, Kd.R_over' BI4.out.r4 (Kd.R_typed HD4.out) (by decide) hg, hb, KeepBut.refl _ _ _⟩ : BdIn w w13 gb (Value.slice K2 q2.length M2).ownBlock b1 q1 (.slice K2 q2.length M2) (.slice X3 b4.length Y3) (.slice K4 q4.length M4) q2 b4 q4 w13); have BR5 := ak (blk_grown BR4.out hg (Kd.R_ne HD4.out BR4.out (by decide))); clear ho hb hg HD4 BI4 BR4)))
      go_roundg k1
      case measure => have := HK1.out; omega
      case rel => exact ⟨did ++ [qr], wrap64 (x + 1), q1, q2, q4, _, _, er, H', ⟨by have := HK1.out; omega⟩, ak (BI5.out.rebase _), HD5, BR5⟩
     ·rw [if_neg c3] at H
      have c3b0 : decide (x < (l2.length : Int)) = false := decide_eq_false c3
      clear c3
      simp only [Option.some.injEq, Prod.mk.injEq] at H
      obtain ⟨rfl, rfl, rfl, rfl⟩ := H
      have hx0 := BI.out.c0; have hx1 := BI.out.c1; have hx2 := BI.out.c2; have hx3 := BI.out.c3; have hx4 := BI.out.c4
      obtain ⟨hz0, hz1, hz2, hz3, hz4, hq0, hq1, hq2, hq3, hq4⟩ := box5 BR2
      go_wp2
      refine bodyPost_ret (results_ctt rfl _ _ gr 47 #[.int .i64 b1, .int .i64 f1, .slice J2 m2.length L2, .slice X3 b4.length Y3, .slice J4 m4.length L4] (0, 0) _ rfl (st5_blk BR2.out _ _ _ _ _) Try.underlying47 rfl (by kernel_rfl)) rfl ?_
      have BF := st5_in (f0 := b1) (f1 := f1) BR2.out GR.out BI.out.s2 BI.out.r3 BI.out.r4 BI.out.below none
      exact ⟨_, _, _, _, by first | rfl | (simp; done) | trace_state, BF.s2, BF.r3, BF.r4, Kd.R_mono (Kd.R_step (Kd.R_types HD.out BR2.out (by decide)) (fun k hk _ => st5_far _ gr _ _ _ _ _ k hk.2)) (fun _ _ => trivial), BF.below⟩

end Go.Proofs.Ytkgogglnipdcfaa.QFnBoard
