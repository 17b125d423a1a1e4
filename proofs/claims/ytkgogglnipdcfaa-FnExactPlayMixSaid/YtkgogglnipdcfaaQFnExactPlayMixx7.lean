-- printed by this session's own program (wip/tools/pp.py: the kit's print.py with changes); Lean checks it
import Derived.Test.YtkgogglnipdcfaaQFnExactPlayMixx0
import Derived.Test.YtkgogglnipdcfaaQFnExactPlayMixx1
import Derived.Test.YtkgogglnipdcfaaQFnExactPlayMixx2
import Derived.Test.YtkgogglnipdcfaaQFnExactPlayMixx3
import Derived.Test.YtkgogglnipdcfaaQFnExactPlayMixx6
namespace Go.Proofs.Ytkgogglnipdcfaa.QFnExactPlayMix
open Go.RowKit Go.Proofs.YtkgogglnipdcfaaW.PrintWords Go.Proofs.YtkgogglnipdcfaaW.PrintLast Go.Proofs.YtkgogglnipdcfaaW.PrintMore
attribute [local go_sem] max2_int min2_int max_two min_two max_three min_three max_four min_four strLss strGtr strLeq strGeq   -- for this text's walks alone
set_option linter.unusedVariables false
set_option linter.unusedSimpArgs false

/-! ### laws_heldStringS: function 108 -/
def laws_heldStringS.l0 : Nat → List ByteArray → Int → Int → Option (Int)
  | 0, _, _, _ => none
  | k + 1, x0, x1, x5 => if x5 < (x0.length : Int) then (if 0 ≤ x5 then ((laws_markText.f k x1).bind fun t446 => (if (rdOf ByteArray.empty x0 x5).toList = t446.toList then (laws_heldStringS.l0 k x0 (wrap64 (x1 + 1)) (wrap64 (x5 + 1))) else (some (-1)))) else (none)) else (some x1)
def laws_heldStringS.f (k : Nat) (l0 : List ByteArray) (a1 : Int) : Option (Int) := laws_heldStringS.l0 k l0 a1 0
theorem laws_heldStringS.mono_l : ∀ k, (∀ y0 y1 y2, LeO (laws_heldStringS.l0 k y0 y1 y2) (laws_heldStringS.l0 (k + 1) y0 y1 y2))
 | 0 => fun _ _ _ r h => by simp [laws_heldStringS.l0] at h
 | k + 1 => by
  have ih0 := laws_heldStringS.mono_l k
  ·intro y0 y1 y2
   unfold laws_heldStringS.l0
   repeat' (first | (with_reducible first | exact ih0 _ _ _ | exact laws_markText.mono _ _ | exact LeO.refl _ | exact LeO.none _ | refine LeO.ite ?_ ?_ | refine LeO.bind ?_ (fun _ => ?_)) | exact ih0 _ _ _ | exact laws_markText.mono _ _ | exact LeO.none _ | refine LeO.ite ?_ ?_ | refine LeO.bind ?_ (fun _ => ?_))
theorem laws_heldStringS.mono : ∀ a0 a1 k, LeO (laws_heldStringS.f k a0 a1) (laws_heldStringS.f (k + 1) a0 a1) := by
 intro a0 a1 k
 have ih0 := laws_heldStringS.mono_l k
 unfold laws_heldStringS.f
 repeat' (first | (with_reducible first | exact ih0 _ _ _ | exact laws_markText.mono _ _ | exact LeO.refl _ | exact LeO.none _ | refine LeO.ite ?_ ?_ | refine LeO.bind ?_ (fun _ => ?_)) | exact ih0 _ _ _ | exact laws_markText.mono _ _ | exact LeO.none _ | refine LeO.ite ?_ ?_ | refine LeO.bind ?_ (fun _ => ?_))
set_option maxHeartbeats 8000000 in
set_option maxRecDepth 100000 in
theorem laws_heldStringS.calls (k : Nat) (A0 : Option Addr) (c0 : Nat) (l0 : List ByteArray) (a1 : Int) (r : Int) (w : World) (hr0 : Kd.C Kd.string w A0 l0.length l0) (hc0 : l0.length ≤ c0) (h : laws_heldStringS.f k l0 a1 = some r) :
  Calls Try.prog 108 #[.slice A0 l0.length c0, .int .i64 a1] w fun e w' => e = .returned (.int .i64 r) ∧ Below w.heap.size w w' := by
 have HR0 := Aside0.mk hr0; have HC0 := Aside0.mk hc0; clear hr0 hc0
 have HB := Aside0.mk (Below.refl w.heap.size w)
 have H : (laws_heldStringS.l0 k l0 a1 0) = some r := h
 clear h
 have H' := Aside0.mk H
 clear H
 go_enter Try.func108, Try.ntmps108
 go_wp2
 go_loopg [1, 5] k (fun kq v1 v5 w' => ∃ (x1_1 : Int) (x5_1 : Int), v1 = .int .i64 x1_1 ∧ v5 = .int .i64 x5_1 ∧ Aside0 (laws_heldStringS.l0 kq l0 x1_1 x5_1 = some r) ∧ Aside0 (kq ≤ k) ∧ Aside0 (Below w.heap.size w w'))
 case atStart => exact ⟨(a1), (0), er, er, H', ⟨Nat.le_refl _⟩, ⟨belowd HB⟩⟩
 case round =>
  clear H'
  obtain ⟨x1_1, x5_1, rfl, rfl, HA, HK1, HB⟩ := hrel
  cases gk with
  | zero => exact absurd HA.out (by simp [laws_heldStringS.l0])
  | succ k1 =>
   have H := HA.out; clear HA
   simp only [laws_heldStringS.l0] at H
   by_cases c3 : x5_1 < (l0.length : Int)
   ·rw [if_pos c3] at H
    have c3b0 : decide (x5_1 < (l0.length : Int)) = true := decide_eq_true c3
    clear c3; replace H := ifS H; obtain ⟨c4, H⟩ := H; have c4b0 := decide_eq_true c4; clear c4; replace H := bS H; obtain ⟨t446, A5, H⟩ := H
    replace H : (if (rdOf ByteArray.empty l0 x5_1).toList = t446.toList then (laws_heldStringS.l0 k1 l0 (wrap64 (x1_1 + 1)) (wrap64 (x5_1 + 1))) else (some (-1))) = some r := H
    by_cases c6 : (rdOf ByteArray.empty l0 x5_1).toList = t446.toList
    ·rw [if_pos c6] at H
     have c6b0 : ((rdOf ByteArray.empty l0 x5_1).toList == t446.toList) = true := beq_iff_eq.mpr c6
     have c6b1 : ((rdOf ByteArray.empty l0 x5_1).toList != t446.toList) = false := bne_eq_false_iff_eq.mpr c6
     clear c6
     have H' := Aside0.mk H
     clear H
     try go_wp2
     replace HB := ak (below_drew1 HB.out)
     have p445 : 0 ≤ (x5_1 : Int) := da
     have q445 : x5_1 < (l0.length : Int) := da
     obtain ⟨ad445, e445, hx445_0⟩ := Kd.at_string HR0.out x5_1 p445 q445
     have hw445_0 := hx445_0
     cases e445
     replace hx445_0 := (HB.out.cell (World.block_lt_of_cell? w _ hx445_0)).trans hx445_0
     replace p445 := eq_true p445; replace q445 := eq_true q445
     refine start_ (n := 7) (S := fun w' => w'.cell? (ad445.add (x5_1).toNat) = some (.string (rdOf ByteArray.empty l0 x5_1))) (ds := []) (bl 7 0) (by kernel_rfl) rfl rfl (((HB.out.cell (World.block_lt_of_cell? w _ hw445_0)).trans hw445_0)) (fun hHeld => ?_)
     generalize wr.drew = w7 at HB hx445_0 hHeld ⊢
     refine pure_ (i := 0) (N := some 12) (v := ?_) (a' := ?_) (bl 7 1) rfl rfl (by kernel_rfl) (fun _ _ _ h => h) (Or.inl ⟨by rfl, ?_⟩) ?_ ?_
     rotate_left
     ·intro w'
      go_simp
      with_reducible rfl
     rotate_left
     ·simp only [Act.put, List.setIfInBounds_toArray, List.set_cons_zero, List.set_cons_succ, i64_w, i32_w]
      rfl
     refine pure_ (i := 1) (N := some 13) (v := ?_) (a' := ?_) (bl 7 3) rfl rfl (by kernel_rfl) (fun _ _ _ h => h) (Or.inl ⟨by rfl, ?_⟩) ?_ ?_
     rotate_left
     ·intro w'
      go_simp
      with_reducible rfl
     rotate_left
     ·simp only [Act.put, List.setIfInBounds_toArray, List.set_cons_zero, List.set_cons_succ, i64_w, i32_w]
      rfl
     refine pure_ (i := 2) (N := some 14) (v := ?_) (a' := ?_) (bl 7 7) rfl rfl (by kernel_rfl) (fun _ _ _ h => h) (Or.inl ⟨by rfl, ?_⟩) ?_ ?_
     rotate_left
     ·intro w'
      go_simp
      with_reducible rfl
     rotate_left
     ·simp only [Act.put, List.setIfInBounds_toArray, List.set_cons_zero, List.set_cons_succ, i64_w, i32_w]
      rfl
     refine pure_ (i := 4) (N := some 16) (v := ?_) (a' := ?_) (bl 7 23) rfl rfl (by kernel_rfl) (fun _ _ _ h => h) (Or.inl ⟨by rfl, ?_⟩) ?_ ?_
     rotate_left
     ·intro w'
      go_simp
      with_reducible rfl
     rotate_left
     ·simp only [Act.put, List.setIfInBounds_toArray, List.set_cons_zero, List.set_cons_succ, i64_w, i32_w]
      rfl
     refine take_ (i := 3) (N := some 15) (v := ?_) (a' := ?_) (bl 7 31) rfl rfl (by kernel_rfl) (fun _ _ _ h => h) (Or.inl ⟨by rfl, ?_⟩) hHeld ?_ ?_
     rotate_left
     ·intro w' s0
      go_simp
      with_reducible rfl
     rotate_left
     ·simp only [Act.put, List.setIfInBounds_toArray, List.set_cons_zero, List.set_cons_succ, i64_w, i32_w]
      rfl
     refine one_ (i := 5) (N := some 17) (bl 7 63) rfl rfl (by kernel_rfl) (by decide) (fun K hK => ?_)
     refine goes_ Try.func185 (by kernel_rfl) rfl #[.int .i64 x1_1] (by rfl) rfl rfl (by (try simp only [List.map_toArray, List.map_cons, List.map_nil]); first | done | rfl | (simp only [List.length_drop, List.length_take]; rfl)) ?_
     with_reducible refine (laws_markText.calls k1 x1_1 t446 _ A5.out).mono ?_
     rintro e w8 ⟨rfl, hb⟩
     refine ⟨_, rfl, ?_⟩
     replace HB := ak (below_step (belowd HB) hb)
     (try clear hb); (try clear hb2); (try clear hk); (try clear hi)
     refine hK.out _ _ (((HB.out.cell (World.block_lt_of_cell? w _ hw445_0)).trans hw445_0)) (fun hHeld => ?_)
     clear hK K
     refine norm_ (a' := ?_) ?_ ?_
     rotate_left
     ·show Act.put _ (some 17) _ = _
      simp only [Act.put, List.setIfInBounds_toArray, List.set_cons_zero, List.set_cons_succ, i64_w, i32_w]
      rfl
     refine pure_ (i := 6) (N := some 18) (v := ?_) (a' := ?_) (bl 7 127) rfl rfl (by kernel_rfl) (fun _ _ _ h => h) (Or.inl ⟨by rfl, ?_⟩) ?_ ?_
     rotate_left
     ·intro w'
      go_simp
      with_reducible rfl
     rotate_left
     ·simp only [Act.put, List.setIfInBounds_toArray, List.set_cons_zero, List.set_cons_succ, i64_w, i32_w]
      rfl
     refine done_ (by kernel_rfl) ?_
     try go_wp2
     go_roundg k1
     case measure => have := HK1.out; omega
     case rel => exact ⟨(wrap64 (x1_1 + 1)), (wrap64 (x5_1 + 1)), er, er, H', ⟨by have := HK1.out; omega⟩, ⟨belowd HB⟩⟩
    ·rw [if_neg c6] at H
     have c6b0 : ((rdOf ByteArray.empty l0 x5_1).toList == t446.toList) = false := beq_eq_false_iff_ne.mpr c6
     have c6b1 : ((rdOf ByteArray.empty l0 x5_1).toList != t446.toList) = true := bne_iff_ne.mpr c6
     obtain rfl := Option.some.inj H
     try go_wp2
     replace HB := ak (below_drew1 HB.out)
     have p445 : 0 ≤ (x5_1 : Int) := da
     have q445 : x5_1 < (l0.length : Int) := da
     obtain ⟨ad445, e445, hx445_0⟩ := Kd.at_string HR0.out x5_1 p445 q445
     have hw445_0 := hx445_0
     cases e445
     replace hx445_0 := (HB.out.cell (World.block_lt_of_cell? w _ hx445_0)).trans hx445_0
     replace p445 := eq_true p445; replace q445 := eq_true q445
     refine start_ (n := 7) (S := fun w' => w'.cell? (ad445.add (x5_1).toNat) = some (.string (rdOf ByteArray.empty l0 x5_1))) (ds := []) (bl 7 0) (by kernel_rfl) rfl rfl (((HB.out.cell (World.block_lt_of_cell? w _ hw445_0)).trans hw445_0)) (fun hHeld => ?_)
     generalize wr.drew = w9 at HB hx445_0 hHeld ⊢
     refine pure_ (i := 0) (N := some 12) (v := ?_) (a' := ?_) (bl 7 1) rfl rfl (by kernel_rfl) (fun _ _ _ h => h) (Or.inl ⟨by rfl, ?_⟩) ?_ ?_
     rotate_left
     ·intro w'
      go_simp
      with_reducible rfl
     rotate_left
     ·simp only [Act.put, List.setIfInBounds_toArray, List.set_cons_zero, List.set_cons_succ, i64_w, i32_w]
      rfl
     refine pure_ (i := 1) (N := some 13) (v := ?_) (a' := ?_) (bl 7 3) rfl rfl (by kernel_rfl) (fun _ _ _ h => h) (Or.inl ⟨by rfl, ?_⟩) ?_ ?_
     rotate_left
     ·intro w'
      go_simp
      with_reducible rfl
     rotate_left
     ·simp only [Act.put, List.setIfInBounds_toArray, List.set_cons_zero, List.set_cons_succ, i64_w, i32_w]
      rfl
     refine pure_ (i := 2) (N := some 14) (v := ?_) (a' := ?_) (bl 7 7) rfl rfl (by kernel_rfl) (fun _ _ _ h => h) (Or.inl ⟨by rfl, ?_⟩) ?_ ?_
     rotate_left
     ·intro w'
      go_simp
      with_reducible rfl
     rotate_left
     ·simp only [Act.put, List.setIfInBounds_toArray, List.set_cons_zero, List.set_cons_succ, i64_w, i32_w]
      rfl
     refine pure_ (i := 4) (N := some 16) (v := ?_) (a' := ?_) (bl 7 23) rfl rfl (by kernel_rfl) (fun _ _ _ h => h) (Or.inl ⟨by rfl, ?_⟩) ?_ ?_
     rotate_left
     ·intro w'
      go_simp
      with_reducible rfl
     rotate_left
     ·simp only [Act.put, List.setIfInBounds_toArray, List.set_cons_zero, List.set_cons_succ, i64_w, i32_w]
      rfl
     refine take_ (i := 3) (N := some 15) (v := ?_) (a' := ?_) (bl 7 31) rfl rfl (by kernel_rfl) (fun _ _ _ h => h) (Or.inl ⟨by rfl, ?_⟩) hHeld ?_ ?_
     rotate_left
     ·intro w' s0
      go_simp
      with_reducible rfl
     rotate_left
     ·simp only [Act.put, List.setIfInBounds_toArray, List.set_cons_zero, List.set_cons_succ, i64_w, i32_w]
      rfl
     refine one_ (i := 5) (N := some 17) (bl 7 63) rfl rfl (by kernel_rfl) (by decide) (fun K hK => ?_)
     refine goes_ Try.func185 (by kernel_rfl) rfl #[.int .i64 x1_1] (by rfl) rfl rfl (by (try simp only [List.map_toArray, List.map_cons, List.map_nil]); first | done | rfl | (simp only [List.length_drop, List.length_take]; rfl)) ?_
     with_reducible refine (laws_markText.calls k1 x1_1 t446 _ A5.out).mono ?_
     rintro e w10 ⟨rfl, hb⟩
     refine ⟨_, rfl, ?_⟩
     replace HB := ak (below_step (belowd HB) hb)
     (try clear hb); (try clear hb2); (try clear hk); (try clear hi)
     refine hK.out _ _ (((HB.out.cell (World.block_lt_of_cell? w _ hw445_0)).trans hw445_0)) (fun hHeld => ?_)
     clear hK K
     refine norm_ (a' := ?_) ?_ ?_
     rotate_left
     ·show Act.put _ (some 17) _ = _
      simp only [Act.put, List.setIfInBounds_toArray, List.set_cons_zero, List.set_cons_succ, i64_w, i32_w]
      rfl
     refine pure_ (i := 6) (N := some 18) (v := ?_) (a' := ?_) (bl 7 127) rfl rfl (by kernel_rfl) (fun _ _ _ h => h) (Or.inl ⟨by rfl, ?_⟩) ?_ ?_
     rotate_left
     ·intro w'
      go_simp
      with_reducible rfl
     rotate_left
     ·simp only [Act.put, List.setIfInBounds_toArray, List.set_cons_zero, List.set_cons_succ, i64_w, i32_w]
      rfl
     refine done_ (by kernel_rfl) ?_
     try go_wp2
     go_ret
     exact ⟨er2, belowd HB⟩
   ·rw [if_neg c3] at H
    have c3b0 : decide (x5_1 < (l0.length : Int)) = false := decide_eq_false c3
    clear c3
    obtain rfl := Option.some.inj H
    go_wp2
    go_ret
    exact ⟨er2, belowd HB⟩

/-! ### laws_heldStringSS: function 26 -/
def laws_heldStringSS.l0 : Nat → List (List ByteArray) → Int → Int → Option (Int)
  | 0, _, _, _ => none
  | k + 1, x0, x1, x5 => if x5 < (x0.length : Int) then (if 0 ≤ x5 then ((laws_heldStringS.f k (rd_L1 x0 x5) x1).bind fun t448 => (if t448 < 0 then (some (-1)) else (laws_heldStringSS.l0 k x0 t448 (wrap64 (x5 + 1))))) else (none)) else (some x1)
def laws_heldStringSS.f (k : Nat) (l0 : List (List ByteArray)) (a1 : Int) : Option (Int) := laws_heldStringSS.l0 k l0 a1 0
theorem laws_heldStringSS.mono_l : ∀ k, (∀ y0 y1 y2, LeO (laws_heldStringSS.l0 k y0 y1 y2) (laws_heldStringSS.l0 (k + 1) y0 y1 y2))
 | 0 => fun _ _ _ r h => by simp [laws_heldStringSS.l0] at h
 | k + 1 => by
  have ih0 := laws_heldStringSS.mono_l k
  ·intro y0 y1 y2
   unfold laws_heldStringSS.l0
   repeat' (first | (with_reducible first | exact ih0 _ _ _ | exact laws_heldStringS.mono _ _ _ | exact LeO.refl _ | exact LeO.none _ | refine LeO.ite ?_ ?_ | refine LeO.bind ?_ (fun _ => ?_)) | exact ih0 _ _ _ | exact laws_heldStringS.mono _ _ _ | exact LeO.none _ | refine LeO.ite ?_ ?_ | refine LeO.bind ?_ (fun _ => ?_))
theorem laws_heldStringSS.mono : ∀ a0 a1 k, LeO (laws_heldStringSS.f k a0 a1) (laws_heldStringSS.f (k + 1) a0 a1) := by
 intro a0 a1 k
 have ih0 := laws_heldStringSS.mono_l k
 unfold laws_heldStringSS.f
 repeat' (first | (with_reducible first | exact ih0 _ _ _ | exact laws_heldStringS.mono _ _ _ | exact LeO.refl _ | exact LeO.none _ | refine LeO.ite ?_ ?_ | refine LeO.bind ?_ (fun _ => ?_)) | exact ih0 _ _ _ | exact laws_heldStringS.mono _ _ _ | exact LeO.none _ | refine LeO.ite ?_ ?_ | refine LeO.bind ?_ (fun _ => ?_))
set_option maxHeartbeats 8000000 in
set_option maxRecDepth 100000 in
theorem laws_heldStringSS.calls (k : Nat) (A0 : Option Addr) (c0 : Nat) (l0 : List (List ByteArray)) (a1 : Int) (r : Int) (w : World) (hr0 : Kd.C (Kd.slice 9 Kd.string) w A0 l0.length l0) (hc0 : l0.length ≤ c0) (h : laws_heldStringSS.f k l0 a1 = some r) :
  Calls Try.prog 26 #[.slice A0 l0.length c0, .int .i64 a1] w fun e w' => e = .returned (.int .i64 r) ∧ Below w.heap.size w w' := by
 have HR0 := Aside0.mk hr0; have HC0 := Aside0.mk hc0; clear hr0 hc0
 have HB := Aside0.mk (Below.refl w.heap.size w)
 have H : (laws_heldStringSS.l0 k l0 a1 0) = some r := h
 clear h
 have H' := Aside0.mk H
 clear H
 go_enter Try.func26, Try.ntmps26
 go_wp2
 go_loopg [1, 5] k (fun kq v1 v5 w' => ∃ (x1_1 : Int) (x5_1 : Int), v1 = .int .i64 x1_1 ∧ v5 = .int .i64 x5_1 ∧ Aside0 (laws_heldStringSS.l0 kq l0 x1_1 x5_1 = some r) ∧ Aside0 (kq ≤ k) ∧ Aside0 (Below w.heap.size w w'))
 case atStart => exact ⟨(a1), (0), er, er, H', ⟨Nat.le_refl _⟩, ⟨belowd HB⟩⟩
 case round =>
  clear H'
  obtain ⟨x1_1, x5_1, rfl, rfl, HA, HK1, HB⟩ := hrel
  cases gk with
  | zero => exact absurd HA.out (by simp [laws_heldStringSS.l0])
  | succ k1 =>
   have H := HA.out; clear HA
   simp only [laws_heldStringSS.l0] at H
   by_cases c3 : x5_1 < (l0.length : Int)
   ·rw [if_pos c3] at H
    have c3b0 : decide (x5_1 < (l0.length : Int)) = true := decide_eq_true c3
    clear c3; replace H := ifS H; obtain ⟨c4, H⟩ := H; have c4b0 := decide_eq_true c4; clear c4; replace H := bS H; obtain ⟨t448, A5, H⟩ := H
    replace H : (if t448 < 0 then (some (-1)) else (laws_heldStringSS.l0 k1 l0 t448 (wrap64 (x5_1 + 1)))) = some r := H
    by_cases c6 : t448 < 0
    ·rw [if_pos c6] at H
     have c6b0 : decide (t448 < 0) = true := decide_eq_true c6
     clear c6
     obtain rfl := Option.some.inj H
     have p447 : 0 ≤ (x5_1 : Int) := da
     have q447 : x5_1 < (l0.length : Int) := da
     obtain ⟨ad447, A447_0, c447_0, e447, hx447_0, hl447_0, hi447_0⟩ := at_L1 HR0.out x5_1 p447 q447
     cases e447
     replace hx447_0 := (HB.out.cell (World.block_lt_of_cell? w _ hx447_0)).trans hx447_0
     have HR447_0 := Aside0.mk hi447_0; have HC447_0 := Aside0.mk hl447_0; clear hi447_0 hl447_0; replace p447 := eq_true p447; replace q447 := eq_true q447
     go_wp2_with (first | ((with_reducible refine gate_callee (f := 108) rfl ?_); refine goesLa (some 17) rfl Try.func108 #[.slice A447_0 (rd_L1 l0 x5_1).length c447_0, .int .i64 x1_1] rfl ?_; (with_reducible refine (laws_heldStringS.calls k1 _ _ (rd_L1 l0 x5_1) x1_1 t448 _ ?side1 ?side2 A5.out).mono ?_); (case side1 => exact cd (Kd.C_below HR447_0.out HB.out)); (case side2 => exact HC447_0.out); rintro e w7 ⟨rfl, hb⟩; refine ⟨_, rfl, ?_⟩; replace HB := ak (below_step (belowd HB) hb); (try clear hb)))
     go_ret
     exact ⟨er2, belowd HB⟩
    ·rw [if_neg c6] at H
     have c6b0 : decide (t448 < 0) = false := decide_eq_false c6
     clear c6
     have H' := Aside0.mk H
     clear H
     have p447 : 0 ≤ (x5_1 : Int) := da
     have q447 : x5_1 < (l0.length : Int) := da
     obtain ⟨ad447, A447_0, c447_0, e447, hx447_0, hl447_0, hi447_0⟩ := at_L1 HR0.out x5_1 p447 q447
     cases e447
     replace hx447_0 := (HB.out.cell (World.block_lt_of_cell? w _ hx447_0)).trans hx447_0
     have HR447_0 := Aside0.mk hi447_0; have HC447_0 := Aside0.mk hl447_0; clear hi447_0 hl447_0; replace p447 := eq_true p447; replace q447 := eq_true q447
     go_wp2_with (first | ((with_reducible refine gate_callee (f := 108) rfl ?_); refine goesLa (some 17) rfl Try.func108 #[.slice A447_0 (rd_L1 l0 x5_1).length c447_0, .int .i64 x1_1] rfl ?_; (with_reducible refine (laws_heldStringS.calls k1 _ _ (rd_L1 l0 x5_1) x1_1 t448 _ ?side1 ?side2 A5.out).mono ?_); (case side1 => exact cd (Kd.C_below HR447_0.out HB.out)); (case side2 => exact HC447_0.out); rintro e w8 ⟨rfl, hb⟩; refine ⟨_, rfl, ?_⟩; replace HB := ak (below_step (belowd HB) hb); (try clear hb)))
     go_roundg k1
     case measure => have := HK1.out; omega
     case rel => exact ⟨(t448), (wrap64 (x5_1 + 1)), er, er, H', ⟨by have := HK1.out; omega⟩, ⟨belowd HB⟩⟩
   ·rw [if_neg c3] at H
    have c3b0 : decide (x5_1 < (l0.length : Int)) = false := decide_eq_false c3
    clear c3
    obtain rfl := Option.some.inj H
    go_wp2
    go_ret
    exact ⟨er2, belowd HB⟩

/-! ### laws_FnExactPlayMix: function 4 -/
mutual
def laws_FnExactPlayMix.j0 : Nat → Int → Int → List (List ByteArray) → List (List ByteArray) → Bool → List (List ByteArray) → List (List ByteArray) → Bool → Bool → Option (Bool)
  | 0, _, _, _, _, _, _, _, _, _ => none
  | k + 1, x0, x1, x2, x8, x9, x10, x11, x12, x48 => if x48 = true then (some false) else ((laws_toStringSS.f k x2).bind fun t465 => ((laws_eqStringSS.f k x10 t465).bind fun t468 => (if t468 = true then ((laws_markStringSS.f k x10 1).bind fun bt469 => (if bt469.1 < 0 then (laws_FnExactPlayMix.j1 k x0 x1 x2 x8 x9 x11 true) else ((laws_eqStringSS.f k x11 x8).bind fun t471 => (if t471 = true then (laws_FnExactPlayMix.j1 k x0 x1 x2 x8 x9 x11 (x12 != x9)) else (laws_FnExactPlayMix.j1 k x0 x1 x2 x8 x9 x11 true))))) else (some false))))
def laws_FnExactPlayMix.j1 : Nat → Int → Int → List (List ByteArray) → List (List ByteArray) → Bool → List (List ByteArray) → Bool → Option (Bool)
  | 0, _, _, _, _, _, _, _ => none
  | k + 1, x0, x1, x2, x8, x9, x11, x69 => if x69 = true then (some false) else ((laws_markStringSS.f k x11 1).bind fun bt472 => ((laws_heldStringSS.f k bt472.2 1).bind fun t474 => (if t474 < 0 then (some false) else (if t474 = bt472.1 then ((laws_toStringSS.f k x2).bind fun t475 => ((impl_PlayMix.f k x0 x1 t475).bind fun bt478 => ((laws_eqStringSS.f k bt478.1 x8).bind fun t482 => (if t482 = true then (laws_FnExactPlayMix.j2 k bt472.2 bt472.1 (bt478.2 != x9)) else (laws_FnExactPlayMix.j2 k bt472.2 bt472.1 true))))) else (some false)))))
def laws_FnExactPlayMix.j2 : Nat → List (List ByteArray) → Int → Bool → Option (Bool)
  | 0, _, _, _ => none
  | k + 1, x11, x14, x97 => if x97 = true then (some false) else ((laws_heldStringSS.f k x11 1).bind fun t483 => (if t483 < 0 then (some false) else (if t483 = x14 then (some true) else (some false))))
end
def laws_FnExactPlayMix.f (k : Nat) (a0 : Int) (a1 : Int) (l2 : List (List ByteArray)) : Option (Bool) := (laws_szStringSS.f k l2 1048576).bind fun t449 => (if t449 < 0 then (some true) else ((laws_toStringSS.f k l2).bind fun t450 => ((spec_PlayMix.f k a0 a1 t450).bind fun bt453 => ((laws_toStringSS.f k l2).bind fun t457 => ((impl_PlayMix.f k a0 a1 t457).bind fun bt460 => ((laws_eqStringSS.f k bt460.1 bt453.1).bind fun t464 => (if t464 = true then (laws_FnExactPlayMix.j0 k a0 a1 l2 bt453.1 bt453.2 t457 bt460.1 bt460.2 (bt460.2 != bt453.2)) else (laws_FnExactPlayMix.j0 k a0 a1 l2 bt453.1 bt453.2 t457 bt460.1 bt460.2 true))))))))
theorem laws_FnExactPlayMix.mono_l : ∀ k, (∀ y0 y1 y2 y3 y4 y5 y6 y7 y8, LeO (laws_FnExactPlayMix.j0 k y0 y1 y2 y3 y4 y5 y6 y7 y8) (laws_FnExactPlayMix.j0 (k + 1) y0 y1 y2 y3 y4 y5 y6 y7 y8)) ∧ (∀ y0 y1 y2 y3 y4 y5 y6, LeO (laws_FnExactPlayMix.j1 k y0 y1 y2 y3 y4 y5 y6) (laws_FnExactPlayMix.j1 (k + 1) y0 y1 y2 y3 y4 y5 y6)) ∧ (∀ y0 y1 y2, LeO (laws_FnExactPlayMix.j2 k y0 y1 y2) (laws_FnExactPlayMix.j2 (k + 1) y0 y1 y2))
 | 0 => ⟨fun _ _ _ _ _ _ _ _ _ r h => by simp [laws_FnExactPlayMix.j0] at h, fun _ _ _ _ _ _ _ r h => by simp [laws_FnExactPlayMix.j1] at h, fun _ _ _ r h => by simp [laws_FnExactPlayMix.j2] at h⟩
 | k + 1 => by
  obtain ⟨ih0, ih1, ih2⟩ := laws_FnExactPlayMix.mono_l k
  refine ⟨?_, ?_, ?_⟩
  ·intro y0 y1 y2 y3 y4 y5 y6 y7 y8
   unfold laws_FnExactPlayMix.j0
   repeat' (first | (with_reducible first | exact ih0 _ _ _ _ _ _ _ _ _ | exact ih1 _ _ _ _ _ _ _ | exact ih2 _ _ _ | exact impl_PlayMix.mono _ _ _ _ | exact laws_eqStringSS.mono _ _ _ | exact laws_heldStringSS.mono _ _ _ | exact laws_markStringSS.mono _ _ _ | exact laws_szStringSS.mono _ _ _ | exact laws_toStringSS.mono _ _ | exact spec_PlayMix.mono _ _ _ _ | exact LeO.refl _ | exact LeO.none _ | refine LeO.ite ?_ ?_ | refine LeO.bind ?_ (fun _ => ?_)) | exact ih0 _ _ _ _ _ _ _ _ _ | exact ih1 _ _ _ _ _ _ _ | exact ih2 _ _ _ | exact impl_PlayMix.mono _ _ _ _ | exact laws_eqStringSS.mono _ _ _ | exact laws_heldStringSS.mono _ _ _ | exact laws_markStringSS.mono _ _ _ | exact laws_szStringSS.mono _ _ _ | exact laws_toStringSS.mono _ _ | exact spec_PlayMix.mono _ _ _ _ | exact LeO.none _ | refine LeO.ite ?_ ?_ | refine LeO.bind ?_ (fun _ => ?_))
  ·intro y0 y1 y2 y3 y4 y5 y6
   unfold laws_FnExactPlayMix.j1
   repeat' (first | (with_reducible first | exact ih0 _ _ _ _ _ _ _ _ _ | exact ih1 _ _ _ _ _ _ _ | exact ih2 _ _ _ | exact impl_PlayMix.mono _ _ _ _ | exact laws_eqStringSS.mono _ _ _ | exact laws_heldStringSS.mono _ _ _ | exact laws_markStringSS.mono _ _ _ | exact laws_szStringSS.mono _ _ _ | exact laws_toStringSS.mono _ _ | exact spec_PlayMix.mono _ _ _ _ | exact LeO.refl _ | exact LeO.none _ | refine LeO.ite ?_ ?_ | refine LeO.bind ?_ (fun _ => ?_)) | exact ih0 _ _ _ _ _ _ _ _ _ | exact ih1 _ _ _ _ _ _ _ | exact ih2 _ _ _ | exact impl_PlayMix.mono _ _ _ _ | exact laws_eqStringSS.mono _ _ _ | exact laws_heldStringSS.mono _ _ _ | exact laws_markStringSS.mono _ _ _ | exact laws_szStringSS.mono _ _ _ | exact laws_toStringSS.mono _ _ | exact spec_PlayMix.mono _ _ _ _ | exact LeO.none _ | refine LeO.ite ?_ ?_ | refine LeO.bind ?_ (fun _ => ?_))
  ·intro y0 y1 y2
   unfold laws_FnExactPlayMix.j2
   repeat' (first | (with_reducible first | exact ih0 _ _ _ _ _ _ _ _ _ | exact ih1 _ _ _ _ _ _ _ | exact ih2 _ _ _ | exact impl_PlayMix.mono _ _ _ _ | exact laws_eqStringSS.mono _ _ _ | exact laws_heldStringSS.mono _ _ _ | exact laws_markStringSS.mono _ _ _ | exact laws_szStringSS.mono _ _ _ | exact laws_toStringSS.mono _ _ | exact spec_PlayMix.mono _ _ _ _ | exact LeO.refl _ | exact LeO.none _ | refine LeO.ite ?_ ?_ | refine LeO.bind ?_ (fun _ => ?_)) | exact ih0 _ _ _ _ _ _ _ _ _ | exact ih1 _ _ _ _ _ _ _ | exact ih2 _ _ _ | exact impl_PlayMix.mono _ _ _ _ | exact laws_eqStringSS.mono _ _ _ | exact laws_heldStringSS.mono _ _ _ | exact laws_markStringSS.mono _ _ _ | exact laws_szStringSS.mono _ _ _ | exact laws_toStringSS.mono _ _ | exact spec_PlayMix.mono _ _ _ _ | exact LeO.none _ | refine LeO.ite ?_ ?_ | refine LeO.bind ?_ (fun _ => ?_))
theorem laws_FnExactPlayMix.mono : ∀ a0 a1 a2 k, LeO (laws_FnExactPlayMix.f k a0 a1 a2) (laws_FnExactPlayMix.f (k + 1) a0 a1 a2) := by
 intro a0 a1 a2 k
 obtain ⟨ih0, ih1, ih2⟩ := laws_FnExactPlayMix.mono_l k
 unfold laws_FnExactPlayMix.f
 repeat' (first | (with_reducible first | exact ih0 _ _ _ _ _ _ _ _ _ | exact ih1 _ _ _ _ _ _ _ | exact ih2 _ _ _ | exact impl_PlayMix.mono _ _ _ _ | exact laws_eqStringSS.mono _ _ _ | exact laws_heldStringSS.mono _ _ _ | exact laws_markStringSS.mono _ _ _ | exact laws_szStringSS.mono _ _ _ | exact laws_toStringSS.mono _ _ | exact spec_PlayMix.mono _ _ _ _ | exact LeO.refl _ | exact LeO.none _ | refine LeO.ite ?_ ?_ | refine LeO.bind ?_ (fun _ => ?_)) | exact ih0 _ _ _ _ _ _ _ _ _ | exact ih1 _ _ _ _ _ _ _ | exact ih2 _ _ _ | exact impl_PlayMix.mono _ _ _ _ | exact laws_eqStringSS.mono _ _ _ | exact laws_heldStringSS.mono _ _ _ | exact laws_markStringSS.mono _ _ _ | exact laws_szStringSS.mono _ _ _ | exact laws_toStringSS.mono _ _ | exact spec_PlayMix.mono _ _ _ _ | exact LeO.none _ | refine LeO.ite ?_ ?_ | refine LeO.bind ?_ (fun _ => ?_))
set_option maxHeartbeats 8000000 in
set_option maxRecDepth 100000 in
theorem laws_FnExactPlayMix.calls (k : Nat) (a0 : Int) (a1 : Int) (A2 : Option Addr) (c2 : Nat) (l2 : List (List ByteArray)) (r : Bool) (w : World) (hr2 : Kd.C (Kd.slice 9 Kd.string) w A2 l2.length l2) (hc2 : l2.length ≤ c2) (h : laws_FnExactPlayMix.f k a0 a1 l2 = some r) (hr_ : r = true) :
  Calls Try.prog 4 #[.int .i64 a0, .int .i64 a1, .slice A2 l2.length c2] w fun e w' => e = .returned (.bool r) ∧ Below w.heap.size w w' := by
 have HR2 := Aside0.mk hr2; have HC2 := Aside0.mk hc2; clear hr2 hc2
 have HB := Aside0.mk (Below.refl w.heap.size w)
 have H : ((laws_szStringSS.f k l2 1048576).bind fun t449 => (if t449 < 0 then (some true) else ((laws_toStringSS.f k l2).bind fun t450 => ((spec_PlayMix.f k a0 a1 t450).bind fun bt453 => ((laws_toStringSS.f k l2).bind fun t457 => ((impl_PlayMix.f k a0 a1 t457).bind fun bt460 => ((laws_eqStringSS.f k bt460.1 bt453.1).bind fun t464 => (if t464 = true then (laws_FnExactPlayMix.j0 k a0 a1 l2 bt453.1 bt453.2 t457 bt460.1 bt460.2 (bt460.2 != bt453.2)) else (laws_FnExactPlayMix.j0 k a0 a1 l2 bt453.1 bt453.2 t457 bt460.1 bt460.2 true))))))))) = some r := h
 clear h; replace H := bS H; obtain ⟨t449, A4, H⟩ := H
 replace H : (if t449 < 0 then (some true) else ((laws_toStringSS.f k l2).bind fun t450 => ((spec_PlayMix.f k a0 a1 t450).bind fun bt453 => ((laws_toStringSS.f k l2).bind fun t457 => ((impl_PlayMix.f k a0 a1 t457).bind fun bt460 => ((laws_eqStringSS.f k bt460.1 bt453.1).bind fun t464 => (if t464 = true then (laws_FnExactPlayMix.j0 k a0 a1 l2 bt453.1 bt453.2 t457 bt460.1 bt460.2 (bt460.2 != bt453.2)) else (laws_FnExactPlayMix.j0 k a0 a1 l2 bt453.1 bt453.2 t457 bt460.1 bt460.2 true)))))))) = some r := H
 by_cases c5 : t449 < 0
 ·rw [if_pos c5] at H
  have c5b0 : decide (t449 < 0) = true := decide_eq_true c5
  clear c5
  obtain rfl := Option.some.inj H
  go_enter Try.func4, Try.ntmps4
  go_wp2_with (first | ((with_reducible refine gate_callee (f := 20) rfl ?_); refine goesLa (some 20) rfl Try.func20 #[.slice A2 l2.length c2, .int .i64 1048576] rfl ?_; (with_reducible refine (laws_szStringSS.calls k _ _ l2 1048576 t449 _ ?side1 ?side2 A4.out).mono ?_); (case side1 => exact cd HR2.out); (case side2 => exact HC2.out); rintro e w' ⟨rfl, ⟨nd, rfl⟩⟩; refine ⟨_, rfl, ?_⟩))
  go_ret
  exact ⟨er2, belowd HB⟩
 ·rw [if_neg c5] at H
  have c5b0 : decide (t449 < 0) = false := decide_eq_false c5
  clear c5; replace H := bS H; obtain ⟨t450, A6, H⟩ := H
  replace H : ((spec_PlayMix.f k a0 a1 t450).bind fun bt453 => ((laws_toStringSS.f k l2).bind fun t457 => ((impl_PlayMix.f k a0 a1 t457).bind fun bt460 => ((laws_eqStringSS.f k bt460.1 bt453.1).bind fun t464 => (if t464 = true then (laws_FnExactPlayMix.j0 k a0 a1 l2 bt453.1 bt453.2 t457 bt460.1 bt460.2 (bt460.2 != bt453.2)) else (laws_FnExactPlayMix.j0 k a0 a1 l2 bt453.1 bt453.2 t457 bt460.1 bt460.2 true)))))) = some r := H
  replace H := bS H; obtain ⟨⟨t453, t454⟩, A7, H⟩ := H
  replace H : ((laws_toStringSS.f k l2).bind fun t457 => ((impl_PlayMix.f k a0 a1 t457).bind fun bt460 => ((laws_eqStringSS.f k bt460.1 t453).bind fun t464 => (if t464 = true then (laws_FnExactPlayMix.j0 k a0 a1 l2 t453 t454 t457 bt460.1 bt460.2 (bt460.2 != t454)) else (laws_FnExactPlayMix.j0 k a0 a1 l2 t453 t454 t457 bt460.1 bt460.2 true))))) = some r := H
  replace H := bS H; obtain ⟨t457, A8, H⟩ := H
  replace H : ((impl_PlayMix.f k a0 a1 t457).bind fun bt460 => ((laws_eqStringSS.f k bt460.1 t453).bind fun t464 => (if t464 = true then (laws_FnExactPlayMix.j0 k a0 a1 l2 t453 t454 t457 bt460.1 bt460.2 (bt460.2 != t454)) else (laws_FnExactPlayMix.j0 k a0 a1 l2 t453 t454 t457 bt460.1 bt460.2 true)))) = some r := H
  replace H := bS H; obtain ⟨⟨t460, t461⟩, A9, H⟩ := H
  replace H : ((laws_eqStringSS.f k t460 t453).bind fun t464 => (if t464 = true then (laws_FnExactPlayMix.j0 k a0 a1 l2 t453 t454 t457 t460 t461 (t461 != t454)) else (laws_FnExactPlayMix.j0 k a0 a1 l2 t453 t454 t457 t460 t461 true))) = some r := H
  have HC10 := Aside0.mk H; clear H
  go_enter Try.func4, Try.ntmps4
  go_upto_region 8 with (first | ((with_reducible refine gate_callee (f := 20) rfl ?_); refine goesLa (some 20) rfl Try.func20 #[.slice A2 l2.length c2, .int .i64 1048576] rfl ?_; (with_reducible refine (laws_szStringSS.calls k _ _ l2 1048576 t449 _ ?side1 ?side2 A4.out).mono ?_); (case side1 => exact cd HR2.out); (case side2 => exact HC2.out); rintro e w' ⟨rfl, ⟨nd, rfl⟩⟩; refine ⟨_, rfl, ?_⟩) | ((with_reducible refine gate_callee (f := 22) rfl ?_); refine goesLa (some 27) rfl Try.func22 #[.slice A2 l2.length c2] rfl ?_; (with_reducible refine (laws_toStringSS.calls k _ _ l2 t450 _ ?side1 ?side2 A6.out).mono ?_); (case side1 => exact cd HR2.out); (case side2 => exact HC2.out); rintro e w11 ⟨v451, rfl, ho0, hb⟩; refine ⟨_, rfl, ?_⟩; have HO452 := ak (Kd.S_lower ho0 (below_size (belowd HB))); replace HB := ak (below_step (belowd HB) hb); (try clear hb); (try clear ho0); obtain ⟨Ao12, co12, eo12⟩ := Kd.S_slice HO452.out; subst eo12) | ((with_reducible refine gate_callee (f := 21) rfl ?_); refine goesLa (some 28) rfl Try.func21 #[.int .i64 a0, .int .i64 a1, .slice Ao12 t450.length co12] rfl ?_; (with_reducible refine (spec_PlayMix.calls k a0 a1 _ _ t450 t453 t454 _ ?side1 ?side2 A7.out).mono ?_); (case side1 => exact cd (Kd.S_reads' HO452.out).2.2); (case side2 => exact (Kd.S_reads' HO452.out).2.1); rintro e w13 ⟨v455, rfl, ho0, hb⟩; refine ⟨_, rfl, ?_⟩; obtain ⟨N14, eN14⟩ := below_num hb; have HO456 := ak (Kd.S_lower (Kd.S_new' (S_geN eN14 ho0) (Kd.S_lt (sd HO452))) (below_size (belowd HB))); replace HO452 := ak (Kd.S_elder' (S_ltN eN14 (sd HO452)) (Kd.S_base ho0) hb); replace HB := ak (below_step (belowd HB) hb); (try clear hb); (try clear ho0)) | ((with_reducible refine gate_callee (f := 22) rfl ?_); refine goesLa (some 32) rfl Try.func22 #[.slice A2 l2.length c2] rfl ?_; (with_reducible refine (laws_toStringSS.calls k _ _ l2 t457 _ ?side1 ?side2 A8.out).mono ?_); (case side1 => exact cd (Kd.C_below HR2.out HB.out)); (case side2 => exact HC2.out); rintro e w15 ⟨v458, rfl, ho0, hb⟩; refine ⟨_, rfl, ?_⟩; obtain ⟨N16, eN16⟩ := below_num hb; have HO459 := ak (Kd.S_lower (Kd.S_new' (Kd.S_new' (S_geN eN16 ho0) (Kd.S_lt (sd HO452))) (Kd.S_lt (sd HO456))) (below_size (belowd HB))); replace HO452 := ak (Kd.S_elder' (S_ltN eN16 (sd HO452)) (Kd.S_base ho0) hb); replace HO456 := ak (Kd.S_elder' (S_ltN eN16 (sd HO456)) (Kd.S_base ho0) hb); replace HB := ak (below_step (belowd HB) hb); (try clear hb); (try clear ho0); obtain ⟨Ao17, co17, eo17⟩ := Kd.S_slice HO459.out; subst eo17) | ((with_reducible refine gate_callee (f := 23) rfl ?_); refine goesLa (some 37) rfl Try.func23 #[.int .i64 a0, .int .i64 a1, .slice Ao17 t457.length co17] rfl ?_; (with_reducible refine (impl_PlayMix.calls k a0 a1 _ _ t457 t460 t461 _ ?side1 ?side2 A9.out).mono ?_); (case side1 => exact cd (Kd.S_reads' HO459.out).2.2); (case side2 => exact (Kd.S_reads' HO459.out).2.1); rintro e w18 ⟨v462, rfl, ho0, hb⟩; refine ⟨_, rfl, ?_⟩; obtain ⟨N19, eN19⟩ := below_num hb; have HO463 := ak (Kd.S_lower (Kd.S_new' (Kd.S_new' (Kd.S_new' (S_geN eN19 ho0) (Kd.S_lt (sd HO452))) (Kd.S_lt (sd HO456))) (Kd.S_lt (sd HO459))) (below_size (belowd HB))); replace HO452 := ak (Kd.S_elder' (S_ltN eN19 (sd HO452)) (Kd.S_base ho0) hb); replace HO456 := ak (Kd.S_elder' (S_ltN eN19 (sd HO456)) (Kd.S_base ho0) hb); replace HO459 := ak (Kd.S_elder' (S_ltN eN19 (sd HO459)) (Kd.S_base ho0) hb); replace HB := ak (below_step (belowd HB) hb); (try clear hb); (try clear ho0)))
  (try simp only [Act.put, List.setIfInBounds_toArray, List.set_cons_zero, List.set_cons_succ])
  go_cut [48] (fun v48 wc => ∃ (kq : Nat) (x48_9 : Bool), v48 = .bool x48_9 ∧ Aside0 (laws_FnExactPlayMix.j0 kq a0 a1 l2 t453 t454 t457 t460 t461 x48_9 = some r) ∧ Aside0 (kq ≤ k) ∧ Aside0 (Kd.S (Kd.slice 9 Kd.string) 22 wc w.heap.size (fun k_ => some k_ ≠ ((.slice Ao17 t457.length co17) : Value).ownBlock ∧ some k_ ≠ (v462 : Value).ownBlock ∧ N14 ≤ k_ ∧ k_ < N16 ∧ k_ < N19) v455 t453) ∧ Aside0 (Kd.S (Kd.slice 9 Kd.string) 22 wc w.heap.size (fun k_ => some k_ ≠ (v455 : Value).ownBlock ∧ some k_ ≠ (v462 : Value).ownBlock ∧ N16 ≤ k_ ∧ k_ < N19) (.slice Ao17 t457.length co17) t457) ∧ Aside0 (Kd.S (Kd.slice 9 Kd.string) 22 wc w.heap.size (fun k_ => some k_ ≠ (v455 : Value).ownBlock ∧ some k_ ≠ ((.slice Ao17 t457.length co17) : Value).ownBlock ∧ N19 ≤ k_) v462 t460) ∧ Aside0 (Below w.heap.size w wc))
  case first =>
   have H := HC10.out; clear HC10; replace H := bS H; obtain ⟨t464, A20, H⟩ := H
   replace H : (if t464 = true then (laws_FnExactPlayMix.j0 k a0 a1 l2 t453 t454 t457 t460 t461 (t461 != t454)) else (laws_FnExactPlayMix.j0 k a0 a1 l2 t453 t454 t457 t460 t461 true)) = some r := H
   by_cases c21 : t464 = true
   ·subst c21
    have H1 : (laws_FnExactPlayMix.j0 k a0 a1 l2 t453 t454 t457 t460 t461 (t461 != t454)) = some r := by rw [if_pos rfl] at H; exact H
    clear H
    have H := H1
    clear H1
    have H' := Aside0.mk H
    clear H
    obtain ⟨Ao22, co22, eo22⟩ := Kd.S_slice HO463.out
    subst eo22
    obtain ⟨Ao23, co23, eo23⟩ := Kd.S_slice HO456.out
    subst eo23
    go_wp2_with (first | ((with_reducible refine gate_callee (f := 24) rfl ?_); refine goesLa (some 42) rfl Try.func24 #[.slice Ao22 t460.length co22, .slice Ao23 t453.length co23] rfl ?_; (with_reducible refine (laws_eqStringSS.calls k _ _ t460 _ _ t453 true _ ?side1 ?side2 ?side3 ?side4 A20.out).mono ?_); (case side1 => exact cd (Kd.S_reads' HO463.out).2.2); (case side2 => exact (Kd.S_reads' HO463.out).2.1); (case side3 => exact cd (Kd.S_reads' HO456.out).2.2); (case side4 => exact (Kd.S_reads' HO456.out).2.1); rintro e w' ⟨rfl, ⟨nd, rfl⟩⟩; refine ⟨_, rfl, ?_⟩))
    go_meet
    case rel => exact ⟨_, ((t461 != t454)), er, H', ⟨by first | omega | exact Nat.le_refl _⟩, ⟨by (with_reducible repeat (first | apply Kd.S_alloc | apply Kd.S_drewN | apply Kd.S_drew)); exact Kd.S_mono HO456.out (fun _ hk => ⟨hk.1.1.2, ⟨hk.2, ⟨hk.1.1.1.1.1.2, ⟨hk.1.1.1.2, hk.1.2⟩⟩⟩⟩)⟩, ⟨by (with_reducible repeat (first | apply Kd.S_alloc | apply Kd.S_drewN | apply Kd.S_drew)); exact Kd.S_mono HO459.out (fun _ hk => ⟨hk.1.1.2, ⟨hk.2, ⟨hk.1.1.1.1.2, hk.1.2⟩⟩⟩)⟩, ⟨by (with_reducible repeat (first | apply Kd.S_alloc | apply Kd.S_drewN | apply Kd.S_drew)); exact Kd.S_mono HO463.out (fun _ hk => ⟨hk.1.2, ⟨hk.2, hk.1.1.1.2⟩⟩)⟩, ⟨belowd HB⟩⟩
   ·replace c21 := Bool.eq_false_iff.mpr c21
    subst c21
    have H1 : (laws_FnExactPlayMix.j0 k a0 a1 l2 t453 t454 t457 t460 t461 true) = some r := by rw [if_neg (show ¬ (false = true) by decide)] at H; exact H
    clear H
    have H := H1
    clear H1
    have H' := Aside0.mk H
    clear H
    obtain ⟨Ao24, co24, eo24⟩ := Kd.S_slice HO463.out
    subst eo24
    obtain ⟨Ao25, co25, eo25⟩ := Kd.S_slice HO456.out
    subst eo25
    go_wp2_with (first | ((with_reducible refine gate_callee (f := 24) rfl ?_); refine goesLa (some 42) rfl Try.func24 #[.slice Ao24 t460.length co24, .slice Ao25 t453.length co25] rfl ?_; (with_reducible refine (laws_eqStringSS.calls k _ _ t460 _ _ t453 false _ ?side1 ?side2 ?side3 ?side4 A20.out).mono ?_); (case side1 => exact cd (Kd.S_reads' HO463.out).2.2); (case side2 => exact (Kd.S_reads' HO463.out).2.1); (case side3 => exact cd (Kd.S_reads' HO456.out).2.2); (case side4 => exact (Kd.S_reads' HO456.out).2.1); rintro e w' ⟨rfl, ⟨nd, rfl⟩⟩; refine ⟨_, rfl, ?_⟩))
    go_meet
    case rel => exact ⟨_, (true), er, H', ⟨by first | omega | exact Nat.le_refl _⟩, ⟨by (with_reducible repeat (first | apply Kd.S_alloc | apply Kd.S_drewN | apply Kd.S_drew)); exact Kd.S_mono HO456.out (fun _ hk => ⟨hk.1.1.2, ⟨hk.2, ⟨hk.1.1.1.1.1.2, ⟨hk.1.1.1.2, hk.1.2⟩⟩⟩⟩)⟩, ⟨by (with_reducible repeat (first | apply Kd.S_alloc | apply Kd.S_drewN | apply Kd.S_drew)); exact Kd.S_mono HO459.out (fun _ hk => ⟨hk.1.1.2, ⟨hk.2, ⟨hk.1.1.1.1.2, hk.1.2⟩⟩⟩)⟩, ⟨by (with_reducible repeat (first | apply Kd.S_alloc | apply Kd.S_drewN | apply Kd.S_drew)); exact Kd.S_mono HO463.out (fun _ hk => ⟨hk.1.2, ⟨hk.2, hk.1.1.1.2⟩⟩)⟩, ⟨belowd HB⟩⟩
  case rest =>
   clear HC10; (try clear c2); (try clear c5b0)
   obtain ⟨kq, x48_9, rfl, HA, HJ9, HO_8, HO_10, HO_11, HB⟩ := hcut
   cases kq with
   | zero => exact absurd HA.out (by simp [laws_FnExactPlayMix.j0])
   | succ kj9 =>
    have H := HA.out; clear HA
    simp only [laws_FnExactPlayMix.j0] at H
    by_cases c26 : x48_9 = true
    ·subst c26
     have H1 : (some false) = some r := by rw [if_pos rfl] at H; exact H
     clear H
     have H := H1
     clear H1
     exact absurd (H.trans (congrArg some hr_)) (by simp)
    ·replace c26 := Bool.eq_false_iff.mpr c26
     subst c26
     have H1 : ((laws_toStringSS.f kj9 l2).bind fun t465 => ((laws_eqStringSS.f kj9 t457 t465).bind fun t468 => (if t468 = true then ((laws_markStringSS.f kj9 t457 1).bind fun bt469 => (if bt469.1 < 0 then (laws_FnExactPlayMix.j1 kj9 a0 a1 l2 t453 t454 t460 true) else ((laws_eqStringSS.f kj9 t460 t453).bind fun t471 => (if t471 = true then (laws_FnExactPlayMix.j1 kj9 a0 a1 l2 t453 t454 t460 (t461 != t454)) else (laws_FnExactPlayMix.j1 kj9 a0 a1 l2 t453 t454 t460 true))))) else (some false)))) = some r := by rw [if_neg (show ¬ (false = true) by decide)] at H; exact H
     clear H
     have H := H1
     clear H1; replace H := bS H; obtain ⟨t465, A27, H⟩ := H
     replace H : ((laws_eqStringSS.f kj9 t457 t465).bind fun t468 => (if t468 = true then ((laws_markStringSS.f kj9 t457 1).bind fun bt469 => (if bt469.1 < 0 then (laws_FnExactPlayMix.j1 kj9 a0 a1 l2 t453 t454 t460 true) else ((laws_eqStringSS.f kj9 t460 t453).bind fun t471 => (if t471 = true then (laws_FnExactPlayMix.j1 kj9 a0 a1 l2 t453 t454 t460 (t461 != t454)) else (laws_FnExactPlayMix.j1 kj9 a0 a1 l2 t453 t454 t460 true))))) else (some false))) = some r := H
     replace H := bS H; obtain ⟨t468, A28, H⟩ := H
     replace H : (if t468 = true then ((laws_markStringSS.f kj9 t457 1).bind fun bt469 => (if bt469.1 < 0 then (laws_FnExactPlayMix.j1 kj9 a0 a1 l2 t453 t454 t460 true) else ((laws_eqStringSS.f kj9 t460 t453).bind fun t471 => (if t471 = true then (laws_FnExactPlayMix.j1 kj9 a0 a1 l2 t453 t454 t460 (t461 != t454)) else (laws_FnExactPlayMix.j1 kj9 a0 a1 l2 t453 t454 t460 true))))) else (some false)) = some r := H
     by_cases c29 : t468 = true
     ·subst c29
      have H1 : ((laws_markStringSS.f kj9 t457 1).bind fun bt469 => (if bt469.1 < 0 then (laws_FnExactPlayMix.j1 kj9 a0 a1 l2 t453 t454 t460 true) else ((laws_eqStringSS.f kj9 t460 t453).bind fun t471 => (if t471 = true then (laws_FnExactPlayMix.j1 kj9 a0 a1 l2 t453 t454 t460 (t461 != t454)) else (laws_FnExactPlayMix.j1 kj9 a0 a1 l2 t453 t454 t460 true))))) = some r := by rw [if_pos rfl] at H; exact H
      clear H
      have H := H1
      clear H1; replace H := bS H; obtain ⟨⟨t469, t470⟩, A30, H⟩ := H
      replace H : (if t469 < 0 then (laws_FnExactPlayMix.j1 kj9 a0 a1 l2 t453 t454 t460 true) else ((laws_eqStringSS.f kj9 t460 t453).bind fun t471 => (if t471 = true then (laws_FnExactPlayMix.j1 kj9 a0 a1 l2 t453 t454 t460 (t461 != t454)) else (laws_FnExactPlayMix.j1 kj9 a0 a1 l2 t453 t454 t460 true)))) = some r := H
      have HC31 := Aside0.mk H; clear H
      go_upto_region 14 with (first | ((with_reducible refine gate_callee (f := 22) rfl ?_); refine goesLa (some 51) rfl Try.func22 #[.slice A2 l2.length c2] rfl ?_; (with_reducible refine (laws_toStringSS.calls kj9 _ _ l2 t465 _ ?side1 ?side2 A27.out).mono ?_); (case side1 => exact cd (Kd.C_below HR2.out HB.out)); (case side2 => exact HC2.out); rintro e w32 ⟨v466, rfl, ho0, hb⟩; refine ⟨_, rfl, ?_⟩; obtain ⟨N33, eN33⟩ := below_num hb; have HO467 := ak (Kd.S_lower (Kd.S_new' (Kd.S_new' (Kd.S_new' (S_geN eN33 ho0) (Kd.S_lt (sd HO_8))) (Kd.S_lt (sd HO_10))) (Kd.S_lt (sd HO_11))) (below_size (belowd HB))); replace HO_8 := ak (Kd.S_elder' (S_ltN eN33 (sd HO_8)) (Kd.S_base ho0) hb); replace HO_10 := ak (Kd.S_elder' (S_ltN eN33 (sd HO_10)) (Kd.S_base ho0) hb); replace HO_11 := ak (Kd.S_elder' (S_ltN eN33 (sd HO_11)) (Kd.S_base ho0) hb); replace HB := ak (below_step (belowd HB) hb); (try clear hb); (try clear ho0); obtain ⟨Ao34, co34, eo34⟩ := Kd.S_slice HO467.out; subst eo34) | ((with_reducible refine gate_callee (f := 24) rfl ?_); refine goesLa (some 52) rfl Try.func24 #[.slice Ao17 t457.length co17, .slice Ao34 t465.length co34] rfl ?_; (with_reducible refine (laws_eqStringSS.calls kj9 _ _ t457 _ _ t465 true _ ?side1 ?side2 ?side3 ?side4 A28.out).mono ?_); (case side1 => exact cd (Kd.S_reads' HO_10.out).2.2); (case side2 => exact (Kd.S_reads' HO_10.out).2.1); (case side3 => exact cd (Kd.S_reads' HO467.out).2.2); (case side4 => exact (Kd.S_reads' HO467.out).2.1); rintro e w' ⟨rfl, ⟨nd, rfl⟩⟩; refine ⟨_, rfl, ?_⟩) | ((with_reducible refine gate_callee (f := 25) rfl ?_); refine goesLa (some 56) rfl Try.func25 #[.slice Ao17 t457.length co17, .int .i64 1] rfl ?_; (with_reducible refine (laws_markStringSS.calls kj9 (fun k_ => (((some k_ ≠ (v455 : Value).ownBlock ∧ (some k_ ≠ (v462 : Value).ownBlock ∧ (N16 ≤ k_ ∧ k_ < N19))) ∧ k_ < N33) ∧ some k_ ≠ (.slice Ao34 t465.length co34 : Value).ownBlock)) (.slice Ao17 t457.length co17) t457 1 t469 t470 w _ ?side1 ?side2 A30.out).mono ?_); (case side1 => repeat (first | (with_reducible first | exact HB.out | apply below_alloc | apply pw_below_drewN | apply below_drew1) | exact HB.out)); (case side2 => (with_reducible repeat (first | apply Kd.S_alloc | apply Kd.S_drewN | apply Kd.S_drew)); exact HO_10.out); rintro e w35 ⟨rfl, hy0, hb, hkp⟩; refine ⟨_, rfl, ?_⟩; replace HO_8 := ak (Kd.S_mono (ok' := fun k_ => (some k_ ≠ (.slice Ao17 t457.length co17 : Value).ownBlock ∧ (some k_ ≠ (v462 : Value).ownBlock ∧ (N14 ≤ k_ ∧ (k_ < N16 ∧ (k_ < N19 ∧ (k_ < N33 ∧ some k_ ≠ (.slice Ao34 t465.length co34 : Value).ownBlock))))))) (S_kept2 (HO_8.out) hkp (fun k_ hk_ _ hs_ => (Nat.not_le.2 hk_.1.1.2.2.2.1) hs_.1.1.2.2.1)) (fun k_ h_ => ⟨h_.1.1.1, ⟨h_.1.1.2.1, ⟨h_.1.1.2.2.1, ⟨h_.1.1.2.2.2.1, ⟨h_.1.1.2.2.2.2, ⟨h_.1.2, h_.2⟩⟩⟩⟩⟩⟩)); replace HO_10 := ak (Kd.S_mono (ok' := fun k_ => (some k_ ≠ (v455 : Value).ownBlock ∧ (some k_ ≠ (v462 : Value).ownBlock ∧ (N16 ≤ k_ ∧ (k_ < N19 ∧ (k_ < N33 ∧ some k_ ≠ (.slice Ao34 t465.length co34 : Value).ownBlock)))))) hy0 (fun k_ hk_ => ⟨hk_.1.1.1, ⟨hk_.1.1.2.1, ⟨hk_.1.1.2.2.1, ⟨hk_.1.1.2.2.2, ⟨hk_.1.2, hk_.2⟩⟩⟩⟩⟩)); replace HO_11 := ak (Kd.S_mono (ok' := fun k_ => (some k_ ≠ (v455 : Value).ownBlock ∧ (some k_ ≠ (.slice Ao17 t457.length co17 : Value).ownBlock ∧ (N19 ≤ k_ ∧ (k_ < N33 ∧ some k_ ≠ (.slice Ao34 t465.length co34 : Value).ownBlock))))) (S_kept2 (HO_11.out) hkp (fun k_ hk_ _ hs_ => (Nat.not_le.2 hs_.1.1.2.2.2) hk_.1.1.2.2)) (fun k_ h_ => ⟨h_.1.1.1, ⟨h_.1.1.2.1, ⟨h_.1.1.2.2, ⟨h_.1.2, h_.2⟩⟩⟩⟩)); replace HO467 := ak (Kd.S_mono (ok' := fun k_ => (N33 ≤ k_ ∧ (some k_ ≠ (v455 : Value).ownBlock ∧ (some k_ ≠ (.slice Ao17 t457.length co17 : Value).ownBlock ∧ some k_ ≠ (v462 : Value).ownBlock)))) (S_kept2 (HO467.out) hkp (fun k_ hk_ _ hs_ => (Nat.not_le.2 hs_.1.2) hk_.1.1.1.2)) (fun k_ h_ => ⟨h_.1.1.1.2, ⟨h_.1.1.2, ⟨h_.1.2, h_.2⟩⟩⟩)); replace HB := ak (hb); (try clear hb); (try clear hkp); (try clear hy0)))
      (try simp only [Act.put, List.setIfInBounds_toArray, List.set_cons_zero, List.set_cons_succ])
      go_cut [69] (fun v69 wc => ∃ (kq : Nat) (x69_30 : Bool), v69 = .bool x69_30 ∧ Aside0 (laws_FnExactPlayMix.j1 kq a0 a1 l2 t453 t454 t460 x69_30 = some r) ∧ Aside0 (kq ≤ kj9) ∧ Aside0 (Kd.S (Kd.slice 9 Kd.string) 22 wc w.heap.size (fun k_ => some k_ ≠ (v462 : Value).ownBlock ∧ N14 ≤ k_ ∧ k_ < N16 ∧ k_ < N19 ∧ k_ < N33) v455 t453) ∧ Aside0 (Kd.S (Kd.slice 9 Kd.string) 22 wc w.heap.size (fun k_ => some k_ ≠ (v455 : Value).ownBlock ∧ N19 ≤ k_ ∧ k_ < N33) v462 t460) ∧ Aside0 (Below w.heap.size w wc))
      case first =>
       have H := HC31.out; clear HC31
       by_cases c36 : t469 < 0
       ·rw [if_pos c36] at H
        have c36b0 : decide (t469 < 0) = true := decide_eq_true c36
        clear c36
        (first | rw [c36b0] | (simp only [i64_w, i32_w]; rw [c36b0]) | skip)
        have H' := Aside0.mk H
        clear H; go_wp2
        go_meet
        case rel => exact ⟨_, (true), er, H', ⟨by have := HJ9.out; first | omega | exact Nat.le_refl _⟩, ⟨by (with_reducible repeat (first | apply Kd.S_alloc | apply Kd.S_drewN | apply Kd.S_drew)); exact Kd.S_mono HO_8.out (fun _ hk => ⟨hk.2.1, ⟨hk.2.2.1, ⟨hk.2.2.2.1, ⟨hk.2.2.2.2.1, hk.2.2.2.2.2.1⟩⟩⟩⟩)⟩, ⟨by (with_reducible repeat (first | apply Kd.S_alloc | apply Kd.S_drewN | apply Kd.S_drew)); exact Kd.S_mono HO_11.out (fun _ hk => ⟨hk.1, ⟨hk.2.2.1, hk.2.2.2.1⟩⟩)⟩, ⟨belowd HB⟩⟩
       ·rw [if_neg c36] at H
        have c36b0 : decide (t469 < 0) = false := decide_eq_false c36
        clear c36
        (first | rw [c36b0] | (simp only [i64_w, i32_w]; rw [c36b0]) | skip)
        replace H := bS H; obtain ⟨t471, A37, H⟩ := H
        replace H : (if t471 = true then (laws_FnExactPlayMix.j1 kj9 a0 a1 l2 t453 t454 t460 (t461 != t454)) else (laws_FnExactPlayMix.j1 kj9 a0 a1 l2 t453 t454 t460 true)) = some r := H
        by_cases c38 : t471 = true
        ·subst c38
         have H1 : (laws_FnExactPlayMix.j1 kj9 a0 a1 l2 t453 t454 t460 (t461 != t454)) = some r := by rw [if_pos rfl] at H; exact H
         clear H
         have H := H1
         clear H1
         have H' := Aside0.mk H
         clear H
         obtain ⟨Ao39, co39, eo39⟩ := Kd.S_slice HO_11.out
         subst eo39
         obtain ⟨Ao40, co40, eo40⟩ := Kd.S_slice HO_8.out
         subst eo40
         go_wp2_with (first | (go_at_call 24; (with_reducible refine (laws_eqStringSS.calls kj9 _ _ t460 _ _ t453 true _ ?side1 ?side2 ?side3 ?side4 A37.out).mono ?_); (case side1 => exact cd (Kd.S_reads' HO_11.out).2.2); (case side2 => exact (Kd.S_reads' HO_11.out).2.1); (case side3 => exact cd (Kd.S_reads' HO_8.out).2.2); (case side4 => exact (Kd.S_reads' HO_8.out).2.1); rintro e w' ⟨rfl, ⟨nd, rfl⟩⟩))
         go_meet
         case rel => exact ⟨_, ((t461 != t454)), er, H', ⟨by have := HJ9.out; first | omega | exact Nat.le_refl _⟩, ⟨by (with_reducible repeat (first | apply Kd.S_alloc | apply Kd.S_drewN | apply Kd.S_drew)); exact Kd.S_mono HO_8.out (fun _ hk => ⟨hk.2.1, ⟨hk.2.2.1, ⟨hk.2.2.2.1, ⟨hk.2.2.2.2.1, hk.2.2.2.2.2.1⟩⟩⟩⟩)⟩, ⟨by (with_reducible repeat (first | apply Kd.S_alloc | apply Kd.S_drewN | apply Kd.S_drew)); exact Kd.S_mono HO_11.out (fun _ hk => ⟨hk.1, ⟨hk.2.2.1, hk.2.2.2.1⟩⟩)⟩, ⟨belowd HB⟩⟩
        ·replace c38 := Bool.eq_false_iff.mpr c38
         subst c38
         have H1 : (laws_FnExactPlayMix.j1 kj9 a0 a1 l2 t453 t454 t460 true) = some r := by rw [if_neg (show ¬ (false = true) by decide)] at H; exact H
         clear H
         have H := H1
         clear H1
         have H' := Aside0.mk H
         clear H
         obtain ⟨Ao41, co41, eo41⟩ := Kd.S_slice HO_11.out
         subst eo41
         obtain ⟨Ao42, co42, eo42⟩ := Kd.S_slice HO_8.out
         subst eo42
         go_wp2_with (first | (go_at_call 24; (with_reducible refine (laws_eqStringSS.calls kj9 _ _ t460 _ _ t453 false _ ?side1 ?side2 ?side3 ?side4 A37.out).mono ?_); (case side1 => exact cd (Kd.S_reads' HO_11.out).2.2); (case side2 => exact (Kd.S_reads' HO_11.out).2.1); (case side3 => exact cd (Kd.S_reads' HO_8.out).2.2); (case side4 => exact (Kd.S_reads' HO_8.out).2.1); rintro e w' ⟨rfl, ⟨nd, rfl⟩⟩))
         go_meet
         case rel => exact ⟨_, (true), er, H', ⟨by have := HJ9.out; first | omega | exact Nat.le_refl _⟩, ⟨by (with_reducible repeat (first | apply Kd.S_alloc | apply Kd.S_drewN | apply Kd.S_drew)); exact Kd.S_mono HO_8.out (fun _ hk => ⟨hk.2.1, ⟨hk.2.2.1, ⟨hk.2.2.2.1, ⟨hk.2.2.2.2.1, hk.2.2.2.2.2.1⟩⟩⟩⟩)⟩, ⟨by (with_reducible repeat (first | apply Kd.S_alloc | apply Kd.S_drewN | apply Kd.S_drew)); exact Kd.S_mono HO_11.out (fun _ hk => ⟨hk.1, ⟨hk.2.2.1, hk.2.2.2.1⟩⟩)⟩, ⟨belowd HB⟩⟩
      case rest =>
       clear HC31; (try clear c2); (try clear c26); (try clear c29)
       obtain ⟨kq, x69_30, rfl, HA, HJ30, HO_8, HO_11, HB⟩ := hcut
       cases kq with
       | zero => exact absurd HA.out (by simp [laws_FnExactPlayMix.j1])
       | succ kj30 =>
        have H := HA.out; clear HA
        simp only [laws_FnExactPlayMix.j1] at H
        by_cases c43 : x69_30 = true
        ·subst c43
         have H1 : (some false) = some r := by rw [if_pos rfl] at H; exact H
         clear H
         have H := H1
         clear H1
         exact absurd (H.trans (congrArg some hr_)) (by simp)
        ·replace c43 := Bool.eq_false_iff.mpr c43
         subst c43
         have H1 : ((laws_markStringSS.f kj30 t460 1).bind fun bt472 => ((laws_heldStringSS.f kj30 bt472.2 1).bind fun t474 => (if t474 < 0 then (some false) else (if t474 = bt472.1 then ((laws_toStringSS.f kj30 l2).bind fun t475 => ((impl_PlayMix.f kj30 a0 a1 t475).bind fun bt478 => ((laws_eqStringSS.f kj30 bt478.1 t453).bind fun t482 => (if t482 = true then (laws_FnExactPlayMix.j2 kj30 bt472.2 bt472.1 (bt478.2 != t454)) else (laws_FnExactPlayMix.j2 kj30 bt472.2 bt472.1 true))))) else (some false))))) = some r := by rw [if_neg (show ¬ (false = true) by decide)] at H; exact H
         clear H
         have H := H1
         clear H1; replace H := bS H; obtain ⟨⟨t472, t473⟩, A44, H⟩ := H
         replace H : ((laws_heldStringSS.f kj30 t473 1).bind fun t474 => (if t474 < 0 then (some false) else (if t474 = t472 then ((laws_toStringSS.f kj30 l2).bind fun t475 => ((impl_PlayMix.f kj30 a0 a1 t475).bind fun bt478 => ((laws_eqStringSS.f kj30 bt478.1 t453).bind fun t482 => (if t482 = true then (laws_FnExactPlayMix.j2 kj30 t473 t472 (bt478.2 != t454)) else (laws_FnExactPlayMix.j2 kj30 t473 t472 true))))) else (some false)))) = some r := H
         replace H := bS H; obtain ⟨t474, A45, H⟩ := H
         replace H : (if t474 < 0 then (some false) else (if t474 = t472 then ((laws_toStringSS.f kj30 l2).bind fun t475 => ((impl_PlayMix.f kj30 a0 a1 t475).bind fun bt478 => ((laws_eqStringSS.f kj30 bt478.1 t453).bind fun t482 => (if t482 = true then (laws_FnExactPlayMix.j2 kj30 t473 t472 (bt478.2 != t454)) else (laws_FnExactPlayMix.j2 kj30 t473 t472 true))))) else (some false))) = some r := H
         by_cases c46 : t474 < 0
         ·rw [if_pos c46] at H
          have c46b0 : decide (t474 < 0) = true := decide_eq_true c46
          clear c46
          exact absurd (H.trans (congrArg some hr_)) (by simp)
         ·rw [if_neg c46] at H
          have c46b0 : decide (t474 < 0) = false := decide_eq_false c46
          clear c46
          by_cases c47 : t474 = t472
          ·rw [if_pos c47] at H
           have c47b0 : (t474 == t472) = true := beq_iff_eq.mpr c47
           have c47b1 : (t474 != t472) = false := bne_eq_false_iff_eq.mpr c47
           clear c47; replace H := bS H; obtain ⟨t475, A48, H⟩ := H
           replace H : ((impl_PlayMix.f kj30 a0 a1 t475).bind fun bt478 => ((laws_eqStringSS.f kj30 bt478.1 t453).bind fun t482 => (if t482 = true then (laws_FnExactPlayMix.j2 kj30 t473 t472 (bt478.2 != t454)) else (laws_FnExactPlayMix.j2 kj30 t473 t472 true)))) = some r := H
           replace H := bS H; obtain ⟨⟨t478, t479⟩, A49, H⟩ := H
           replace H : ((laws_eqStringSS.f kj30 t478 t453).bind fun t482 => (if t482 = true then (laws_FnExactPlayMix.j2 kj30 t473 t472 (t479 != t454)) else (laws_FnExactPlayMix.j2 kj30 t473 t472 true))) = some r := H
           have HC50 := Aside0.mk H; clear H
           obtain ⟨Ao51, co51, eo51⟩ := Kd.S_slice HO_11.out
           subst eo51
           go_upto_region 25 with (first | ((with_reducible refine gate_callee (f := 25) rfl ?_); refine goesLa (some 72) rfl Try.func25 #[.slice Ao51 t460.length co51, .int .i64 1] rfl ?_; (with_reducible refine (laws_markStringSS.calls kj30 (fun k_ => (some k_ ≠ (v455 : Value).ownBlock ∧ (N19 ≤ k_ ∧ k_ < N33))) (.slice Ao51 t460.length co51) t460 1 t472 t473 w _ ?side1 ?side2 A44.out).mono ?_); (case side1 => repeat (first | (with_reducible first | exact HB.out | apply below_alloc | apply pw_below_drewN | apply below_drew1) | exact HB.out)); (case side2 => (with_reducible repeat (first | apply Kd.S_alloc | apply Kd.S_drewN | apply Kd.S_drew)); exact HO_11.out); rintro e w52 ⟨rfl, hy0, hb, hkp⟩; refine ⟨_, rfl, ?_⟩; replace HO_8 := ak (Kd.S_mono (ok' := fun k_ => (some k_ ≠ (.slice Ao51 t460.length co51 : Value).ownBlock ∧ (N14 ≤ k_ ∧ (k_ < N16 ∧ (k_ < N19 ∧ k_ < N33))))) (S_kept2 (HO_8.out) hkp (fun k_ hk_ _ hs_ => (Nat.not_le.2 hk_.2.2.2.1) hs_.2.1)) (fun k_ h_ => ⟨h_.1, ⟨h_.2.1, ⟨h_.2.2.1, ⟨h_.2.2.2.1, h_.2.2.2.2⟩⟩⟩⟩)); replace HO_11 := ak (Kd.S_mono (ok' := fun k_ => (some k_ ≠ (v455 : Value).ownBlock ∧ (N19 ≤ k_ ∧ k_ < N33))) hy0 (fun k_ hk_ => ⟨hk_.1, ⟨hk_.2.1, hk_.2.2⟩⟩)); replace HB := ak (hb); (try clear hb); (try clear hkp); (try clear hy0)) | ((with_reducible refine gate_callee (f := 26) rfl ?_); refine goesL_ (some 75) rfl rfl Try.func26 (by kernel_rfl) rfl #[.slice Ao51 t473.length co51, .int .i64 1] rfl (by (try simp only [List.map_toArray, List.map_cons, List.map_nil]); first | done | (rw [show t473.length = t460.length from (Kd.S_reads' HO_11.out).1.symm] <;> rfl) | rfl | (simp only [List.length_drop, List.length_take]; rfl)) ?_; (with_reducible refine (laws_heldStringSS.calls kj30 _ _ t473 1 t474 _ ?side1 ?side2 A45.out).mono ?_); (case side1 => exact cd (Kd.S_reads' HO_11.out).2.2); (case side2 => rw [show t473.length = t460.length from (Kd.S_reads' HO_11.out).1.symm]; exact (Kd.S_reads' HO_11.out).2.1); rintro e w53 ⟨rfl, hb⟩; refine ⟨_, rfl, ?_⟩; replace HO_8 := ak (Kd.S_below (sd HO_8) hb); replace HO_11 := ak (Kd.S_below (sd HO_11) hb); replace HB := ak (below_step (belowd HB) hb); (try clear hb)) | ((with_reducible refine gate_callee (f := 22) rfl ?_); refine goesLa (some 85) rfl Try.func22 #[.slice A2 l2.length c2] rfl ?_; (with_reducible refine (laws_toStringSS.calls kj30 _ _ l2 t475 _ ?side1 ?side2 A48.out).mono ?_); (case side1 => exact cd (Kd.C_below HR2.out HB.out)); (case side2 => exact HC2.out); rintro e w54 ⟨v476, rfl, ho0, hb⟩; refine ⟨_, rfl, ?_⟩; obtain ⟨N55, eN55⟩ := below_num hb; have HO477 := ak (Kd.S_lower (Kd.S_new' (Kd.S_new' (S_geN eN55 ho0) (Kd.S_lt (sd HO_8))) (Kd.S_lt (sd HO_11))) (below_size (belowd HB))); replace HO_8 := ak (Kd.S_elder' (S_ltN eN55 (sd HO_8)) (Kd.S_base ho0) hb); replace HO_11 := ak (Kd.S_elder' (S_ltN eN55 (sd HO_11)) (Kd.S_base ho0) hb); replace HB := ak (below_step (belowd HB) hb); (try clear hb); (try clear ho0); obtain ⟨Ao56, co56, eo56⟩ := Kd.S_slice HO477.out; subst eo56) | ((with_reducible refine gate_callee (f := 23) rfl ?_); refine goesLa (some 86) rfl Try.func23 #[.int .i64 a0, .int .i64 a1, .slice Ao56 t475.length co56] rfl ?_; (with_reducible refine (impl_PlayMix.calls kj30 a0 a1 _ _ t475 t478 t479 _ ?side1 ?side2 A49.out).mono ?_); (case side1 => exact cd (Kd.S_reads' HO477.out).2.2); (case side2 => exact (Kd.S_reads' HO477.out).2.1); rintro e w57 ⟨v480, rfl, ho0, hb⟩; refine ⟨_, rfl, ?_⟩; obtain ⟨N58, eN58⟩ := below_num hb; have HO481 := ak (Kd.S_lower (Kd.S_new' (Kd.S_new' (Kd.S_new' (S_geN eN58 ho0) (Kd.S_lt (sd HO_8))) (Kd.S_lt (sd HO_11))) (Kd.S_lt (sd HO477))) (below_size (belowd HB))); replace HO_8 := ak (Kd.S_elder' (S_ltN eN58 (sd HO_8)) (Kd.S_base ho0) hb); replace HO_11 := ak (Kd.S_elder' (S_ltN eN58 (sd HO_11)) (Kd.S_base ho0) hb); replace HO477 := ak (Kd.S_elder' (S_ltN eN58 (sd HO477)) (Kd.S_base ho0) hb); replace HB := ak (below_step (belowd HB) hb); (try clear hb); (try clear ho0)))
           (try simp only [Act.put, List.setIfInBounds_toArray, List.set_cons_zero, List.set_cons_succ])
           go_cut [97] (fun v97 wc => ∃ (kq : Nat) (x97_49 : Bool), v97 = .bool x97_49 ∧ Aside0 (laws_FnExactPlayMix.j2 kq t473 t472 x97_49 = some r) ∧ Aside0 (kq ≤ kj30) ∧ Aside0 (Kd.S (Kd.slice 9 Kd.string) 22 wc w.heap.size (fun k_ => N19 ≤ k_ ∧ k_ < N33 ∧ k_ < N55 ∧ k_ < N58) (.slice Ao51 t460.length co51) t473) ∧ Aside0 (Below w.heap.size w wc))
           case first =>
            have H := HC50.out; clear HC50; replace H := bS H; obtain ⟨t482, A59, H⟩ := H
            replace H : (if t482 = true then (laws_FnExactPlayMix.j2 kj30 t473 t472 (t479 != t454)) else (laws_FnExactPlayMix.j2 kj30 t473 t472 true)) = some r := H
            by_cases c60 : t482 = true
            ·subst c60
             have H1 : (laws_FnExactPlayMix.j2 kj30 t473 t472 (t479 != t454)) = some r := by rw [if_pos rfl] at H; exact H
             clear H
             have H := H1
             clear H1
             have H' := Aside0.mk H
             clear H
             obtain ⟨Ao61, co61, eo61⟩ := Kd.S_slice HO481.out
             subst eo61
             obtain ⟨Ao62, co62, eo62⟩ := Kd.S_slice HO_8.out
             subst eo62
             go_wp2_with (first | ((with_reducible refine gate_callee (f := 24) rfl ?_); refine goesLa (some 91) rfl Try.func24 #[.slice Ao61 t478.length co61, .slice Ao62 t453.length co62] rfl ?_; (with_reducible refine (laws_eqStringSS.calls kj30 _ _ t478 _ _ t453 true _ ?side1 ?side2 ?side3 ?side4 A59.out).mono ?_); (case side1 => exact cd (Kd.S_reads' HO481.out).2.2); (case side2 => exact (Kd.S_reads' HO481.out).2.1); (case side3 => exact cd (Kd.S_reads' HO_8.out).2.2); (case side4 => exact (Kd.S_reads' HO_8.out).2.1); rintro e w' ⟨rfl, ⟨nd, rfl⟩⟩; refine ⟨_, rfl, ?_⟩))
             go_meet
             case rel => exact ⟨_, ((t479 != t454)), er, H', ⟨by have := HJ9.out; have := HJ30.out; first | omega | exact Nat.le_refl _⟩, ⟨by (with_reducible repeat (first | apply Kd.S_alloc | apply Kd.S_drewN | apply Kd.S_drew)); exact Kd.S_mono HO_11.out (fun _ hk => ⟨hk.1.1.1.1.2.1, ⟨hk.1.1.1.1.2.2, ⟨hk.1.1.1.2, hk.1.2⟩⟩⟩)⟩, ⟨belowd HB⟩⟩
            ·replace c60 := Bool.eq_false_iff.mpr c60
             subst c60
             have H1 : (laws_FnExactPlayMix.j2 kj30 t473 t472 true) = some r := by rw [if_neg (show ¬ (false = true) by decide)] at H; exact H
             clear H
             have H := H1
             clear H1
             have H' := Aside0.mk H
             clear H
             obtain ⟨Ao63, co63, eo63⟩ := Kd.S_slice HO481.out
             subst eo63
             obtain ⟨Ao64, co64, eo64⟩ := Kd.S_slice HO_8.out
             subst eo64
             go_wp2_with (first | ((with_reducible refine gate_callee (f := 24) rfl ?_); refine goesLa (some 91) rfl Try.func24 #[.slice Ao63 t478.length co63, .slice Ao64 t453.length co64] rfl ?_; (with_reducible refine (laws_eqStringSS.calls kj30 _ _ t478 _ _ t453 false _ ?side1 ?side2 ?side3 ?side4 A59.out).mono ?_); (case side1 => exact cd (Kd.S_reads' HO481.out).2.2); (case side2 => exact (Kd.S_reads' HO481.out).2.1); (case side3 => exact cd (Kd.S_reads' HO_8.out).2.2); (case side4 => exact (Kd.S_reads' HO_8.out).2.1); rintro e w' ⟨rfl, ⟨nd, rfl⟩⟩; refine ⟨_, rfl, ?_⟩))
             go_meet
             case rel => exact ⟨_, (true), er, H', ⟨by have := HJ9.out; have := HJ30.out; first | omega | exact Nat.le_refl _⟩, ⟨by (with_reducible repeat (first | apply Kd.S_alloc | apply Kd.S_drewN | apply Kd.S_drew)); exact Kd.S_mono HO_11.out (fun _ hk => ⟨hk.1.1.1.1.2.1, ⟨hk.1.1.1.1.2.2, ⟨hk.1.1.1.2, hk.1.2⟩⟩⟩)⟩, ⟨belowd HB⟩⟩
           case rest =>
            clear HC50; (try clear c2); (try clear c43); (try clear c46b0); (try clear c47b0); (try clear c47b1)
            obtain ⟨kq, x97_49, rfl, HA, HJ49, HO_11, HB⟩ := hcut
            have hl11_49 := (Kd.S_reads' HO_11.out).1
            rw [hl11_49] at HO_11
            (try simp only [hl11_49])
            cases kq with
            | zero => exact absurd HA.out (by simp [laws_FnExactPlayMix.j2])
            | succ kj49 =>
             have H := HA.out; clear HA
             simp only [laws_FnExactPlayMix.j2] at H
             by_cases c65 : x97_49 = true
             ·subst c65
              have H1 : (some false) = some r := by rw [if_pos rfl] at H; exact H
              clear H
              have H := H1
              clear H1
              exact absurd (H.trans (congrArg some hr_)) (by simp)
             ·replace c65 := Bool.eq_false_iff.mpr c65
              subst c65
              have H1 : ((laws_heldStringSS.f kj49 t473 1).bind fun t483 => (if t483 < 0 then (some false) else (if t483 = t472 then (some true) else (some false)))) = some r := by rw [if_neg (show ¬ (false = true) by decide)] at H; exact H
              clear H
              have H := H1
              clear H1; replace H := bS H; obtain ⟨t483, A66, H⟩ := H
              replace H : (if t483 < 0 then (some false) else (if t483 = t472 then (some true) else (some false))) = some r := H
              by_cases c67 : t483 < 0
              ·rw [if_pos c67] at H
               have c67b0 : decide (t483 < 0) = true := decide_eq_true c67
               clear c67
               exact absurd (H.trans (congrArg some hr_)) (by simp)
              ·rw [if_neg c67] at H
               have c67b0 : decide (t483 < 0) = false := decide_eq_false c67
               clear c67
               by_cases c68 : t483 = t472
               ·rw [if_pos c68] at H
                have c68b0 : (t483 == t472) = true := beq_iff_eq.mpr c68
                have c68b1 : (t483 != t472) = false := bne_eq_false_iff_eq.mpr c68
                clear c68
                obtain rfl := Option.some.inj H
                go_wp2_with (first | ((with_reducible refine gate_callee (f := 26) rfl ?_); refine goesLa (some 100) rfl Try.func26 #[.slice Ao51 t473.length co51, .int .i64 1] rfl ?_; (with_reducible refine (laws_heldStringSS.calls kj49 _ _ t473 1 t483 _ ?side1 ?side2 A66.out).mono ?_); (case side1 => exact cd (Kd.S_reads' HO_11.out).2.2); (case side2 => exact (Kd.S_reads' HO_11.out).2.1); rintro e w69 ⟨rfl, hb⟩; refine ⟨_, rfl, ?_⟩; replace HO_11 := ak (Kd.S_below (sd HO_11) hb); replace HB := ak (below_step (belowd HB) hb); (try clear hb)))
                go_ret
                exact ⟨er2, belowd HB⟩
               ·rw [if_neg c68] at H
                have c68b0 : (t483 == t472) = false := beq_eq_false_iff_ne.mpr c68
                have c68b1 : (t483 != t472) = true := bne_iff_ne.mpr c68
                exact absurd (H.trans (congrArg some hr_)) (by simp)
          ·rw [if_neg c47] at H
           have c47b0 : (t474 == t472) = false := beq_eq_false_iff_ne.mpr c47
           have c47b1 : (t474 != t472) = true := bne_iff_ne.mpr c47
           exact absurd (H.trans (congrArg some hr_)) (by simp)
     ·replace c29 := Bool.eq_false_iff.mpr c29
      subst c29
      have H1 : (some false) = some r := by rw [if_neg (show ¬ (false = true) by decide)] at H; exact H
      clear H
      have H := H1
      clear H1
      exact absurd (H.trans (congrArg some hr_)) (by simp)

/-- THE ONE PURE STATEMENT of laws_FnExactPlayMix. -/
def laws_FnExactPlayMix.Pure : Prop := ∀ (a0 : Int) (a1 : Int) (l2 : List (List ByteArray)), (Lit.int .i64 a0).wf = true → (Lit.int .i64 a1).wf = true → (l2.length ≤ maxLen ∧ ∀ y ∈ l2, (y.length ≤ maxLen ∧ ∀ y_ ∈ y, y_.size ≤ maxLen)) → ∃ k, laws_FnExactPlayMix.f k a0 a1 l2 = some true
theorem laws_FnExactPlayMix.walk (P : laws_FnExactPlayMix.Pure) (a0 : Int) (a1 : Int) (A2 : Option Addr) (c2 : Nat) (l2 : List (List ByteArray)) (w : World) (hr2 : Kd.C (Kd.slice 9 Kd.string) w A2 l2.length l2) (hc2 : l2.length ≤ c2) (g0 : (Lit.int .i64 a0).wf = true) (g1 : (Lit.int .i64 a1).wf = true) (g2 : (l2.length ≤ maxLen ∧ ∀ y ∈ l2, (y.length ≤ maxLen ∧ ∀ y_ ∈ y, y_.size ≤ maxLen))) :
  Calls Try.prog 4 #[.int .i64 a0, .int .i64 a1, .slice A2 l2.length c2] w fun e w' => e = .returned (.bool true) ∧ Below w.heap.size w w' := by
 obtain ⟨k, h⟩ := P a0 a1 l2 g0 g1 g2
 refine (laws_FnExactPlayMix.calls k a0 a1 _ _ l2 true w hr2 hc2 h rfl).mono ?_
 rintro e w' ⟨rfl, hd⟩
 exact ⟨rfl, hd⟩

end Go.Proofs.Ytkgogglnipdcfaa.QFnExactPlayMix
