-- printed by this session's own program (wip/tools/pp.py: the kit's print.py with changes); Lean checks it
import Derived.Test.YtihekdlcfohkkaaGreatDoorQFnExactSettleNetx0
import Derived.Test.YtihekdlcfohkkaaGreatDoorQFnExactSettleNetx1
import Derived.Test.YtihekdlcfohkkaaGreatDoorQFnExactSettleNetx2
import Derived.Test.YtihekdlcfohkkaaGreatDoorQFnExactSettleNetx4
import Derived.Test.YtihekdlcfohkkaaGreatDoorQFnExactSettleNetx7
import Derived.Test.YtihekdlcfohkkaaGreatDoorQFnExactSettleNetx8
namespace Go.Proofs.YtihekdlcfohkkaaGreatDoor.QFnExactSettleNet
open Go.RowKit Go.Proofs.YtihekdlcfohkkaaGreatDoorW.PrintWords Go.Proofs.YtihekdlcfohkkaaGreatDoorW.PrintLast Go.Proofs.YtihekdlcfohkkaaGreatDoorW.PrintMore
attribute [local go_sem] max2_int min2_int max_two min_two max_three min_three max_four min_four strLss strGtr strLeq strGeq   -- for this text's walks alone
set_option linter.unusedVariables false
set_option linter.unusedSimpArgs false

/-! ### laws_heldStringS: function 95 -/
def laws_heldStringS.l0 : Nat → List ByteArray → Int → Int → Option (Int)
  | 0, _, _, _ => none
  | k + 1, x0, x1, x5 => if x5 < (x0.length : Int) then (if 0 ≤ x5 then ((laws_markText.f k x1).bind fun t310 => (if (rdOf ByteArray.empty x0 x5).toList = t310.toList then (laws_heldStringS.l0 k x0 (wrap64 (x1 + 1)) (wrap64 (x5 + 1))) else (some (-1)))) else (none)) else (some x1)
def laws_heldStringS.f (k : Nat) (l0 : List ByteArray) (a1 : Int) : Option (Int) := laws_heldStringS.l0 k l0 a1 0
theorem laws_heldStringS.mono_l : ∀ k, (∀ y0 y1 y2, LeO (laws_heldStringS.l0 k y0 y1 y2) (laws_heldStringS.l0 (k + 1) y0 y1 y2))
 | 0 => fun _ _ _ r h => by simp [laws_heldStringS.l0] at h
 | k + 1 => by
  have ih0 := laws_heldStringS.mono_l k
  ·intro y0 y1 y2
   unfold laws_heldStringS.l0
   repeat' (first | (with_reducible first | exact ih0 _ _ _ | exact laws_markText.mono _ _ | exact LeO.refl _ | exact LeO.none _ | refine LeO.ite ?_ ?_ | refine LeO.bind ?_ (fun _ => ?_)) | exact ih0 _ _ _ | exact laws_markText.mono _ _ | exact LeO.none _ | refine LeO.ite ?_ ?_ | refine LeO.bind ?_ (fun _ => ?_))
theorem laws_heldStringS.mono : ∀ a0 a1 k, LeO (laws_heldStringS.f k a0 a1) (laws_heldStringS.f (k + 1) a0 a1) := by
 intro a0 a1 k
 have ih0 := laws_heldStringS.mono_l k
 unfold laws_heldStringS.f
 repeat' (first | (with_reducible first | exact ih0 _ _ _ | exact laws_markText.mono _ _ | exact LeO.refl _ | exact LeO.none _ | refine LeO.ite ?_ ?_ | refine LeO.bind ?_ (fun _ => ?_)) | exact ih0 _ _ _ | exact laws_markText.mono _ _ | exact LeO.none _ | refine LeO.ite ?_ ?_ | refine LeO.bind ?_ (fun _ => ?_))
set_option maxHeartbeats 8000000 in
set_option maxRecDepth 100000 in
theorem laws_heldStringS.calls (k : Nat) (A0 : Option Addr) (c0 : Nat) (l0 : List ByteArray) (a1 : Int) (r : Int) (w : World) (hr0 : Kd.C Kd.string w A0 l0.length l0) (hc0 : l0.length ≤ c0) (h : laws_heldStringS.f k l0 a1 = some r) :
  Calls Tryz.prog 95 #[.slice A0 l0.length c0, .int .i64 a1] w fun e w' => e = .returned (.int .i64 r) ∧ Below w.heap.size w w' := by
 have HR0 := Aside0.mk hr0; have HC0 := Aside0.mk hc0; clear hr0 hc0
 have HB := Aside0.mk (Below.refl w.heap.size w)
 have H : (laws_heldStringS.l0 k l0 a1 0) = some r := h
 clear h
 have H' := Aside0.mk H
 clear H
 go_enter Tryz.func95, Tryz.ntmps95
 go_wp2
 go_loopg [1, 5] k (fun kq v1 v5 w' => ∃ (x1_1 : Int) (x5_1 : Int), v1 = .int .i64 x1_1 ∧ v5 = .int .i64 x5_1 ∧ Aside0 (laws_heldStringS.l0 kq l0 x1_1 x5_1 = some r) ∧ Aside0 (kq ≤ k) ∧ Aside0 (Below w.heap.size w w'))
 case atStart => exact ⟨(a1), (0), er, er, H', ⟨Nat.le_refl _⟩, ⟨belowd HB⟩⟩
 case round =>
  clear H'
  obtain ⟨x1_1, x5_1, rfl, rfl, HA, HK1, HB⟩ := hrel
  cases gk with
  | zero => exact absurd HA.out (by simp [laws_heldStringS.l0])
  | succ k1 =>
   have H := HA.out; clear HA
   simp only [laws_heldStringS.l0] at H
   by_cases c3 : x5_1 < (l0.length : Int)
   ·rw [if_pos c3] at H
    have c3b0 : decide (x5_1 < (l0.length : Int)) = true := decide_eq_true c3
    clear c3; replace H := ifS H; obtain ⟨c4, H⟩ := H; have c4b0 := decide_eq_true c4; clear c4; replace H := bS H; obtain ⟨t310, A5, H⟩ := H
    replace H : (if (rdOf ByteArray.empty l0 x5_1).toList = t310.toList then (laws_heldStringS.l0 k1 l0 (wrap64 (x1_1 + 1)) (wrap64 (x5_1 + 1))) else (some (-1))) = some r := H
    by_cases c6 : (rdOf ByteArray.empty l0 x5_1).toList = t310.toList
    ·rw [if_pos c6] at H
     have c6b0 : ((rdOf ByteArray.empty l0 x5_1).toList == t310.toList) = true := beq_iff_eq.mpr c6
     have c6b1 : ((rdOf ByteArray.empty l0 x5_1).toList != t310.toList) = false := bne_eq_false_iff_eq.mpr c6
     clear c6
     have H' := Aside0.mk H
     clear H
     try go_wp2
     replace HB := ak (below_drew1 HB.out)
     have p309 : 0 ≤ (x5_1 : Int) := da
     have q309 : x5_1 < (l0.length : Int) := da
     obtain ⟨ad309, e309, hx309_0⟩ := Kd.at_string HR0.out x5_1 p309 q309
     have hw309_0 := hx309_0
     cases e309
     replace hx309_0 := (HB.out.cell (World.block_lt_of_cell? w _ hx309_0)).trans hx309_0
     replace p309 := eq_true p309; replace q309 := eq_true q309
     refine start_ (n := 7) (S := fun w' => w'.cell? (ad309.add (x5_1).toNat) = some (.string (rdOf ByteArray.empty l0 x5_1))) (ds := []) (bl 7 0) (by kernel_rfl) rfl rfl (((HB.out.cell (World.block_lt_of_cell? w _ hw309_0)).trans hw309_0)) (fun hHeld => ?_)
     generalize wr.drew = w7 at HB hx309_0 hHeld ⊢
     refine pure_ (i := 0) (N := some 12) (v := ?_) (a' := ?_) (bl 7 1) rfl rfl (by kernel_rfl) (fun _ _ _ h => h) (Or.inl ⟨by rfl, ?_⟩) ?_ ?_
     rotate_left
     ·intro w'
      go_simp
      with_reducible rfl
     rotate_left
     ·simp only [Act.put, List.setIfInBounds_toArray, List.set_cons_zero, List.set_cons_succ, i64_w, i32_w]
      rfl
     refine pure_ (i := 1) (N := some 13) (v := ?_) (a' := ?_) (bl 7 3) rfl rfl (by kernel_rfl) (fun _ _ _ h => h) (Or.inl ⟨by rfl, ?_⟩) ?_ ?_
     rotate_left
     ·intro w'
      go_simp
      with_reducible rfl
     rotate_left
     ·simp only [Act.put, List.setIfInBounds_toArray, List.set_cons_zero, List.set_cons_succ, i64_w, i32_w]
      rfl
     refine pure_ (i := 2) (N := some 14) (v := ?_) (a' := ?_) (bl 7 7) rfl rfl (by kernel_rfl) (fun _ _ _ h => h) (Or.inl ⟨by rfl, ?_⟩) ?_ ?_
     rotate_left
     ·intro w'
      go_simp
      with_reducible rfl
     rotate_left
     ·simp only [Act.put, List.setIfInBounds_toArray, List.set_cons_zero, List.set_cons_succ, i64_w, i32_w]
      rfl
     refine pure_ (i := 4) (N := some 16) (v := ?_) (a' := ?_) (bl 7 23) rfl rfl (by kernel_rfl) (fun _ _ _ h => h) (Or.inl ⟨by rfl, ?_⟩) ?_ ?_
     rotate_left
     ·intro w'
      go_simp
      with_reducible rfl
     rotate_left
     ·simp only [Act.put, List.setIfInBounds_toArray, List.set_cons_zero, List.set_cons_succ, i64_w, i32_w]
      rfl
     refine take_ (i := 3) (N := some 15) (v := ?_) (a' := ?_) (bl 7 31) rfl rfl (by kernel_rfl) (fun _ _ _ h => h) (Or.inl ⟨by rfl, ?_⟩) hHeld ?_ ?_
     rotate_left
     ·intro w' s0
      go_simp
      with_reducible rfl
     rotate_left
     ·simp only [Act.put, List.setIfInBounds_toArray, List.set_cons_zero, List.set_cons_succ, i64_w, i32_w]
      rfl
     refine one_ (i := 5) (N := some 17) (bl 7 63) rfl rfl (by kernel_rfl) (by decide) (fun K hK => ?_)
     refine goes_ Tryz.func64 (by kernel_rfl) rfl #[.int .i64 x1_1] (by rfl) rfl rfl (by (try simp only [List.map_toArray, List.map_cons, List.map_nil]); first | done | rfl | (simp only [List.length_drop, List.length_take]; rfl)) ?_
     with_reducible refine (laws_markText.calls k1 x1_1 t310 _ A5.out).mono ?_
     rintro e w8 ⟨rfl, hb⟩
     refine ⟨_, rfl, ?_⟩
     replace HB := ak (below_step (belowd HB) hb)
     (try clear hb); (try clear hb2); (try clear hk); (try clear hi)
     refine hK.out _ _ (((HB.out.cell (World.block_lt_of_cell? w _ hw309_0)).trans hw309_0)) (fun hHeld => ?_)
     clear hK K
     refine norm_ (a' := ?_) ?_ ?_
     rotate_left
     ·show Act.put _ (some 17) _ = _
      simp only [Act.put, List.setIfInBounds_toArray, List.set_cons_zero, List.set_cons_succ, i64_w, i32_w]
      rfl
     refine pure_ (i := 6) (N := some 18) (v := ?_) (a' := ?_) (bl 7 127) rfl rfl (by kernel_rfl) (fun _ _ _ h => h) (Or.inl ⟨by rfl, ?_⟩) ?_ ?_
     rotate_left
     ·intro w'
      go_simp
      with_reducible rfl
     rotate_left
     ·simp only [Act.put, List.setIfInBounds_toArray, List.set_cons_zero, List.set_cons_succ, i64_w, i32_w]
      rfl
     refine done_ (by kernel_rfl) ?_
     try go_wp2
     go_roundg k1
     case measure => have := HK1.out; omega
     case rel => exact ⟨(wrap64 (x1_1 + 1)), (wrap64 (x5_1 + 1)), er, er, H', ⟨by have := HK1.out; omega⟩, ⟨belowd HB⟩⟩
    ·rw [if_neg c6] at H
     have c6b0 : ((rdOf ByteArray.empty l0 x5_1).toList == t310.toList) = false := beq_eq_false_iff_ne.mpr c6
     have c6b1 : ((rdOf ByteArray.empty l0 x5_1).toList != t310.toList) = true := bne_iff_ne.mpr c6
     obtain rfl := Option.some.inj H
     try go_wp2
     replace HB := ak (below_drew1 HB.out)
     have p309 : 0 ≤ (x5_1 : Int) := da
     have q309 : x5_1 < (l0.length : Int) := da
     obtain ⟨ad309, e309, hx309_0⟩ := Kd.at_string HR0.out x5_1 p309 q309
     have hw309_0 := hx309_0
     cases e309
     replace hx309_0 := (HB.out.cell (World.block_lt_of_cell? w _ hx309_0)).trans hx309_0
     replace p309 := eq_true p309; replace q309 := eq_true q309
     refine start_ (n := 7) (S := fun w' => w'.cell? (ad309.add (x5_1).toNat) = some (.string (rdOf ByteArray.empty l0 x5_1))) (ds := []) (bl 7 0) (by kernel_rfl) rfl rfl (((HB.out.cell (World.block_lt_of_cell? w _ hw309_0)).trans hw309_0)) (fun hHeld => ?_)
     generalize wr.drew = w9 at HB hx309_0 hHeld ⊢
     refine pure_ (i := 0) (N := some 12) (v := ?_) (a' := ?_) (bl 7 1) rfl rfl (by kernel_rfl) (fun _ _ _ h => h) (Or.inl ⟨by rfl, ?_⟩) ?_ ?_
     rotate_left
     ·intro w'
      go_simp
      with_reducible rfl
     rotate_left
     ·simp only [Act.put, List.setIfInBounds_toArray, List.set_cons_zero, List.set_cons_succ, i64_w, i32_w]
      rfl
     refine pure_ (i := 1) (N := some 13) (v := ?_) (a' := ?_) (bl 7 3) rfl rfl (by kernel_rfl) (fun _ _ _ h => h) (Or.inl ⟨by rfl, ?_⟩) ?_ ?_
     rotate_left
     ·intro w'
      go_simp
      with_reducible rfl
     rotate_left
     ·simp only [Act.put, List.setIfInBounds_toArray, List.set_cons_zero, List.set_cons_succ, i64_w, i32_w]
      rfl
     refine pure_ (i := 2) (N := some 14) (v := ?_) (a' := ?_) (bl 7 7) rfl rfl (by kernel_rfl) (fun _ _ _ h => h) (Or.inl ⟨by rfl, ?_⟩) ?_ ?_
     rotate_left
     ·intro w'
      go_simp
      with_reducible rfl
     rotate_left
     ·simp only [Act.put, List.setIfInBounds_toArray, List.set_cons_zero, List.set_cons_succ, i64_w, i32_w]
      rfl
     refine pure_ (i := 4) (N := some 16) (v := ?_) (a' := ?_) (bl 7 23) rfl rfl (by kernel_rfl) (fun _ _ _ h => h) (Or.inl ⟨by rfl, ?_⟩) ?_ ?_
     rotate_left
     ·intro w'
      go_simp
      with_reducible rfl
     rotate_left
     ·simp only [Act.put, List.setIfInBounds_toArray, List.set_cons_zero, List.set_cons_succ, i64_w, i32_w]
      rfl
     refine take_ (i := 3) (N := some 15) (v := ?_) (a' := ?_) (bl 7 31) rfl rfl (by kernel_rfl) (fun _ _ _ h => h) (Or.inl ⟨by rfl, ?_⟩) hHeld ?_ ?_
     rotate_left
     ·intro w' s0
      go_simp
      with_reducible rfl
     rotate_left
     ·simp only [Act.put, List.setIfInBounds_toArray, List.set_cons_zero, List.set_cons_succ, i64_w, i32_w]
      rfl
     refine one_ (i := 5) (N := some 17) (bl 7 63) rfl rfl (by kernel_rfl) (by decide) (fun K hK => ?_)
     refine goes_ Tryz.func64 (by kernel_rfl) rfl #[.int .i64 x1_1] (by rfl) rfl rfl (by (try simp only [List.map_toArray, List.map_cons, List.map_nil]); first | done | rfl | (simp only [List.length_drop, List.length_take]; rfl)) ?_
     with_reducible refine (laws_markText.calls k1 x1_1 t310 _ A5.out).mono ?_
     rintro e w10 ⟨rfl, hb⟩
     refine ⟨_, rfl, ?_⟩
     replace HB := ak (below_step (belowd HB) hb)
     (try clear hb); (try clear hb2); (try clear hk); (try clear hi)
     refine hK.out _ _ (((HB.out.cell (World.block_lt_of_cell? w _ hw309_0)).trans hw309_0)) (fun hHeld => ?_)
     clear hK K
     refine norm_ (a' := ?_) ?_ ?_
     rotate_left
     ·show Act.put _ (some 17) _ = _
      simp only [Act.put, List.setIfInBounds_toArray, List.set_cons_zero, List.set_cons_succ, i64_w, i32_w]
      rfl
     refine pure_ (i := 6) (N := some 18) (v := ?_) (a' := ?_) (bl 7 127) rfl rfl (by kernel_rfl) (fun _ _ _ h => h) (Or.inl ⟨by rfl, ?_⟩) ?_ ?_
     rotate_left
     ·intro w'
      go_simp
      with_reducible rfl
     rotate_left
     ·simp only [Act.put, List.setIfInBounds_toArray, List.set_cons_zero, List.set_cons_succ, i64_w, i32_w]
      rfl
     refine done_ (by kernel_rfl) ?_
     try go_wp2
     go_ret
     exact ⟨er2, belowd HB⟩
   ·rw [if_neg c3] at H
    have c3b0 : decide (x5_1 < (l0.length : Int)) = false := decide_eq_false c3
    clear c3
    obtain rfl := Option.some.inj H
    go_wp2
    go_ret
    exact ⟨er2, belowd HB⟩

/-! ### laws_heldStringSS: function 60 -/
def laws_heldStringSS.l0 : Nat → List (List ByteArray) → Int → Int → Option (Int)
  | 0, _, _, _ => none
  | k + 1, x0, x1, x5 => if x5 < (x0.length : Int) then (if 0 ≤ x5 then ((laws_heldStringS.f k (rd_L2 x0 x5) x1).bind fun t312 => (if t312 < 0 then (some (-1)) else (laws_heldStringSS.l0 k x0 t312 (wrap64 (x5 + 1))))) else (none)) else (some x1)
def laws_heldStringSS.f (k : Nat) (l0 : List (List ByteArray)) (a1 : Int) : Option (Int) := laws_heldStringSS.l0 k l0 a1 0
theorem laws_heldStringSS.mono_l : ∀ k, (∀ y0 y1 y2, LeO (laws_heldStringSS.l0 k y0 y1 y2) (laws_heldStringSS.l0 (k + 1) y0 y1 y2))
 | 0 => fun _ _ _ r h => by simp [laws_heldStringSS.l0] at h
 | k + 1 => by
  have ih0 := laws_heldStringSS.mono_l k
  ·intro y0 y1 y2
   unfold laws_heldStringSS.l0
   repeat' (first | (with_reducible first | exact ih0 _ _ _ | exact laws_heldStringS.mono _ _ _ | exact LeO.refl _ | exact LeO.none _ | refine LeO.ite ?_ ?_ | refine LeO.bind ?_ (fun _ => ?_)) | exact ih0 _ _ _ | exact laws_heldStringS.mono _ _ _ | exact LeO.none _ | refine LeO.ite ?_ ?_ | refine LeO.bind ?_ (fun _ => ?_))
theorem laws_heldStringSS.mono : ∀ a0 a1 k, LeO (laws_heldStringSS.f k a0 a1) (laws_heldStringSS.f (k + 1) a0 a1) := by
 intro a0 a1 k
 have ih0 := laws_heldStringSS.mono_l k
 unfold laws_heldStringSS.f
 repeat' (first | (with_reducible first | exact ih0 _ _ _ | exact laws_heldStringS.mono _ _ _ | exact LeO.refl _ | exact LeO.none _ | refine LeO.ite ?_ ?_ | refine LeO.bind ?_ (fun _ => ?_)) | exact ih0 _ _ _ | exact laws_heldStringS.mono _ _ _ | exact LeO.none _ | refine LeO.ite ?_ ?_ | refine LeO.bind ?_ (fun _ => ?_))
set_option maxHeartbeats 8000000 in
set_option maxRecDepth 100000 in
theorem laws_heldStringSS.calls (k : Nat) (A0 : Option Addr) (c0 : Nat) (l0 : List (List ByteArray)) (a1 : Int) (r : Int) (w : World) (hr0 : Kd.C (Kd.slice 9 Kd.string) w A0 l0.length l0) (hc0 : l0.length ≤ c0) (h : laws_heldStringSS.f k l0 a1 = some r) :
  Calls Tryz.prog 60 #[.slice A0 l0.length c0, .int .i64 a1] w fun e w' => e = .returned (.int .i64 r) ∧ Below w.heap.size w w' := by
 have HR0 := Aside0.mk hr0; have HC0 := Aside0.mk hc0; clear hr0 hc0
 have HB := Aside0.mk (Below.refl w.heap.size w)
 have H : (laws_heldStringSS.l0 k l0 a1 0) = some r := h
 clear h
 have H' := Aside0.mk H
 clear H
 go_enter Tryz.func60, Tryz.ntmps60
 go_wp2
 go_loopg [1, 5] k (fun kq v1 v5 w' => ∃ (x1_1 : Int) (x5_1 : Int), v1 = .int .i64 x1_1 ∧ v5 = .int .i64 x5_1 ∧ Aside0 (laws_heldStringSS.l0 kq l0 x1_1 x5_1 = some r) ∧ Aside0 (kq ≤ k) ∧ Aside0 (Below w.heap.size w w'))
 case atStart => exact ⟨(a1), (0), er, er, H', ⟨Nat.le_refl _⟩, ⟨belowd HB⟩⟩
 case round =>
  clear H'
  obtain ⟨x1_1, x5_1, rfl, rfl, HA, HK1, HB⟩ := hrel
  cases gk with
  | zero => exact absurd HA.out (by simp [laws_heldStringSS.l0])
  | succ k1 =>
   have H := HA.out; clear HA
   simp only [laws_heldStringSS.l0] at H
   by_cases c3 : x5_1 < (l0.length : Int)
   ·rw [if_pos c3] at H
    have c3b0 : decide (x5_1 < (l0.length : Int)) = true := decide_eq_true c3
    clear c3; replace H := ifS H; obtain ⟨c4, H⟩ := H; have c4b0 := decide_eq_true c4; clear c4; replace H := bS H; obtain ⟨t312, A5, H⟩ := H
    replace H : (if t312 < 0 then (some (-1)) else (laws_heldStringSS.l0 k1 l0 t312 (wrap64 (x5_1 + 1)))) = some r := H
    by_cases c6 : t312 < 0
    ·rw [if_pos c6] at H
     have c6b0 : decide (t312 < 0) = true := decide_eq_true c6
     clear c6
     obtain rfl := Option.some.inj H
     have p311 : 0 ≤ (x5_1 : Int) := da
     have q311 : x5_1 < (l0.length : Int) := da
     obtain ⟨ad311, A311_0, c311_0, e311, hx311_0, hl311_0, hi311_0⟩ := at_L2 HR0.out x5_1 p311 q311
     cases e311
     replace hx311_0 := (HB.out.cell (World.block_lt_of_cell? w _ hx311_0)).trans hx311_0
     have HR311_0 := Aside0.mk hi311_0; have HC311_0 := Aside0.mk hl311_0; clear hi311_0 hl311_0; replace p311 := eq_true p311; replace q311 := eq_true q311
     go_wp2_with (first | ((with_reducible refine gate_callee (f := 95) rfl ?_); refine goesLa (some 17) rfl Tryz.func95 #[.slice A311_0 (rd_L2 l0 x5_1).length c311_0, .int .i64 x1_1] rfl ?_; (with_reducible refine (laws_heldStringS.calls k1 _ _ (rd_L2 l0 x5_1) x1_1 t312 _ ?side1 ?side2 A5.out).mono ?_); (case side1 => exact cd (Kd.C_below HR311_0.out HB.out)); (case side2 => exact HC311_0.out); rintro e w7 ⟨rfl, hb⟩; refine ⟨_, rfl, ?_⟩; replace HB := ak (below_step (belowd HB) hb); (try clear hb)))
     go_ret
     exact ⟨er2, belowd HB⟩
    ·rw [if_neg c6] at H
     have c6b0 : decide (t312 < 0) = false := decide_eq_false c6
     clear c6
     have H' := Aside0.mk H
     clear H
     have p311 : 0 ≤ (x5_1 : Int) := da
     have q311 : x5_1 < (l0.length : Int) := da
     obtain ⟨ad311, A311_0, c311_0, e311, hx311_0, hl311_0, hi311_0⟩ := at_L2 HR0.out x5_1 p311 q311
     cases e311
     replace hx311_0 := (HB.out.cell (World.block_lt_of_cell? w _ hx311_0)).trans hx311_0
     have HR311_0 := Aside0.mk hi311_0; have HC311_0 := Aside0.mk hl311_0; clear hi311_0 hl311_0; replace p311 := eq_true p311; replace q311 := eq_true q311
     go_wp2_with (first | ((with_reducible refine gate_callee (f := 95) rfl ?_); refine goesLa (some 17) rfl Tryz.func95 #[.slice A311_0 (rd_L2 l0 x5_1).length c311_0, .int .i64 x1_1] rfl ?_; (with_reducible refine (laws_heldStringS.calls k1 _ _ (rd_L2 l0 x5_1) x1_1 t312 _ ?side1 ?side2 A5.out).mono ?_); (case side1 => exact cd (Kd.C_below HR311_0.out HB.out)); (case side2 => exact HC311_0.out); rintro e w8 ⟨rfl, hb⟩; refine ⟨_, rfl, ?_⟩; replace HB := ak (below_step (belowd HB) hb); (try clear hb)))
     go_roundg k1
     case measure => have := HK1.out; omega
     case rel => exact ⟨(t312), (wrap64 (x5_1 + 1)), er, er, H', ⟨by have := HK1.out; omega⟩, ⟨belowd HB⟩⟩
   ·rw [if_neg c3] at H
    have c3b0 : decide (x5_1 < (l0.length : Int)) = false := decide_eq_false c3
    clear c3
    obtain rfl := Option.some.inj H
    go_wp2
    go_ret
    exact ⟨er2, belowd HB⟩

/-! ### laws_heldNet: function 14 -/
def laws_heldNet.f (k : Nat) (l0_0 : List Int) (l0_1 : List (List ByteArray)) (l0_2 : List (List ByteArray)) (l0_3 : List (List ByteArray)) (a0_4 : Int) (a1 : Int) : Option (Int) := (laws_heldIntS.f k l0_0 a1).bind fun t314 => (if t314 < 0 then (some (-1)) else ((laws_heldStringSS.f k l0_1 t314).bind fun t315 => (if t315 < 0 then (some (-1)) else ((laws_heldStringSS.f k l0_2 t315).bind fun t316 => (if t316 < 0 then (some (-1)) else ((laws_heldStringSS.f k l0_3 t316).bind fun t317 => (if t317 < 0 then (some (-1)) else (some t317))))))))
theorem laws_heldNet.mono : ∀ a0 a1 a2 a3 a4 a5 k, LeO (laws_heldNet.f k a0 a1 a2 a3 a4 a5) (laws_heldNet.f (k + 1) a0 a1 a2 a3 a4 a5) := by
 intro a0 a1 a2 a3 a4 a5 k
 unfold laws_heldNet.f
 repeat' (first | (with_reducible first | exact laws_heldIntS.mono _ _ _ | exact laws_heldStringSS.mono _ _ _ | exact LeO.refl _ | exact LeO.none _ | refine LeO.ite ?_ ?_ | refine LeO.bind ?_ (fun _ => ?_)) | exact laws_heldIntS.mono _ _ _ | exact laws_heldStringSS.mono _ _ _ | exact LeO.none _ | refine LeO.ite ?_ ?_ | refine LeO.bind ?_ (fun _ => ?_))
set_option maxHeartbeats 8000000 in
set_option maxRecDepth 100000 in
theorem laws_heldNet.calls (k : Nat) (A0_0 : Option Addr) (c0_0 : Nat) (l0_0 : List Int) (A0_1 : Option Addr) (c0_1 : Nat) (l0_1 : List (List ByteArray)) (A0_2 : Option Addr) (c0_2 : Nat) (l0_2 : List (List ByteArray)) (A0_3 : Option Addr) (c0_3 : Nat) (l0_3 : List (List ByteArray)) (a0_4 : Int) (a1 : Int) (r : Int) (w : World) (hr0_0 : Kd.C (Kd.int .i64) w A0_0 l0_0.length l0_0) (hc0_0 : l0_0.length ≤ c0_0) (hr0_1 : Kd.C (Kd.slice 9 Kd.string) w A0_1 l0_1.length l0_1) (hc0_1 : l0_1.length ≤ c0_1) (hr0_2 : Kd.C (Kd.slice 9 Kd.string) w A0_2 l0_2.length l0_2) (hc0_2 : l0_2.length ≤ c0_2) (hr0_3 : Kd.C (Kd.slice 9 Kd.string) w A0_3 l0_3.length l0_3) (hc0_3 : l0_3.length ≤ c0_3) (h : laws_heldNet.f k l0_0 l0_1 l0_2 l0_3 a0_4 a1 = some r) :
  Calls Tryz.prog 14 #[.agg #[.slice A0_0 l0_0.length c0_0, .slice A0_1 l0_1.length c0_1, .slice A0_2 l0_2.length c0_2, .slice A0_3 l0_3.length c0_3, .int .i64 a0_4], .int .i64 a1] w fun e w' => e = .returned (.int .i64 r) ∧ Below w.heap.size w w' := by
 have hu27 := Tryz.underlying27
 have HR0_0 := Aside0.mk hr0_0; have HC0_0 := Aside0.mk hc0_0; clear hr0_0 hc0_0; have HR0_1 := Aside0.mk hr0_1; have HC0_1 := Aside0.mk hc0_1; clear hr0_1 hc0_1; have HR0_2 := Aside0.mk hr0_2; have HC0_2 := Aside0.mk hc0_2; clear hr0_2 hc0_2; have HR0_3 := Aside0.mk hr0_3; have HC0_3 := Aside0.mk hc0_3; clear hr0_3 hc0_3
 have HB := Aside0.mk (Below.refl w.heap.size w)
 have H : ((laws_heldIntS.f k l0_0 a1).bind fun t314 => (if t314 < 0 then (some (-1)) else ((laws_heldStringSS.f k l0_1 t314).bind fun t315 => (if t315 < 0 then (some (-1)) else ((laws_heldStringSS.f k l0_2 t315).bind fun t316 => (if t316 < 0 then (some (-1)) else ((laws_heldStringSS.f k l0_3 t316).bind fun t317 => (if t317 < 0 then (some (-1)) else (some t317))))))))) = some r := h
 clear h; replace H := bS H; obtain ⟨t314, A3, H⟩ := H
 replace H : (if t314 < 0 then (some (-1)) else ((laws_heldStringSS.f k l0_1 t314).bind fun t315 => (if t315 < 0 then (some (-1)) else ((laws_heldStringSS.f k l0_2 t315).bind fun t316 => (if t316 < 0 then (some (-1)) else ((laws_heldStringSS.f k l0_3 t316).bind fun t317 => (if t317 < 0 then (some (-1)) else (some t317)))))))) = some r := H
 by_cases c4 : t314 < 0
 ·rw [if_pos c4] at H
  have c4b0 : decide (t314 < 0) = true := decide_eq_true c4
  clear c4
  obtain rfl := Option.some.inj H
  go_enter Tryz.func14, Tryz.ntmps14
  go_wp2_with (first | ((with_reducible refine gate_dst (N := 2) rfl ?_); refine boxev 2 #[.slice A0_0 l0_0.length c0_0, .slice A0_1 l0_1.length c0_1, .slice A0_2 l0_2.length c0_2, .slice A0_3 l0_3.length c0_3, .int .i64 a0_4] 27 ?_; intro gb313 hg w5 hbox hb; have BK313 := ak (hbox); have GW313 := ak (hgl hg (belowd HB)); have GE313 := ak (hgl hg (belowd HB)); replace HB := ak (below_step (belowd HB) hb); clear hb hbox hg; obtain ⟨hcz6_0, hcz6_1, hcz6_2, hcz6_3, hcz6_4, hfz6_0, hfz6_1, hfz6_2, hfz6_3, hfz6_4⟩ := box5 BK313) | ((with_reducible refine gate_callee (f := 59) rfl ?_); refine goesLa (some 8) rfl Tryz.func59 #[.slice A0_0 l0_0.length c0_0, .int .i64 a1] rfl ?_; (with_reducible refine (laws_heldIntS.calls k _ _ l0_0 a1 t314 _ ?side1 ?side2 A3.out).mono ?_); (case side1 => exact cd (Kd.C_below HR0_0.out HB.out)); (case side2 => exact HC0_0.out); rintro e w' ⟨rfl, ⟨nd, rfl⟩⟩; refine ⟨_, rfl, ?_⟩))
  go_ret
  exact ⟨er2, belowg1 HB GE313⟩
 ·rw [if_neg c4] at H
  have c4b0 : decide (t314 < 0) = false := decide_eq_false c4
  clear c4; replace H := bS H; obtain ⟨t315, A7, H⟩ := H
  replace H : (if t315 < 0 then (some (-1)) else ((laws_heldStringSS.f k l0_2 t315).bind fun t316 => (if t316 < 0 then (some (-1)) else ((laws_heldStringSS.f k l0_3 t316).bind fun t317 => (if t317 < 0 then (some (-1)) else (some t317)))))) = some r := H
  by_cases c8 : t315 < 0
  ·rw [if_pos c8] at H
   have c8b0 : decide (t315 < 0) = true := decide_eq_true c8
   clear c8
   obtain rfl := Option.some.inj H
   go_enter Tryz.func14, Tryz.ntmps14
   go_wp2_with (first | ((with_reducible refine gate_dst (N := 2) rfl ?_); refine boxev 2 #[.slice A0_0 l0_0.length c0_0, .slice A0_1 l0_1.length c0_1, .slice A0_2 l0_2.length c0_2, .slice A0_3 l0_3.length c0_3, .int .i64 a0_4] 27 ?_; intro gb313 hg w9 hbox hb; have BK313 := ak (hbox); have GW313 := ak (hgl hg (belowd HB)); have GE313 := ak (hgl hg (belowd HB)); replace HB := ak (below_step (belowd HB) hb); clear hb hbox hg; obtain ⟨hcz10_0, hcz10_1, hcz10_2, hcz10_3, hcz10_4, hfz10_0, hfz10_1, hfz10_2, hfz10_3, hfz10_4⟩ := box5 BK313) | ((with_reducible refine gate_callee (f := 59) rfl ?_); refine goesLa (some 8) rfl Tryz.func59 #[.slice A0_0 l0_0.length c0_0, .int .i64 a1] rfl ?_; (with_reducible refine (laws_heldIntS.calls k _ _ l0_0 a1 t314 _ ?side1 ?side2 A3.out).mono ?_); (case side1 => exact cd (Kd.C_below HR0_0.out HB.out)); (case side2 => exact HC0_0.out); rintro e w' ⟨rfl, ⟨nd, rfl⟩⟩; refine ⟨_, rfl, ?_⟩) | ((with_reducible refine gate_callee (f := 60) rfl ?_); refine goesLa (some 14) rfl Tryz.func60 #[.slice A0_1 l0_1.length c0_1, .int .i64 t314] rfl ?_; (with_reducible refine (laws_heldStringSS.calls k _ _ l0_1 t314 t315 _ ?side1 ?side2 A7.out).mono ?_); (case side1 => exact cd (Kd.C_below HR0_1.out (belowg1 HB GE313))); (case side2 => exact HC0_1.out); rintro e w11 ⟨rfl, hb⟩; refine ⟨_, rfl, ?_⟩; replace BK313 := ak (blk_below (blkd BK313) hb); replace HB := ak (below_step (belowg1 HB GE313) hb); (try clear hb)))
   go_ret
   exact ⟨er2, belowg1 HB GE313⟩
  ·rw [if_neg c8] at H
   have c8b0 : decide (t315 < 0) = false := decide_eq_false c8
   clear c8; replace H := bS H; obtain ⟨t316, A12, H⟩ := H
   replace H : (if t316 < 0 then (some (-1)) else ((laws_heldStringSS.f k l0_3 t316).bind fun t317 => (if t317 < 0 then (some (-1)) else (some t317)))) = some r := H
   by_cases c13 : t316 < 0
   ·rw [if_pos c13] at H
    have c13b0 : decide (t316 < 0) = true := decide_eq_true c13
    clear c13
    obtain rfl := Option.some.inj H
    go_enter Tryz.func14, Tryz.ntmps14
    go_wp2_with (first | ((with_reducible refine gate_dst (N := 2) rfl ?_); refine boxev 2 #[.slice A0_0 l0_0.length c0_0, .slice A0_1 l0_1.length c0_1, .slice A0_2 l0_2.length c0_2, .slice A0_3 l0_3.length c0_3, .int .i64 a0_4] 27 ?_; intro gb313 hg w14 hbox hb; have BK313 := ak (hbox); have GW313 := ak (hgl hg (belowd HB)); have GE313 := ak (hgl hg (belowd HB)); replace HB := ak (below_step (belowd HB) hb); clear hb hbox hg; obtain ⟨hcz15_0, hcz15_1, hcz15_2, hcz15_3, hcz15_4, hfz15_0, hfz15_1, hfz15_2, hfz15_3, hfz15_4⟩ := box5 BK313) | ((with_reducible refine gate_callee (f := 59) rfl ?_); refine goesLa (some 8) rfl Tryz.func59 #[.slice A0_0 l0_0.length c0_0, .int .i64 a1] rfl ?_; (with_reducible refine (laws_heldIntS.calls k _ _ l0_0 a1 t314 _ ?side1 ?side2 A3.out).mono ?_); (case side1 => exact cd (Kd.C_below HR0_0.out HB.out)); (case side2 => exact HC0_0.out); rintro e w' ⟨rfl, ⟨nd, rfl⟩⟩; refine ⟨_, rfl, ?_⟩) | ((with_reducible refine gate_callee (f := 60) rfl ?_); refine goesLa (some 14) rfl Tryz.func60 #[.slice A0_1 l0_1.length c0_1, .int .i64 t314] rfl ?_; (with_reducible refine (laws_heldStringSS.calls k _ _ l0_1 t314 t315 _ ?side1 ?side2 A7.out).mono ?_); (case side1 => exact cd (Kd.C_below HR0_1.out (belowg1 HB GE313))); (case side2 => exact HC0_1.out); rintro e w16 ⟨rfl, hb⟩; refine ⟨_, rfl, ?_⟩; replace BK313 := ak (blk_below (blkd BK313) hb); replace HB := ak (below_step (belowg1 HB GE313) hb); (try clear hb); obtain ⟨hcz17_0, hcz17_1, hcz17_2, hcz17_3, hcz17_4, hfz17_0, hfz17_1, hfz17_2, hfz17_3, hfz17_4⟩ := box5 BK313) | ((with_reducible refine gate_callee (f := 60) rfl ?_); refine goesLa (some 20) rfl Tryz.func60 #[.slice A0_2 l0_2.length c0_2, .int .i64 t315] rfl ?_; (with_reducible refine (laws_heldStringSS.calls k _ _ l0_2 t315 t316 _ ?side1 ?side2 A12.out).mono ?_); (case side1 => exact cd (Kd.C_below HR0_2.out HB.out)); (case side2 => exact HC0_2.out); rintro e w18 ⟨rfl, hb⟩; refine ⟨_, rfl, ?_⟩; replace BK313 := ak (blk_below (blkd BK313) hb); replace HB := ak (below_step (belowg1 HB GE313) hb); (try clear hb)))
    go_ret
    exact ⟨er2, belowg1 HB GE313⟩
   ·rw [if_neg c13] at H
    have c13b0 : decide (t316 < 0) = false := decide_eq_false c13
    clear c13; replace H := bS H; obtain ⟨t317, A19, H⟩ := H
    replace H : (if t317 < 0 then (some (-1)) else (some t317)) = some r := H
    by_cases c20 : t317 < 0
    ·rw [if_pos c20] at H
     have c20b0 : decide (t317 < 0) = true := decide_eq_true c20
     clear c20
     obtain rfl := Option.some.inj H
     go_enter Tryz.func14, Tryz.ntmps14
     go_wp2_with (first | ((with_reducible refine gate_dst (N := 2) rfl ?_); refine boxev 2 #[.slice A0_0 l0_0.length c0_0, .slice A0_1 l0_1.length c0_1, .slice A0_2 l0_2.length c0_2, .slice A0_3 l0_3.length c0_3, .int .i64 a0_4] 27 ?_; intro gb313 hg w21 hbox hb; have BK313 := ak (hbox); have GW313 := ak (hgl hg (belowd HB)); have GE313 := ak (hgl hg (belowd HB)); replace HB := ak (below_step (belowd HB) hb); clear hb hbox hg; obtain ⟨hcz22_0, hcz22_1, hcz22_2, hcz22_3, hcz22_4, hfz22_0, hfz22_1, hfz22_2, hfz22_3, hfz22_4⟩ := box5 BK313) | ((with_reducible refine gate_callee (f := 59) rfl ?_); refine goesLa (some 8) rfl Tryz.func59 #[.slice A0_0 l0_0.length c0_0, .int .i64 a1] rfl ?_; (with_reducible refine (laws_heldIntS.calls k _ _ l0_0 a1 t314 _ ?side1 ?side2 A3.out).mono ?_); (case side1 => exact cd (Kd.C_below HR0_0.out HB.out)); (case side2 => exact HC0_0.out); rintro e w' ⟨rfl, ⟨nd, rfl⟩⟩; refine ⟨_, rfl, ?_⟩) | ((with_reducible refine gate_callee (f := 60) rfl ?_); refine goesLa (some 14) rfl Tryz.func60 #[.slice A0_1 l0_1.length c0_1, .int .i64 t314] rfl ?_; (with_reducible refine (laws_heldStringSS.calls k _ _ l0_1 t314 t315 _ ?side1 ?side2 A7.out).mono ?_); (case side1 => exact cd (Kd.C_below HR0_1.out (belowg1 HB GE313))); (case side2 => exact HC0_1.out); rintro e w23 ⟨rfl, hb⟩; refine ⟨_, rfl, ?_⟩; replace BK313 := ak (blk_below (blkd BK313) hb); replace HB := ak (below_step (belowg1 HB GE313) hb); (try clear hb); obtain ⟨hcz24_0, hcz24_1, hcz24_2, hcz24_3, hcz24_4, hfz24_0, hfz24_1, hfz24_2, hfz24_3, hfz24_4⟩ := box5 BK313) | ((with_reducible refine gate_callee (f := 60) rfl ?_); refine goesLa (some 20) rfl Tryz.func60 #[.slice A0_2 l0_2.length c0_2, .int .i64 t315] rfl ?_; (with_reducible refine (laws_heldStringSS.calls k _ _ l0_2 t315 t316 _ ?side1 ?side2 A12.out).mono ?_); (case side1 => exact cd (Kd.C_below HR0_2.out HB.out)); (case side2 => exact HC0_2.out); rintro e w25 ⟨rfl, hb⟩; refine ⟨_, rfl, ?_⟩; replace BK313 := ak (blk_below (blkd BK313) hb); replace HB := ak (below_step (belowg1 HB GE313) hb); (try clear hb); obtain ⟨hcz26_0, hcz26_1, hcz26_2, hcz26_3, hcz26_4, hfz26_0, hfz26_1, hfz26_2, hfz26_3, hfz26_4⟩ := box5 BK313) | ((with_reducible refine gate_callee (f := 60) rfl ?_); refine goesLa (some 26) rfl Tryz.func60 #[.slice A0_3 l0_3.length c0_3, .int .i64 t316] rfl ?_; (with_reducible refine (laws_heldStringSS.calls k _ _ l0_3 t316 t317 _ ?side1 ?side2 A19.out).mono ?_); (case side1 => exact cd (Kd.C_below HR0_3.out HB.out)); (case side2 => exact HC0_3.out); rintro e w27 ⟨rfl, hb⟩; refine ⟨_, rfl, ?_⟩; replace BK313 := ak (blk_below (blkd BK313) hb); replace HB := ak (below_step (belowg1 HB GE313) hb); (try clear hb)))
     go_ret
     exact ⟨er2, belowg1 HB GE313⟩
    ·rw [if_neg c20] at H
     have c20b0 : decide (t317 < 0) = false := decide_eq_false c20
     clear c20
     obtain rfl := Option.some.inj H
     go_enter Tryz.func14, Tryz.ntmps14
     go_wp2_with (first | ((with_reducible refine gate_dst (N := 2) rfl ?_); refine boxev 2 #[.slice A0_0 l0_0.length c0_0, .slice A0_1 l0_1.length c0_1, .slice A0_2 l0_2.length c0_2, .slice A0_3 l0_3.length c0_3, .int .i64 a0_4] 27 ?_; intro gb313 hg w28 hbox hb; have BK313 := ak (hbox); have GW313 := ak (hgl hg (belowd HB)); have GE313 := ak (hgl hg (belowd HB)); replace HB := ak (below_step (belowd HB) hb); clear hb hbox hg; obtain ⟨hcz29_0, hcz29_1, hcz29_2, hcz29_3, hcz29_4, hfz29_0, hfz29_1, hfz29_2, hfz29_3, hfz29_4⟩ := box5 BK313) | ((with_reducible refine gate_callee (f := 59) rfl ?_); refine goesLa (some 8) rfl Tryz.func59 #[.slice A0_0 l0_0.length c0_0, .int .i64 a1] rfl ?_; (with_reducible refine (laws_heldIntS.calls k _ _ l0_0 a1 t314 _ ?side1 ?side2 A3.out).mono ?_); (case side1 => exact cd (Kd.C_below HR0_0.out HB.out)); (case side2 => exact HC0_0.out); rintro e w' ⟨rfl, ⟨nd, rfl⟩⟩; refine ⟨_, rfl, ?_⟩) | ((with_reducible refine gate_callee (f := 60) rfl ?_); refine goesLa (some 14) rfl Tryz.func60 #[.slice A0_1 l0_1.length c0_1, .int .i64 t314] rfl ?_; (with_reducible refine (laws_heldStringSS.calls k _ _ l0_1 t314 t315 _ ?side1 ?side2 A7.out).mono ?_); (case side1 => exact cd (Kd.C_below HR0_1.out (belowg1 HB GE313))); (case side2 => exact HC0_1.out); rintro e w30 ⟨rfl, hb⟩; refine ⟨_, rfl, ?_⟩; replace BK313 := ak (blk_below (blkd BK313) hb); replace HB := ak (below_step (belowg1 HB GE313) hb); (try clear hb); obtain ⟨hcz31_0, hcz31_1, hcz31_2, hcz31_3, hcz31_4, hfz31_0, hfz31_1, hfz31_2, hfz31_3, hfz31_4⟩ := box5 BK313) | ((with_reducible refine gate_callee (f := 60) rfl ?_); refine goesLa (some 20) rfl Tryz.func60 #[.slice A0_2 l0_2.length c0_2, .int .i64 t315] rfl ?_; (with_reducible refine (laws_heldStringSS.calls k _ _ l0_2 t315 t316 _ ?side1 ?side2 A12.out).mono ?_); (case side1 => exact cd (Kd.C_below HR0_2.out HB.out)); (case side2 => exact HC0_2.out); rintro e w32 ⟨rfl, hb⟩; refine ⟨_, rfl, ?_⟩; replace BK313 := ak (blk_below (blkd BK313) hb); replace HB := ak (below_step (belowg1 HB GE313) hb); (try clear hb); obtain ⟨hcz33_0, hcz33_1, hcz33_2, hcz33_3, hcz33_4, hfz33_0, hfz33_1, hfz33_2, hfz33_3, hfz33_4⟩ := box5 BK313) | ((with_reducible refine gate_callee (f := 60) rfl ?_); refine goesLa (some 26) rfl Tryz.func60 #[.slice A0_3 l0_3.length c0_3, .int .i64 t316] rfl ?_; (with_reducible refine (laws_heldStringSS.calls k _ _ l0_3 t316 t317 _ ?side1 ?side2 A19.out).mono ?_); (case side1 => exact cd (Kd.C_below HR0_3.out HB.out)); (case side2 => exact HC0_3.out); rintro e w34 ⟨rfl, hb⟩; refine ⟨_, rfl, ?_⟩; replace BK313 := ak (blk_below (blkd BK313) hb); replace HB := ak (below_step (belowg1 HB GE313) hb); (try clear hb)))
     go_ret
     exact ⟨er2, belowg1 HB GE313⟩

/-! ### what a law asks of nets -/
theorem nw_eq {k : Nat} {v0 v1 v2 v3 u0 u1 u2 u3 : Value} {n m : Nt} {r : Bool} {w : World} (hn : NC w v0 v1 v2 v3 n) (hm : NC w u0 u1 u2 u3 m) (h : laws_eqNet.f k n.ks n.ps n.ss n.ib n.sd m.ks m.ps m.ss m.ib m.sd = some r) :
    Calls Tryz.prog 12 #[.agg #[v0, v1, v2, v3, .int .i64 n.sd], .agg #[u0, u1, u2, u3, .int .i64 m.sd]] w fun e w' => e = .returned (.bool r) ∧ Below w.heap.size w w' := by
  obtain ⟨A0, c0, A1, c1, A2, c2, A3, c3, ⟨rfl, rfl, rfl, rfl⟩, ⟨r0, l0⟩, ⟨r1, l1⟩, ⟨r2, l2⟩, ⟨r3, l3⟩⟩ := hn
  obtain ⟨B0, d0, B1, d1, B2, d2, B3, d3, ⟨rfl, rfl, rfl, rfl⟩, ⟨s0, m0⟩, ⟨s1, m1⟩, ⟨s2, m2⟩, ⟨s3, m3⟩⟩ := hm
  exact laws_eqNet.calls k A0 c0 n.ks A1 c1 n.ps A2 c2 n.ss A3 c3 n.ib n.sd B0 d0 m.ks B1 d1 m.ps B2 d2 m.ss B3 d3 m.ib m.sd r w r0 l0 r1 l1 r2 l2 r3 l3 s0 m0 s1 m1 s2 m2 s3 m3 h
/-- The net that stands first is written. -/
theorem nw_mark {k : Nat} {v0 v1 v2 v3 : Value} {n : Nt} {a r : Int} {m0 : List Int} {m1 m2 m3 : List (List ByteArray)} {L : List SA} {w0 w : World} (hs : Sep w0 w (netA v0 v1 v2 v3 n ++ L)) (h : laws_markNet.f k n.ks n.ps n.ss n.ib n.sd a = some (r, m0, m1, m2, m3)) :
    Calls Tryz.prog 13 #[.agg #[v0, v1, v2, v3, .int .i64 n.sd], .int .i64 a] w fun e w' => e = .returned (.int .i64 r) ∧ Sep w0 w' (netA v0 v1 v2 v3 ⟨m0, m1, m2, m3, n.sd⟩ ++ L) := by
  obtain ⟨hB, c, hs⟩ := hs
  obtain ⟨h0, h1, h2, h3, hL⟩ := hs
  refine (laws_markNet.calls k _ v0 n.ks _ v1 n.ps _ v2 n.ss _ v3 n.ib n.sd a r m0 m1 m2 m3 w0 w hB h0 h1 h2 h3 (fun k a b => by omega) (fun k a b => by omega) (fun k a b => by omega) (fun k a b => by omega) (fun k a b => by omega) (fun k a b => by omega) h).mono ?_
  rintro e w' ⟨rfl, g0, g1, g2, g3, hb, hk⟩
  refine ⟨rfl, hb, c, g0, g1, g2, g3, ?_⟩
  exact SepAt.to (i := 4) 0 hL (fun k j hj hkj hlt _ => ⟨hkj, hk.2 k hlt (fun e => by omega)⟩)
/-! ### what a law asks of nets: what is held -/
theorem nw_held {k : Nat} {v0 v1 v2 v3 : Value} {n : Nt} {a r : Int} {w : World} (hn : NC w v0 v1 v2 v3 n) (h : laws_heldNet.f k n.ks n.ps n.ss n.ib n.sd a = some r) :
    Calls Tryz.prog 14 #[.agg #[v0, v1, v2, v3, .int .i64 n.sd], .int .i64 a] w fun e w' => e = .returned (.int .i64 r) ∧ Below w.heap.size w w' := by
  obtain ⟨A0, c0, A1, c1, A2, c2, A3, c3, ⟨rfl, rfl, rfl, rfl⟩, ⟨r0, l0⟩, ⟨r1, l1⟩, ⟨r2, l2⟩, ⟨r3, l3⟩⟩ := hn
  exact laws_heldNet.calls k A0 c0 n.ks A1 c1 n.ps A2 c2 n.ss A3 c3 n.ib n.sd a r w r0 l0 r1 l1 r2 l2 r3 l3 h
theorem nw_sz {k : Nat} {v0 v1 v2 v3 : Value} {n : Nt} {a r : Int} {w : World} (hn : NC w v0 v1 v2 v3 n) (h : laws_szNet.f k n.ks n.ps n.ss n.ib n.sd a = some r) :
    Calls Tryz.prog 8 #[.agg #[v0, v1, v2, v3, .int .i64 n.sd], .int .i64 a] w fun e w' => e = .returned (.int .i64 r) ∧ Below w.heap.size w w' := by
  obtain ⟨A0, c0, A1, c1, A2, c2, A3, c3, ⟨rfl, rfl, rfl, rfl⟩, ⟨x0, y0⟩, ⟨x1, y1⟩, ⟨x2, y2⟩, ⟨x3, y3⟩⟩ := hn
  exact laws_szNet.calls k A0 c0 n.ks A1 c1 n.ps A2 c2 n.ss A3 c3 n.ib n.sd a r w x0 y0 x1 y1 x2 y2 x3 y3 h
/-! ### laws_FnExactSettleNet: function 3 -/
def laws_FnExactSettleNet.T10 : Bool × List (List Nat × List Nat) := (true, [([], []), ([], []), ([1], [1]), ([0, 2, 2], [0, 2]), ([3], [3])])
def laws_FnExactSettleNet.B10 : List Nat := [0, 0, 2, 7, 15]
theorem laws_FnExactSettleNet.tab10 : rtab .any (opsOf Tryz.f3 10) = laws_FnExactSettleNet.T10 := by kernel_rfl
theorem laws_FnExactSettleNet.bits10 : waitsOk laws_FnExactSettleNet.T10.2 laws_FnExactSettleNet.B10 = true := by kernel_rfl
def laws_FnExactSettleNet.f (k : Nat) (l0_0 : List Int) (l0_1 l0_2 l0_3 : List (List ByteArray)) (a0_4 : Int) : Option Bool :=
 (laws_szNet.f k l0_0 l0_1 l0_2 l0_3 a0_4 1048576).bind fun z => if z < 0 then some true else
 (laws_toNet.f k l0_0 l0_1 l0_2 l0_3 a0_4).bind fun (x1, x2, x3, x4, x5) => (spec_SettleNet.f k ⟨x1, x2, x3, x4, x5⟩).bind fun (W, w6) => (impl_SettleNet.f k ⟨x1, x2, x3, x4, x5⟩).bind fun (G, g6) =>
 (laws_eqNet.f k G.ks G.ps G.ss G.ib G.sd W.ks W.ps W.ss W.ib W.sd).bind fun e1 => if e1 = true ∧ g6 = w6 then
 (laws_eqNet.f k x1 x2 x3 x4 x5 x1 x2 x3 x4 x5).bind fun e2 => if e2 = true then
 (laws_markNet.f k x1 x2 x3 x4 x5 1).bind fun (m, m1, m2, m3, m4) => if 0 ≤ m then
 (laws_markNet.f k G.ks G.ps G.ss G.ib G.sd 1).bind fun (q, q1, q2, q3, q4) => (laws_heldNet.f k q1 q2 q3 q4 G.sd 1).bind fun q' => if 0 ≤ q' ∧ q' = q then some true else none
 else none else none else none
set_option maxHeartbeats 16000000 in
set_option maxRecDepth 100000 in
theorem laws_FnExactSettleNet.calls (k : Nat) (A0_0 : Option Addr) (c0_0 : Nat) (l0_0 : List Int) (A0_1 : Option Addr) (c0_1 : Nat) (l0_1 : List (List ByteArray)) (A0_2 : Option Addr) (c0_2 : Nat) (l0_2 : List (List ByteArray)) (A0_3 : Option Addr) (c0_3 : Nat) (l0_3 : List (List ByteArray)) (a0_4 : Int) (r : Bool) (w : World) (hr0_0 : KI.C w A0_0 l0_0.length l0_0) (hc0_0 : l0_0.length ≤ c0_0) (hr0_1 : KT.C w A0_1 l0_1.length l0_1) (hc0_1 : l0_1.length ≤ c0_1) (hr0_2 : KT.C w A0_2 l0_2.length l0_2) (hc0_2 : l0_2.length ≤ c0_2) (hr0_3 : KT.C w A0_3 l0_3.length l0_3) (hc0_3 : l0_3.length ≤ c0_3) (h : laws_FnExactSettleNet.f k l0_0 l0_1 l0_2 l0_3 a0_4 = some r) (hr_ : r = true) :
  Calls Tryz.prog 3 #[.agg #[.slice A0_0 l0_0.length c0_0, .slice A0_1 l0_1.length c0_1, .slice A0_2 l0_2.length c0_2, .slice A0_3 l0_3.length c0_3, .int .i64 a0_4]] w fun e w' => e = .returned (.bool r) ∧ Below w.heap.size w w' := by
 subst hr_
 have hu25 := Tryz.underlying25
 have hu27 := Tryz.underlying27
 have HN := ak (show NC w (.slice A0_0 l0_0.length c0_0) (.slice A0_1 l0_1.length c0_1) (.slice A0_2 l0_2.length c0_2) (.slice A0_3 l0_3.length c0_3) ⟨l0_0, l0_1, l0_2, l0_3, a0_4⟩ from ⟨_, _, _, _, _, _, _, _, ⟨rfl, rfl, rfl, rfl⟩, ⟨hr0_0, hc0_0⟩, ⟨hr0_1, hc0_1⟩, ⟨hr0_2, hc0_2⟩, ⟨hr0_3, hc0_3⟩⟩)
 clear hr0_0 hc0_0 hr0_1 hc0_1 hr0_2 hc0_2 hr0_3 hc0_3
 have HS := Sep.nil w
 unfold laws_FnExactSettleNet.f at h
 replace h := bS h; obtain ⟨z, T0, h⟩ := h
 by_cases c1 : z < 0
 ·have c1b0 : decide (z < 0) = true := decide_eq_true c1
  clear h c1
  go_enter Tryz.func3, Tryz.ntmps3
  go_wp2_with (first | ((with_reducible refine gate_dst (N := 1) rfl ?_); refine boxev 1 #[.slice A0_0 l0_0.length c0_0, .slice A0_1 l0_1.length c0_1, .slice A0_2 l0_2.length c0_2, .slice A0_3 l0_3.length c0_3, .int .i64 a0_4] 25 ?_; intro b1 hg_ W_ ho_ hb_; replace HS := HS.box hg_ ho_ hb_; clear hg_ ho_ hb_; obtain ⟨z10, z11, z12, z13, z14, f10, f11, f12, f13, f14⟩ := box5 (HS.blk 0); clear z10 z11 z12 z13 z14 f10 f11 f12 f13 f14; obtain ⟨z10, z11, z12, z13, z14, f10, f11, f12, f13, f14⟩ := box5 (HS.blk 0)) | (go_at_call 8; have HC_ := nw_sz (n := ⟨l0_0, l0_1, l0_2, l0_3, a0_4⟩) (HN.out.below HS.base) T0.out; refine HC_.mono ?_; clear HC_; rintro e W_ ⟨rfl, hb_⟩; replace HS := HS.below hb_; clear hb_; clear z10 z11 z12 z13 z14 f10 f11 f12 f13 f14; obtain ⟨z10, z11, z12, z13, z14, f10, f11, f12, f13, f14⟩ := box5 (HS.blk 0)))
  go_ret
  exact ⟨er, HS.base⟩
 ·rw [if_neg c1] at h
  have c1b0 : decide (z < 0) = false := decide_eq_false c1
  clear c1
  replace h := bS h; obtain ⟨⟨x1, x2, x3, x4, x5⟩, T1, h⟩ := h
  replace h := bS h; obtain ⟨⟨⟨w1, w2, w3, w4, w5⟩, w6⟩, T2, h⟩ := h
  replace h := bS h; obtain ⟨⟨⟨g1, g2, g3, g4, g5⟩, g6⟩, T3, h⟩ := h
  replace h := bS h; obtain ⟨e1, T4, h⟩ := h
  replace h := ifS h; obtain ⟨⟨rfl, rfl⟩, h⟩ := h
  replace h := bS h; obtain ⟨e2, T5, h⟩ := h
  replace h := ifS h; obtain ⟨rfl, h⟩ := h
  replace h := bS h; obtain ⟨⟨m, m1, m2, m3, m4⟩, T6, h⟩ := h
  replace h := ifS h; obtain ⟨hm, h⟩ := h
  replace h := bS h; obtain ⟨⟨q, q1, q2, q3, q4⟩, T7, h⟩ := h
  replace h := bS h; obtain ⟨q', T10, h⟩ := h
  replace h := ifS h; obtain ⟨⟨hq, rfl⟩, h⟩ := h
  clear h
  dsimp only at T4 T7 T10
  have hm0 : decide (m < 0) = false := decide_eq_false (by omega)
  have hq0 : decide (q' < 0) = false := decide_eq_false (by omega)
  have hq1 : (q' != q') = false := bne_self_eq_false q'
  have hg6 : (g6 != g6) = false := bne_self_eq_false g6
  clear hm hq
  go_enter Tryz.func3, Tryz.ntmps3
  go_upto_region 6 with (first | ((with_reducible refine gate_dst (N := 1) rfl ?_); refine boxev 1 #[.slice A0_0 l0_0.length c0_0, .slice A0_1 l0_1.length c0_1, .slice A0_2 l0_2.length c0_2, .slice A0_3 l0_3.length c0_3, .int .i64 a0_4] 25 ?_; intro b1 hg_ W_ ho_ hb_; replace HS := HS.box hg_ ho_ hb_; clear hg_ ho_ hb_; obtain ⟨z10, z11, z12, z13, z14, f10, f11, f12, f13, f14⟩ := box5 (HS.blk 0); clear z10 z11 z12 z13 z14 f10 f11 f12 f13 f14; obtain ⟨z10, z11, z12, z13, z14, f10, f11, f12, f13, f14⟩ := box5 (HS.blk 0)) | (go_at_call 8; have HC_ := nw_sz (n := ⟨l0_0, l0_1, l0_2, l0_3, a0_4⟩) (HN.out.below HS.base) T0.out; refine HC_.mono ?_; clear HC_; rintro e W_ ⟨rfl, hb_⟩; replace HS := HS.below hb_; clear hb_; clear z10 z11 z12 z13 z14 f10 f11 f12 f13 f14; obtain ⟨z10, z11, z12, z13, z14, f10, f11, f12, f13, f14⟩ := box5 (HS.blk 0)) | (go_at_call 10; have HC_ := nw_to (n := ⟨l0_0, l0_1, l0_2, l0_3, a0_4⟩) (HN.out.below HS.base) T1.out; refine HC_.mono ?_; clear HC_; rintro e W_ ⟨tv0, tv1, tv2, tv3, rfl, hc_, hb_⟩; obtain ⟨c_, hc_⟩ := hc_; obtain ⟨⟨Atv0, ctv0, rfl⟩, ⟨Atv1, ctv1, rfl⟩, ⟨Atv2, ctv2, rfl⟩, ⟨Atv3, ctv3, rfl⟩⟩ := (NC.of hc_).slices; replace HS := HS.news hb_ ⟨c_, hc_⟩; clear hc_ hb_; clear z10 z11 z12 z13 z14 f10 f11 f12 f13 f14; obtain ⟨z10, z11, z12, z13, z14, f10, f11, f12, f13, f14⟩ := box5 (HS.blk 4)) | (go_at_call 9; have HC_ := spec_SettleNet.calls (n := ⟨x1, x2, x3, x4, x5⟩) (sepNc HS 0) T2.out; refine HC_.mono ?_; clear HC_; rintro e W_ ⟨wv0, wv1, wv2, wv3, rfl, hc_, hb_⟩; obtain ⟨c_, hc_⟩ := hc_; obtain ⟨⟨Awv0, cwv0, rfl⟩, ⟨Awv1, cwv1, rfl⟩, ⟨Awv2, cwv2, rfl⟩, ⟨Awv3, cwv3, rfl⟩⟩ := (NC.of hc_).slices; replace HS := HS.news hb_ ⟨c_, hc_⟩; clear hc_ hb_; clear z10 z11 z12 z13 z14 f10 f11 f12 f13 f14; obtain ⟨z10, z11, z12, z13, z14, f10, f11, f12, f13, f14⟩ := box5 (HS.blk 8)) | ((with_reducible refine gate_dst (N := 4) rfl ?_); refine boxev 4 #[.slice none 0 0, .slice none 0 0, .slice none 0 0, .slice none 0 0, .int .i64 0] 27 ?_; intro b4 hg_ W_ ho_ hb_; replace HS := HS.box hg_ ho_ hb_; clear hg_ ho_ hb_; clear z10 z11 z12 z13 z14 f10 f11 f12 f13 f14; obtain ⟨z40, z41, z42, z43, z44, f40, f41, f42, f43, f44⟩ := box5 (HS.blk 0); clear z40 z41 z42 z43 z44 f40 f41 f42 f43 f44; obtain ⟨z40, z41, z42, z43, z44, f40, f41, f42, f43, f44⟩ := box5 (HS.blk 0)))
  clear z40 z41 z42 z43 z44 f40 f41 f42 f43 f44
  obtain ⟨W5_, e5_, H5_⟩ := (((((HS.putI 0 0 (.slice Awv0 w1.length cwv0) #[.slice Awv0 w1.length cwv0, .slice none 0 0, .slice none 0 0, .slice none 0 0, .int .i64 0]).putI 0 1 (.slice Awv1 w2.length cwv1) #[.slice Awv0 w1.length cwv0, .slice Awv1 w2.length cwv1, .slice none 0 0, .slice none 0 0, .int .i64 0]).putI 0 2 (.slice Awv2 w3.length cwv2) #[.slice Awv0 w1.length cwv0, .slice Awv1 w2.length cwv1, .slice Awv2 w3.length cwv2, .slice none 0 0, .int .i64 0]).putI 0 3 (.slice Awv3 w4.length cwv3) #[.slice Awv0 w1.length cwv0, .slice Awv1 w2.length cwv1, .slice Awv2 w3.length cwv2, .slice Awv3 w4.length cwv3, .int .i64 0]).putI 0 4 (.int .i64 w5) #[.slice Awv0 w1.length cwv0, .slice Awv1 w2.length cwv1, .slice Awv2 w3.length cwv2, .slice Awv3 w4.length cwv3, .int .i64 w5]).gen
  rw [e5_]
  clear HS e5_
  have HS := H5_
  clear H5_
  obtain ⟨z40, z41, z42, z43, z44, f40, f41, f42, f43, f44⟩ := box5 (HS.blk 0)
  obtain ⟨z10, z11, z12, z13, z14, f10, f11, f12, f13, f14⟩ := box5 (HS.blk 9)
  go_upto_region 7 with (first | (go_at_call 10; have HC_ := nw_to (n := ⟨l0_0, l0_1, l0_2, l0_3, a0_4⟩) (HN.out.below HS.base) T1.out; refine HC_.mono ?_; clear HC_; rintro e W_ ⟨xv0, xv1, xv2, xv3, rfl, hc_, hb_⟩; obtain ⟨c_, hc_⟩ := hc_; obtain ⟨⟨Axv0, cxv0, rfl⟩, ⟨Axv1, cxv1, rfl⟩, ⟨Axv2, cxv2, rfl⟩, ⟨Axv3, cxv3, rfl⟩⟩ := (NC.of hc_).slices; replace HS := HS.news hb_ ⟨c_, hc_⟩; clear hc_ hb_; clear z40 z41 z42 z43 z44 f40 f41 f42 f43 f44 z10 z11 z12 z13 z14 f10 f11 f12 f13 f14; obtain ⟨z40, z41, z42, z43, z44, f40, f41, f42, f43, f44⟩ := box5 (HS.blk 4); obtain ⟨z10, z11, z12, z13, z14, f10, f11, f12, f13, f14⟩ := box5 (HS.blk 13)) | ((with_reducible refine gate_dst (N := 6) rfl ?_); refine boxev 6 #[.slice none 0 0, .slice none 0 0, .slice none 0 0, .slice none 0 0, .int .i64 0] 27 ?_; intro b6 hg_ W_ ho_ hb_; replace HS := HS.box hg_ ho_ hb_; clear hg_ ho_ hb_; clear z40 z41 z42 z43 z44 f40 f41 f42 f43 f44 z10 z11 z12 z13 z14 f10 f11 f12 f13 f14; obtain ⟨z60, z61, z62, z63, z64, f60, f61, f62, f63, f64⟩ := box5 (HS.blk 0); clear z60 z61 z62 z63 z64 f60 f61 f62 f63 f64; obtain ⟨z60, z61, z62, z63, z64, f60, f61, f62, f63, f64⟩ := box5 (HS.blk 0)))
  clear z60 z61 z62 z63 z64 f60 f61 f62 f63 f64
  obtain ⟨W5_, e5_, H5_⟩ := (((((HS.putI 0 0 (.slice Axv0 x1.length cxv0) #[.slice Axv0 x1.length cxv0, .slice none 0 0, .slice none 0 0, .slice none 0 0, .int .i64 0]).putI 0 1 (.slice Axv1 x2.length cxv1) #[.slice Axv0 x1.length cxv0, .slice Axv1 x2.length cxv1, .slice none 0 0, .slice none 0 0, .int .i64 0]).putI 0 2 (.slice Axv2 x3.length cxv2) #[.slice Axv0 x1.length cxv0, .slice Axv1 x2.length cxv1, .slice Axv2 x3.length cxv2, .slice none 0 0, .int .i64 0]).putI 0 3 (.slice Axv3 x4.length cxv3) #[.slice Axv0 x1.length cxv0, .slice Axv1 x2.length cxv1, .slice Axv2 x3.length cxv2, .slice Axv3 x4.length cxv3, .int .i64 0]).putI 0 4 (.int .i64 x5) #[.slice Axv0 x1.length cxv0, .slice Axv1 x2.length cxv1, .slice Axv2 x3.length cxv2, .slice Axv3 x4.length cxv3, .int .i64 x5]).gen
  rw [e5_]
  clear HS e5_
  have HS := H5_
  clear H5_
  obtain ⟨z60, z61, z62, z63, z64, f60, f61, f62, f63, f64⟩ := box5 (HS.blk 0)
  obtain ⟨z40, z41, z42, z43, z44, f40, f41, f42, f43, f44⟩ := box5 (HS.blk 5)
  obtain ⟨z10, z11, z12, z13, z14, f10, f11, f12, f13, f14⟩ := box5 (HS.blk 14)
  go_upto_region 8 with (first | (go_at_call 11; have HC_ := impl_SettleNet.calls (n := ⟨x1, x2, x3, x4, x5⟩) (sepNc HS 1) T3.out; refine HC_.mono ?_; clear HC_; rintro e W_ ⟨gv0, gv1, gv2, gv3, rfl, hc_, hb_⟩; obtain ⟨c_, hc_⟩ := hc_; obtain ⟨⟨Agv0, cgv0, rfl⟩, ⟨Agv1, cgv1, rfl⟩, ⟨Agv2, cgv2, rfl⟩, ⟨Agv3, cgv3, rfl⟩⟩ := (NC.of hc_).slices; replace HS := HS.news hb_ ⟨c_, hc_⟩; clear hc_ hb_; clear z60 z61 z62 z63 z64 f60 f61 f62 f63 f64 z40 z41 z42 z43 z44 f40 f41 f42 f43 f44 z10 z11 z12 z13 z14 f10 f11 f12 f13 f14; obtain ⟨z60, z61, z62, z63, z64, f60, f61, f62, f63, f64⟩ := box5 (HS.blk 4); obtain ⟨z40, z41, z42, z43, z44, f40, f41, f42, f43, f44⟩ := box5 (HS.blk 9); obtain ⟨z10, z11, z12, z13, z14, f10, f11, f12, f13, f14⟩ := box5 (HS.blk 18)) | ((with_reducible refine gate_dst (N := 7) rfl ?_); refine boxev 7 #[.slice none 0 0, .slice none 0 0, .slice none 0 0, .slice none 0 0, .int .i64 0] 27 ?_; intro b7 hg_ W_ ho_ hb_; replace HS := HS.box hg_ ho_ hb_; clear hg_ ho_ hb_; clear z60 z61 z62 z63 z64 f60 f61 f62 f63 f64 z40 z41 z42 z43 z44 f40 f41 f42 f43 f44 z10 z11 z12 z13 z14 f10 f11 f12 f13 f14; obtain ⟨z70, z71, z72, z73, z74, f70, f71, f72, f73, f74⟩ := box5 (HS.blk 0); clear z70 z71 z72 z73 z74 f70 f71 f72 f73 f74; obtain ⟨z70, z71, z72, z73, z74, f70, f71, f72, f73, f74⟩ := box5 (HS.blk 0)))
  clear z70 z71 z72 z73 z74 f70 f71 f72 f73 f74
  obtain ⟨W5_, e5_, H5_⟩ := (((((HS.putI 0 0 (.slice Agv0 g1.length cgv0) #[.slice Agv0 g1.length cgv0, .slice none 0 0, .slice none 0 0, .slice none 0 0, .int .i64 0]).putI 0 1 (.slice Agv1 g2.length cgv1) #[.slice Agv0 g1.length cgv0, .slice Agv1 g2.length cgv1, .slice none 0 0, .slice none 0 0, .int .i64 0]).putI 0 2 (.slice Agv2 g3.length cgv2) #[.slice Agv0 g1.length cgv0, .slice Agv1 g2.length cgv1, .slice Agv2 g3.length cgv2, .slice none 0 0, .int .i64 0]).putI 0 3 (.slice Agv3 g4.length cgv3) #[.slice Agv0 g1.length cgv0, .slice Agv1 g2.length cgv1, .slice Agv2 g3.length cgv2, .slice Agv3 g4.length cgv3, .int .i64 0]).putI 0 4 (.int .i64 g5) #[.slice Agv0 g1.length cgv0, .slice Agv1 g2.length cgv1, .slice Agv2 g3.length cgv2, .slice Agv3 g4.length cgv3, .int .i64 g5]).gen
  rw [e5_]
  clear HS e5_
  have HS := H5_
  clear H5_
  obtain ⟨z70, z71, z72, z73, z74, f70, f71, f72, f73, f74⟩ := box5 (HS.blk 0)
  obtain ⟨z60, z61, z62, z63, z64, f60, f61, f62, f63, f64⟩ := box5 (HS.blk 5)
  obtain ⟨z40, z41, z42, z43, z44, f40, f41, f42, f43, f44⟩ := box5 (HS.blk 10)
  obtain ⟨z10, z11, z12, z13, z14, f10, f11, f12, f13, f14⟩ := box5 (HS.blk 19)
  go_upto_region 10 with (first | (go_at_call 12; have HC_ := nw_eq (n := ⟨g1, g2, g3, g4, g5⟩) (m := ⟨w1, w2, w3, w4, w5⟩) (sepNc HS 1) (sepNc HS 11) T4.out; refine HC_.mono ?_; clear HC_; rintro e W_ ⟨rfl, hb_⟩; replace HS := HS.below hb_; clear hb_; clear z70 z71 z72 z73 z74 f70 f71 f72 f73 f74 z60 z61 z62 z63 z64 f60 f61 f62 f63 f64 z40 z41 z42 z43 z44 f40 f41 f42 f43 f44 z10 z11 z12 z13 z14 f10 f11 f12 f13 f14; obtain ⟨z70, z71, z72, z73, z74, f70, f71, f72, f73, f74⟩ := box5 (HS.blk 0); obtain ⟨z60, z61, z62, z63, z64, f60, f61, f62, f63, f64⟩ := box5 (HS.blk 5); obtain ⟨z40, z41, z42, z43, z44, f40, f41, f42, f43, f44⟩ := box5 (HS.blk 10); obtain ⟨z10, z11, z12, z13, z14, f10, f11, f12, f13, f14⟩ := box5 (HS.blk 19)))
  go_upto_region 10 with fail
  clear z70 z71 z72 z73 z74 f70 f71 f72 f73 f74 z60 z61 z62 z63 z64 f60 f61 f62 f63 f64 z40 z41 z42 z43 z44 f40 f41 f42 f43 f44 z10 z11 z12 z13 z14 f10 f11 f12 f13 f14
  obtain ⟨z60, z61, z62, z63, z64, f60, f61, f62, f63, f64⟩ := box5 (HS.blk 5)
  obtain ⟨z10, z11, z12, z13, z14, f10, f11, f12, f13, f14⟩ := box5 (HS.blk 19)
  refine start_ (n := 5) (S := fun w' => w'.cell? ⟨b6, 0, none⟩ = some (.slice Axv0 x1.length cxv0) ∧ w'.cell? ⟨b6, 1, none⟩ = some (.slice Axv1 x2.length cxv1) ∧ w'.cell? ⟨b6, 2, none⟩ = some (.slice Axv2 x3.length cxv2) ∧ w'.cell? ⟨b6, 3, none⟩ = some (.slice Axv3 x4.length cxv3) ∧ w'.cell? ⟨b6, 4, none⟩ = some (.int .i64 x5) ∧ w'.cell? ⟨b1, 0, none⟩ = some (.slice A0_0 l0_0.length c0_0) ∧ w'.cell? ⟨b1, 1, none⟩ = some (.slice A0_1 l0_1.length c0_1) ∧ w'.cell? ⟨b1, 2, none⟩ = some (.slice A0_2 l0_2.length c0_2) ∧ w'.cell? ⟨b1, 3, none⟩ = some (.slice A0_3 l0_3.length c0_3) ∧ w'.cell? ⟨b1, 4, none⟩ = some (.int .i64 a0_4)) (ds := []) (bl 5 0) (by kernel_rfl) rfl rfl ⟨z60, z61, z62, z63, z64, z10, z11, z12, z13, z14⟩ (fun hHeld => ?_); refine with_tabW laws_FnExactSettleNet.tab10 laws_FnExactSettleNet.bits10 (fun HT_ HW_ => ?_)
  clear z60 z61 z62 z63 z64 f60 f61 f62 f63 f64 z10 z11 z12 z13 z14 f10 f11 f12 f13 f14
  replace HS := HS.drew
  generalize World.drew _ = W9_ at HS hHeld ⊢
  refine takeA 0 (some 41) 5 1 HT_ HW_ hHeld ?_ (hy := by rintro w' ⟨s0, s1, s2, s3, s4, s5, s6, s7, s8, s9⟩; go_simp; with_reducible rfl)
  refine takeA 1 (some 42) 5 3 HT_ HW_ hHeld ?_ (hy := by rintro w' ⟨s0, s1, s2, s3, s4, s5, s6, s7, s8, s9⟩; go_simp; with_reducible rfl)
  refine oneA 2 (some 43) 5 7 HT_ (fun K hK => ?_)
  refine goes_ Tryz.func10 (by kernel_rfl) rfl #[.agg #[.slice A0_0 l0_0.length c0_0, .slice A0_1 l0_1.length c0_1, .slice A0_2 l0_2.length c0_2, .slice A0_3 l0_3.length c0_3, .int .i64 a0_4]] (by rfl) rfl rfl (by (try simp only [List.map_toArray, List.map_cons, List.map_nil]); first | done | rfl) ?_
  have HC_ := nw_to (n := ⟨l0_0, l0_1, l0_2, l0_3, a0_4⟩) (HN.out.below HS.base) T1.out
  refine HC_.mono ?_
  clear HC_ hHeld
  rintro e W_ ⟨yv0, yv1, yv2, yv3, rfl, hc_, hb_⟩
  refine ⟨_, rfl, ?_⟩
  obtain ⟨c_, hc_⟩ := hc_
  obtain ⟨⟨Ayv0, cyv0, rfl⟩, ⟨Ayv1, cyv1, rfl⟩, ⟨Ayv2, cyv2, rfl⟩, ⟨Ayv3, cyv3, rfl⟩⟩ := (NC.of hc_).slices
  replace HS := HS.news hb_ ⟨c_, hc_⟩
  clear hc_ hb_
  obtain ⟨z60, z61, z62, z63, z64, f60, f61, f62, f63, f64⟩ := box5 (HS.blk 9)
  obtain ⟨z10, z11, z12, z13, z14, f10, f11, f12, f13, f14⟩ := box5 (HS.blk 23)
  refine hK.out _ _ ⟨z60, z61, z62, z63, z64, z10, z11, z12, z13, z14⟩ (fun hHeld => ?_)
  clear hK K z60 z61 z62 z63 z64 f60 f61 f62 f63 f64 z10 z11 z12 z13 z14 f10 f11 f12 f13 f14
  refine norm_ (a' := ?_) ?_ ?_
  rotate_left
  ·show Act.put _ (some 43) _ = _
   simp only [Act.put, List.setIfInBounds_toArray, List.set_cons_zero, List.set_cons_succ, i64_w, i32_w]
   rfl
  refine oneA 3 (some 44) 5 15 HT_ (fun K hK => ?_)
  refine goes_ Tryz.func12 (by kernel_rfl) rfl #[.agg #[.slice Axv0 x1.length cxv0, .slice Axv1 x2.length cxv1, .slice Axv2 x3.length cxv2, .slice Axv3 x4.length cxv3, .int .i64 x5], .agg #[.slice Ayv0 x1.length cyv0, .slice Ayv1 x2.length cyv1, .slice Ayv2 x3.length cyv2, .slice Ayv3 x4.length cyv3, .int .i64 x5]] (by rfl) rfl rfl (by (try simp only [List.map_toArray, List.map_cons, List.map_nil]); first | done | rfl) ?_
  have HC_ := nw_eq (n := ⟨x1, x2, x3, x4, x5⟩) (m := ⟨x1, x2, x3, x4, x5⟩) (sepNc HS 10) (sepNc HS 0) T5.out
  refine HC_.mono ?_
  clear HC_ hHeld
  rintro e W_ ⟨rfl, hb_⟩
  refine ⟨_, rfl, ?_⟩
  replace HS := HS.below hb_
  clear hb_
  obtain ⟨z60, z61, z62, z63, z64, f60, f61, f62, f63, f64⟩ := box5 (HS.blk 9)
  obtain ⟨z10, z11, z12, z13, z14, f10, f11, f12, f13, f14⟩ := box5 (HS.blk 23)
  refine hK.out _ _ ⟨z60, z61, z62, z63, z64, z10, z11, z12, z13, z14⟩ (fun hHeld => ?_)
  clear hK K z60 z61 z62 z63 z64 f60 f61 f62 f63 f64 z10 z11 z12 z13 z14 f10 f11 f12 f13 f14
  refine norm_ (a' := ?_) ?_ ?_
  rotate_left
  ·show Act.put _ (some 44) _ = _
   simp only [Act.put, List.setIfInBounds_toArray, List.set_cons_zero, List.set_cons_succ, i64_w, i32_w]
   rfl
  refine pureA 4 (some 45) 5 31 HT_ ?_
  refine done_ (done_of HT_.out (by kernel_rfl)) ?_
  clear HT_ HW_ hHeld
  dsimp only [netA, List.cons_append, List.nil_append] at HS
  replace HS := HS.tail
  replace HS := HS.tail
  replace HS := HS.tail
  replace HS := HS.tail
  obtain ⟨z70, z71, z72, z73, z74, f70, f71, f72, f73, f74⟩ := box5 (HS.blk 0)
  obtain ⟨z60, z61, z62, z63, z64, f60, f61, f62, f63, f64⟩ := box5 (HS.blk 5)
  obtain ⟨z40, z41, z42, z43, z44, f40, f41, f42, f43, f44⟩ := box5 (HS.blk 10)
  obtain ⟨z10, z11, z12, z13, z14, f10, f11, f12, f13, f14⟩ := box5 (HS.blk 19)
  go_upto_region 25 with (first | (go_at_call 13; have HC_ := nw_mark (n := ⟨x1, x2, x3, x4, x5⟩) (HS.fr9.fr9.fr9.fr9) T6.out; refine HC_.mono ?_; clear HC_; rintro e W_ ⟨rfl, HS'_⟩; clear HS; have HS := HS'_; clear HS'_; dsimp only [netA, List.cons_append, List.nil_append] at HS; clear z70 z71 z72 z73 z74 f70 f71 f72 f73 f74 z60 z61 z62 z63 z64 f60 f61 f62 f63 f64 z40 z41 z42 z43 z44 f40 f41 f42 f43 f44 z10 z11 z12 z13 z14 f10 f11 f12 f13 f14; obtain ⟨z70, z71, z72, z73, z74, f70, f71, f72, f73, f74⟩ := box5 (HS.blk 4); obtain ⟨z60, z61, z62, z63, z64, f60, f61, f62, f63, f64⟩ := box5 (HS.blk 9); obtain ⟨z40, z41, z42, z43, z44, f40, f41, f42, f43, f44⟩ := box5 (HS.blk 10); obtain ⟨z10, z11, z12, z13, z14, f10, f11, f12, f13, f14⟩ := box5 (HS.blk 19)) | (go_at_call 12; have HC_ := nw_eq (n := ⟨g1, g2, g3, g4, g5⟩) (m := ⟨w1, w2, w3, w4, w5⟩) (sepNc HS 5) (sepNc HS 11) T4.out; refine HC_.mono ?_; clear HC_; rintro e W_ ⟨rfl, hb_⟩; replace HS := HS.below hb_; clear hb_; clear z70 z71 z72 z73 z74 f70 f71 f72 f73 f74 z60 z61 z62 z63 z64 f60 f61 f62 f63 f64 z40 z41 z42 z43 z44 f40 f41 f42 f43 f44 z10 z11 z12 z13 z14 f10 f11 f12 f13 f14; obtain ⟨z70, z71, z72, z73, z74, f70, f71, f72, f73, f74⟩ := box5 (HS.blk 4); obtain ⟨z60, z61, z62, z63, z64, f60, f61, f62, f63, f64⟩ := box5 (HS.blk 9); obtain ⟨z40, z41, z42, z43, z44, f40, f41, f42, f43, f44⟩ := box5 (HS.blk 10); obtain ⟨z10, z11, z12, z13, z14, f10, f11, f12, f13, f14⟩ := box5 (HS.blk 19)) | (go_at_call 13; have HC_ := nw_mark (n := ⟨g1, g2, g3, g4, g5⟩) (HS.fr8.fr8.fr8.fr8) T7.out; refine HC_.mono ?_; clear HC_; rintro e W_ ⟨rfl, HS'_⟩; clear HS; have HS := HS'_; clear HS'_; dsimp only [netA, List.cons_append, List.nil_append] at HS; clear z70 z71 z72 z73 z74 f70 f71 f72 f73 f74 z60 z61 z62 z63 z64 f60 f61 f62 f63 f64 z40 z41 z42 z43 z44 f40 f41 f42 f43 f44 z10 z11 z12 z13 z14 f10 f11 f12 f13 f14; obtain ⟨z70, z71, z72, z73, z74, f70, f71, f72, f73, f74⟩ := box5 (HS.blk 8); obtain ⟨z60, z61, z62, z63, z64, f60, f61, f62, f63, f64⟩ := box5 (HS.blk 9); obtain ⟨z40, z41, z42, z43, z44, f40, f41, f42, f43, f44⟩ := box5 (HS.blk 10); obtain ⟨z10, z11, z12, z13, z14, f10, f11, f12, f13, f14⟩ := box5 (HS.blk 19)) | (go_at_call 14; have HC_ := nw_held (n := ⟨q1, q2, q3, q4, g5⟩) (sepNc HS 0) T10.out; refine HC_.mono ?_; clear HC_; rintro e W_ ⟨rfl, hb_⟩; replace HS := HS.below hb_; clear hb_; clear z70 z71 z72 z73 z74 f70 f71 f72 f73 f74 z60 z61 z62 z63 z64 f60 f61 f62 f63 f64 z40 z41 z42 z43 z44 f40 f41 f42 f43 f44 z10 z11 z12 z13 z14 f10 f11 f12 f13 f14; obtain ⟨z70, z71, z72, z73, z74, f70, f71, f72, f73, f74⟩ := box5 (HS.blk 8); obtain ⟨z60, z61, z62, z63, z64, f60, f61, f62, f63, f64⟩ := box5 (HS.blk 9); obtain ⟨z40, z41, z42, z43, z44, f40, f41, f42, f43, f44⟩ := box5 (HS.blk 10); obtain ⟨z10, z11, z12, z13, z14, f10, f11, f12, f13, f14⟩ := box5 (HS.blk 19)) | (go_at_call 10; have HC_ := nw_to (n := ⟨l0_0, l0_1, l0_2, l0_3, a0_4⟩) (HN.out.below HS.base) T1.out; refine HC_.mono ?_; clear HC_; rintro e W_ ⟨zv0, zv1, zv2, zv3, rfl, hc_, hb_⟩; obtain ⟨c_, hc_⟩ := hc_; obtain ⟨⟨Azv0, czv0, rfl⟩, ⟨Azv1, czv1, rfl⟩, ⟨Azv2, czv2, rfl⟩, ⟨Azv3, czv3, rfl⟩⟩ := (NC.of hc_).slices; replace HS := HS.news hb_ ⟨c_, hc_⟩; clear hc_ hb_; clear z70 z71 z72 z73 z74 f70 f71 f72 f73 f74 z60 z61 z62 z63 z64 f60 f61 f62 f63 f64 z40 z41 z42 z43 z44 f40 f41 f42 f43 f44 z10 z11 z12 z13 z14 f10 f11 f12 f13 f14; obtain ⟨z70, z71, z72, z73, z74, f70, f71, f72, f73, f74⟩ := box5 (HS.blk 12); obtain ⟨z60, z61, z62, z63, z64, f60, f61, f62, f63, f64⟩ := box5 (HS.blk 13); obtain ⟨z40, z41, z42, z43, z44, f40, f41, f42, f43, f44⟩ := box5 (HS.blk 14); obtain ⟨z10, z11, z12, z13, z14, f10, f11, f12, f13, f14⟩ := box5 (HS.blk 23)) | (go_at_call 11; have HC_ := impl_SettleNet.calls (n := ⟨x1, x2, x3, x4, x5⟩) (sepNc HS 0) T3.out; refine HC_.mono ?_; clear HC_; rintro e W_ ⟨hv0, hv1, hv2, hv3, rfl, hc_, hb_⟩; obtain ⟨c_, hc_⟩ := hc_; obtain ⟨⟨Ahv0, chv0, rfl⟩, ⟨Ahv1, chv1, rfl⟩, ⟨Ahv2, chv2, rfl⟩, ⟨Ahv3, chv3, rfl⟩⟩ := (NC.of hc_).slices; replace HS := HS.news hb_ ⟨c_, hc_⟩; clear hc_ hb_; clear z70 z71 z72 z73 z74 f70 f71 f72 f73 f74 z60 z61 z62 z63 z64 f60 f61 f62 f63 f64 z40 z41 z42 z43 z44 f40 f41 f42 f43 f44 z10 z11 z12 z13 z14 f10 f11 f12 f13 f14; obtain ⟨z70, z71, z72, z73, z74, f70, f71, f72, f73, f74⟩ := box5 (HS.blk 16); obtain ⟨z60, z61, z62, z63, z64, f60, f61, f62, f63, f64⟩ := box5 (HS.blk 17); obtain ⟨z40, z41, z42, z43, z44, f40, f41, f42, f43, f44⟩ := box5 (HS.blk 18); obtain ⟨z10, z11, z12, z13, z14, f10, f11, f12, f13, f14⟩ := box5 (HS.blk 27)) | ((with_reducible refine gate_dst (N := 12) rfl ?_); refine boxev 12 #[.slice none 0 0, .slice none 0 0, .slice none 0 0, .slice none 0 0, .int .i64 0] 27 ?_; intro b12 hg_ W_ ho_ hb_; replace HS := HS.box hg_ ho_ hb_; clear hg_ ho_ hb_; clear z70 z71 z72 z73 z74 f70 f71 f72 f73 f74 z60 z61 z62 z63 z64 f60 f61 f62 f63 f64 z40 z41 z42 z43 z44 f40 f41 f42 f43 f44 z10 z11 z12 z13 z14 f10 f11 f12 f13 f14; obtain ⟨z120, z121, z122, z123, z124, f120, f121, f122, f123, f124⟩ := box5 (HS.blk 0); clear z120 z121 z122 z123 z124 f120 f121 f122 f123 f124; obtain ⟨z120, z121, z122, z123, z124, f120, f121, f122, f123, f124⟩ := box5 (HS.blk 0)))
  clear z120 z121 z122 z123 z124 f120 f121 f122 f123 f124
  obtain ⟨W5_, e5_, H5_⟩ := (((((HS.putI 0 0 (.slice Ahv0 g1.length chv0) #[.slice Ahv0 g1.length chv0, .slice none 0 0, .slice none 0 0, .slice none 0 0, .int .i64 0]).putI 0 1 (.slice Ahv1 g2.length chv1) #[.slice Ahv0 g1.length chv0, .slice Ahv1 g2.length chv1, .slice none 0 0, .slice none 0 0, .int .i64 0]).putI 0 2 (.slice Ahv2 g3.length chv2) #[.slice Ahv0 g1.length chv0, .slice Ahv1 g2.length chv1, .slice Ahv2 g3.length chv2, .slice none 0 0, .int .i64 0]).putI 0 3 (.slice Ahv3 g4.length chv3) #[.slice Ahv0 g1.length chv0, .slice Ahv1 g2.length chv1, .slice Ahv2 g3.length chv2, .slice Ahv3 g4.length chv3, .int .i64 0]).putI 0 4 (.int .i64 g5) #[.slice Ahv0 g1.length chv0, .slice Ahv1 g2.length chv1, .slice Ahv2 g3.length chv2, .slice Ahv3 g4.length chv3, .int .i64 g5]).gen
  rw [e5_]
  clear HS e5_
  have HS := H5_
  clear H5_
  obtain ⟨z120, z121, z122, z123, z124, f120, f121, f122, f123, f124⟩ := box5 (HS.blk 0)
  obtain ⟨z70, z71, z72, z73, z74, f70, f71, f72, f73, f74⟩ := box5 (HS.blk 17)
  obtain ⟨z60, z61, z62, z63, z64, f60, f61, f62, f63, f64⟩ := box5 (HS.blk 18)
  obtain ⟨z40, z41, z42, z43, z44, f40, f41, f42, f43, f44⟩ := box5 (HS.blk 19)
  obtain ⟨z10, z11, z12, z13, z14, f10, f11, f12, f13, f14⟩ := box5 (HS.blk 28)
  go_wp2_with (first | (go_at_call 12; have HC_ := nw_eq (n := ⟨g1, g2, g3, g4, g5⟩) (m := ⟨w1, w2, w3, w4, w5⟩) (sepNc HS 1) (sepNc HS 20) T4.out; refine HC_.mono ?_; clear HC_; rintro e W_ ⟨rfl, hb_⟩; replace HS := HS.below hb_; clear hb_; clear z120 z121 z122 z123 z124 f120 f121 f122 f123 f124 z70 z71 z72 z73 z74 f70 f71 f72 f73 f74 z60 z61 z62 z63 z64 f60 f61 f62 f63 f64 z40 z41 z42 z43 z44 f40 f41 f42 f43 f44 z10 z11 z12 z13 z14 f10 f11 f12 f13 f14; obtain ⟨z120, z121, z122, z123, z124, f120, f121, f122, f123, f124⟩ := box5 (HS.blk 0); obtain ⟨z70, z71, z72, z73, z74, f70, f71, f72, f73, f74⟩ := box5 (HS.blk 17); obtain ⟨z60, z61, z62, z63, z64, f60, f61, f62, f63, f64⟩ := box5 (HS.blk 18); obtain ⟨z40, z41, z42, z43, z44, f40, f41, f42, f43, f44⟩ := box5 (HS.blk 19); obtain ⟨z10, z11, z12, z13, z14, f10, f11, f12, f13, f14⟩ := box5 (HS.blk 28)) | (go_at_call 14; have HC_ := nw_held (n := ⟨q1, q2, q3, q4, g5⟩) (sepNc HS 9) T10.out; refine HC_.mono ?_; clear HC_; rintro e W_ ⟨rfl, hb_⟩; replace HS := HS.below hb_; clear hb_; clear z120 z121 z122 z123 z124 f120 f121 f122 f123 f124 z70 z71 z72 z73 z74 f70 f71 f72 f73 f74 z60 z61 z62 z63 z64 f60 f61 f62 f63 f64 z40 z41 z42 z43 z44 f40 f41 f42 f43 f44 z10 z11 z12 z13 z14 f10 f11 f12 f13 f14; obtain ⟨z120, z121, z122, z123, z124, f120, f121, f122, f123, f124⟩ := box5 (HS.blk 0); obtain ⟨z70, z71, z72, z73, z74, f70, f71, f72, f73, f74⟩ := box5 (HS.blk 17); obtain ⟨z60, z61, z62, z63, z64, f60, f61, f62, f63, f64⟩ := box5 (HS.blk 18); obtain ⟨z40, z41, z42, z43, z44, f40, f41, f42, f43, f44⟩ := box5 (HS.blk 19); obtain ⟨z10, z11, z12, z13, z14, f10, f11, f12, f13, f14⟩ := box5 (HS.blk 28)))
  go_ret
  exact ⟨er, HS.base⟩

/-- THE ONE PURE STATEMENT of laws_FnExactSettleNet. -/
def laws_FnExactSettleNet.Pure : Prop := ∀ (l0_0 : List Int) (l0_1 : List (List ByteArray)) (l0_2 : List (List ByteArray)) (l0_3 : List (List ByteArray)) (a0_4 : Int), W25 (⟨l0_0, l0_1, l0_2, l0_3, a0_4⟩ : S25) → ∃ k, laws_FnExactSettleNet.f k l0_0 l0_1 l0_2 l0_3 a0_4 = some true
theorem laws_FnExactSettleNet.walk (P : laws_FnExactSettleNet.Pure) (A0_0 : Option Addr) (c0_0 : Nat) (l0_0 : List Int) (A0_1 : Option Addr) (c0_1 : Nat) (l0_1 : List (List ByteArray)) (A0_2 : Option Addr) (c0_2 : Nat) (l0_2 : List (List ByteArray)) (A0_3 : Option Addr) (c0_3 : Nat) (l0_3 : List (List ByteArray)) (a0_4 : Int) (w : World) (hr0_0 : Kd.C (Kd.int .i64) w A0_0 l0_0.length l0_0) (hc0_0 : l0_0.length ≤ c0_0) (hr0_1 : Kd.C (Kd.slice 9 Kd.string) w A0_1 l0_1.length l0_1) (hc0_1 : l0_1.length ≤ c0_1) (hr0_2 : Kd.C (Kd.slice 9 Kd.string) w A0_2 l0_2.length l0_2) (hc0_2 : l0_2.length ≤ c0_2) (hr0_3 : Kd.C (Kd.slice 9 Kd.string) w A0_3 l0_3.length l0_3) (hc0_3 : l0_3.length ≤ c0_3) (g0 : W25 (⟨l0_0, l0_1, l0_2, l0_3, a0_4⟩ : S25)) :
  Calls Tryz.prog 3 #[.agg #[.slice A0_0 l0_0.length c0_0, .slice A0_1 l0_1.length c0_1, .slice A0_2 l0_2.length c0_2, .slice A0_3 l0_3.length c0_3, .int .i64 a0_4]] w fun e w' => e = .returned (.bool true) ∧ Below w.heap.size w w' := by
 obtain ⟨k, h⟩ := P l0_0 l0_1 l0_2 l0_3 a0_4 g0
 refine (laws_FnExactSettleNet.calls k _ _ l0_0 _ _ l0_1 _ _ l0_2 _ _ l0_3 a0_4 true w hr0_0 hc0_0 hr0_1 hc0_1 hr0_2 hc0_2 hr0_3 hc0_3 h rfl).mono ?_
 rintro e w' ⟨rfl, hd⟩
 exact ⟨rfl, hd⟩

end Go.Proofs.YtihekdlcfohkkaaGreatDoor.QFnExactSettleNet
