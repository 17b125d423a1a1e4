-- printed by this session's own program (wip/tools/pp.py: the kit's print.py with changes); Lean checks it
import Derived.Test.YtihekdlcfohkkaaGreatDoorQFnExactPlayNetx0
import Derived.Test.YtihekdlcfohkkaaGreatDoorQFnExactPlayNetx1
import Derived.Test.YtihekdlcfohkkaaGreatDoorQFnExactPlayNetx2
import Derived.Test.YtihekdlcfohkkaaGreatDoorQFnExactPlayNetx4
import Derived.Test.YtihekdlcfohkkaaGreatDoorQFnExactPlayNetx7
import Derived.Test.YtihekdlcfohkkaaGreatDoorQFnExactPlayNetx8
import Derived.Test.YtihekdlcfohkkaaGreatDoorQFnExactPlayNetx11
namespace Go.Proofs.YtihekdlcfohkkaaGreatDoor.QFnExactPlayNet
open Go.RowKit Go.Proofs.YtihekdlcfohkkaaGreatDoorW.PrintWords Go.Proofs.YtihekdlcfohkkaaGreatDoorW.PrintLast Go.Proofs.YtihekdlcfohkkaaGreatDoorW.PrintMore
attribute [local go_sem] max2_int min2_int max_two min_two max_three min_three max_four min_four strLss strGtr strLeq strGeq   -- for this text's walks alone
set_option linter.unusedVariables false
set_option linter.unusedSimpArgs false

/-! ### laws_eqNetStepS: function 22 -/
def laws_eqNetStepS.l0 : Nat → List (S53) → List (S53) → Int → Option (Bool)
  | 0, _, _, _ => none
  | k + 1, x0, x1, x5 => if x5 < (x0.length : Int) then (if 0 ≤ x5 then (if x5 < (x1.length : Int) then ((laws_eqNetStep.f ((rd_T53 x0 x5).f0) ((rd_T53 x0 x5).f1) ((rd_T53 x0 x5).f2) ((rd_T53 x1 x5).f0) ((rd_T53 x1 x5).f1) ((rd_T53 x1 x5).f2)).bind fun t320 => (if t320 = true then (laws_eqNetStepS.l0 k x0 x1 (wrap64 (x5 + 1))) else (some false))) else (none)) else (none)) else (some true)
def laws_eqNetStepS.f (k : Nat) (l0 : List (S53)) (l1 : List (S53)) : Option (Bool) := if (l0.length : Int) = (l1.length : Int) then (laws_eqNetStepS.l0 k l0 l1 0) else (some false)
theorem laws_eqNetStepS.mono_l : ∀ k, (∀ y0 y1 y2, LeO (laws_eqNetStepS.l0 k y0 y1 y2) (laws_eqNetStepS.l0 (k + 1) y0 y1 y2))
 | 0 => fun _ _ _ r h => by simp [laws_eqNetStepS.l0] at h
 | k + 1 => by
  have ih0 := laws_eqNetStepS.mono_l k
  ·intro y0 y1 y2
   unfold laws_eqNetStepS.l0
   repeat' (first | (with_reducible first | exact ih0 _ _ _ | exact LeO.refl _ | exact LeO.none _ | refine LeO.ite ?_ ?_ | refine LeO.bind ?_ (fun _ => ?_)) | exact ih0 _ _ _ | exact LeO.none _ | refine LeO.ite ?_ ?_ | refine LeO.bind ?_ (fun _ => ?_))
theorem laws_eqNetStepS.mono : ∀ a0 a1 k, LeO (laws_eqNetStepS.f k a0 a1) (laws_eqNetStepS.f (k + 1) a0 a1) := by
 intro a0 a1 k
 have ih0 := laws_eqNetStepS.mono_l k
 unfold laws_eqNetStepS.f
 repeat' (first | (with_reducible first | exact ih0 _ _ _ | exact LeO.refl _ | exact LeO.none _ | refine LeO.ite ?_ ?_ | refine LeO.bind ?_ (fun _ => ?_)) | exact ih0 _ _ _ | exact LeO.none _ | refine LeO.ite ?_ ?_ | refine LeO.bind ?_ (fun _ => ?_))
def laws_eqNetStepS.T6 : Bool × List (List Nat × List Nat) := (true, [([], []), ([], []), ([0, 1], [0, 1]), ([2], [2]), ([], []), ([], []), ([4, 5], [4, 5]), ([6], [6]), ([3, 7], [3, 7]), ([8], [8])])
def laws_eqNetStepS.B6 : List Nat := [0, 0, 3, 7, 0, 0, 48, 112, 255, 511]
theorem laws_eqNetStepS.tab6 : rtab .any (opsOf Tryz.f22 6) = laws_eqNetStepS.T6 := by kernel_rfl
theorem laws_eqNetStepS.bits6 : waitsOk laws_eqNetStepS.T6.2 laws_eqNetStepS.B6 = true := by kernel_rfl
set_option maxHeartbeats 8000000 in
set_option maxRecDepth 100000 in
theorem laws_eqNetStepS.calls (k : Nat) (A0 : Option Addr) (c0 : Nat) (l0 : List (S53)) (A1 : Option Addr) (c1 : Nat) (l1 : List (S53)) (r : Bool) (w : World) (hr0 : Kd.C k53 w A0 l0.length l0) (hc0 : l0.length ≤ c0) (hr1 : Kd.C k53 w A1 l1.length l1) (hc1 : l1.length ≤ c1) (h : laws_eqNetStepS.f k l0 l1 = some r) :
  Calls Tryz.prog 22 #[.slice A0 l0.length c0, .slice A1 l1.length c1] w fun e w' => e = .returned (.bool r) ∧ Below w.heap.size w w' := by
 have hu53 := Tryz.underlying53
 have HR0 := Aside0.mk hr0; have HC0 := Aside0.mk hc0; clear hr0 hc0; have HR1 := Aside0.mk hr1; have HC1 := Aside0.mk hc1; clear hr1 hc1
 have HB := Aside0.mk (Below.refl w.heap.size w)
 have H : (if (l0.length : Int) = (l1.length : Int) then (laws_eqNetStepS.l0 k l0 l1 0) else (some false)) = some r := h
 clear h
 by_cases c3 : (l0.length : Int) = (l1.length : Int)
 ·rw [if_pos c3] at H
  have c3b0 : ((l0.length : Int) == (l1.length : Int)) = true := beq_iff_eq.mpr c3
  have c3b1 : ((l0.length : Int) != (l1.length : Int)) = false := bne_eq_false_iff_eq.mpr c3
  have c3b2 : (l0.length == l1.length) = true := by first | simpa using c3 | (simp at c3 ⊢; omega)
  clear c3
  have H' := Aside0.mk H
  clear H
  go_enter Tryz.func22, Tryz.ntmps22
  go_wp2
  go_loopg [5] k (fun kq v5 w' => ∃ (x5_1 : Int), v5 = .int .i64 x5_1 ∧ Aside0 (laws_eqNetStepS.l0 kq l0 l1 x5_1 = some r) ∧ Aside0 (kq ≤ k) ∧ Aside0 (Below w.heap.size w w'))
  case atStart => exact ⟨(0), er, H', ⟨Nat.le_refl _⟩, ⟨belowd HB⟩⟩
  case round =>
   clear H'
   (try clear c1); (try clear c3b0); (try clear c3b1); (try clear c3b2)
   obtain ⟨x5_1, rfl, HA, HK1, HB⟩ := hrel
   cases gk with
   | zero => exact absurd HA.out (by simp [laws_eqNetStepS.l0])
   | succ k1 =>
    have H := HA.out; clear HA
    simp only [laws_eqNetStepS.l0] at H
    by_cases c4 : x5_1 < (l0.length : Int)
    ·rw [if_pos c4] at H
     have c4b0 : decide (x5_1 < (l0.length : Int)) = true := decide_eq_true c4
     clear c4; replace H := ifS H; obtain ⟨c5, H⟩ := H; have c5b0 := decide_eq_true c5; clear c5; replace H := ifS H; obtain ⟨c6, H⟩ := H; have c6b0 := decide_eq_true c6; clear c6; replace H := bS H; obtain ⟨t320, A7, H⟩ := H
     replace H : (if t320 = true then (laws_eqNetStepS.l0 k1 l0 l1 (wrap64 (x5_1 + 1))) else (some false)) = some r := H
     by_cases c8 : t320 = true
     ·subst c8
      have H1 : (laws_eqNetStepS.l0 k1 l0 l1 (wrap64 (x5_1 + 1))) = some r := by rw [if_pos rfl] at H; exact H
      clear H
      have H := H1
      clear H1
      have H' := Aside0.mk H
      clear H
      try go_wp2
      replace HB := ak (below_drew1 HB.out)
      have p318 : 0 ≤ (x5_1 : Int) := da
      have q318 : x5_1 < (l0.length : Int) := da
      obtain ⟨ad318, e318, hx318_0, hx318_1, hx318_2⟩ := at_T53 HR0.out x5_1 p318 q318
      have hw318_2 := hx318_2
      have hw318_1 := hx318_1
      have hw318_0 := hx318_0
      cases e318
      replace hx318_0 := (HB.out.cell (World.block_lt_of_cell? w _ hx318_0)).trans hx318_0
      replace hx318_1 := (HB.out.cell (World.block_lt_of_cell? w _ hx318_1)).trans hx318_1
      replace hx318_2 := (HB.out.cell (World.block_lt_of_cell? w _ hx318_2)).trans hx318_2
      replace p318 := eq_true p318; replace q318 := eq_true q318
      have p319 : 0 ≤ (x5_1 : Int) := da
      have q319 : x5_1 < (l1.length : Int) := da
      obtain ⟨ad319, e319, hx319_0, hx319_1, hx319_2⟩ := at_T53 HR1.out x5_1 p319 q319
      have hw319_2 := hx319_2
      have hw319_1 := hx319_1
      have hw319_0 := hx319_0
      cases e319
      replace hx319_0 := (HB.out.cell (World.block_lt_of_cell? w _ hx319_0)).trans hx319_0
      replace hx319_1 := (HB.out.cell (World.block_lt_of_cell? w _ hx319_1)).trans hx319_1
      replace hx319_2 := (HB.out.cell (World.block_lt_of_cell? w _ hx319_2)).trans hx319_2
      replace p319 := eq_true p319; replace q319 := eq_true q319
      refine start_ (n := 10) (S := fun w' => w'.cell? (ad318.add ((x5_1).toNat * 3)) = some (.int .i64 ((rd_T53 l0 x5_1).f0)) ∧ w'.cell? ⟨(ad318.add ((x5_1).toNat * 3)).block, (ad318.add ((x5_1).toNat * 3)).off + 1, none⟩ = some (.int .i64 ((rd_T53 l0 x5_1).f1)) ∧ w'.cell? ⟨(ad318.add ((x5_1).toNat * 3)).block, (ad318.add ((x5_1).toNat * 3)).off + 2, none⟩ = some (.string ((rd_T53 l0 x5_1).f2)) ∧ w'.cell? (ad319.add ((x5_1).toNat * 3)) = some (.int .i64 ((rd_T53 l1 x5_1).f0)) ∧ w'.cell? ⟨(ad319.add ((x5_1).toNat * 3)).block, (ad319.add ((x5_1).toNat * 3)).off + 1, none⟩ = some (.int .i64 ((rd_T53 l1 x5_1).f1)) ∧ w'.cell? ⟨(ad319.add ((x5_1).toNat * 3)).block, (ad319.add ((x5_1).toNat * 3)).off + 2, none⟩ = some (.string ((rd_T53 l1 x5_1).f2))) (ds := []) (bl 10 0) (by kernel_rfl) rfl rfl ⟨((HB.out.cell (World.block_lt_of_cell? w _ hw318_0)).trans hw318_0), ((HB.out.cell (World.block_lt_of_cell? w _ hw318_1)).trans hw318_1), ((HB.out.cell (World.block_lt_of_cell? w _ hw318_2)).trans hw318_2), ((HB.out.cell (World.block_lt_of_cell? w _ hw319_0)).trans hw319_0), ((HB.out.cell (World.block_lt_of_cell? w _ hw319_1)).trans hw319_1), ((HB.out.cell (World.block_lt_of_cell? w _ hw319_2)).trans hw319_2)⟩ (fun hHeld => ?_); refine with_tabW laws_eqNetStepS.tab6 laws_eqNetStepS.bits6 (fun HT_ HW_ => ?_)
      generalize wr.drew = w9 at HB hx318_0 hx318_1 hx318_2 hx319_0 hx319_1 hx319_2 hHeld ⊢
      refine pureA 0 (some 17) 10 1 HT_ ?_
      refine pureA 1 (some 18) 10 3 HT_ ?_
      refine pureA 2 (some 19) 10 7 HT_ ?_
      refine pureA 4 (some 21) 10 23 HT_ ?_
      refine pureA 5 (some 22) 10 55 HT_ ?_
      refine pureA 6 (some 23) 10 119 HT_ ?_
      refine takeA 3 (some 20) 10 127 HT_ HW_ hHeld ?_ (hy := by rintro w' ⟨s0, s1, s2, s3, s4, s5⟩; go_simp; with_reducible rfl)
      refine takeA 7 (some 24) 10 255 HT_ HW_ hHeld ?_ (hy := by rintro w' ⟨s0, s1, s2, s3, s4, s5⟩; go_simp; with_reducible rfl)
      refine oneA 8 (some 25) 10 511 HT_ (fun K hK => ?_)
      refine goes_ Tryz.func63 (by kernel_rfl) rfl #[.agg #[.int .i64 ((rd_T53 l0 x5_1).f0), .int .i64 ((rd_T53 l0 x5_1).f1), .string ((rd_T53 l0 x5_1).f2)], .agg #[.int .i64 ((rd_T53 l1 x5_1).f0), .int .i64 ((rd_T53 l1 x5_1).f1), .string ((rd_T53 l1 x5_1).f2)]] (by rfl) rfl rfl (by (try simp only [List.map_toArray, List.map_cons, List.map_nil]); first | done | rfl | (simp only [List.length_drop, List.length_take]; rfl)) ?_
      with_reducible refine (laws_eqNetStep.calls ((rd_T53 l0 x5_1).f0) ((rd_T53 l0 x5_1).f1) ((rd_T53 l0 x5_1).f2) ((rd_T53 l1 x5_1).f0) ((rd_T53 l1 x5_1).f1) ((rd_T53 l1 x5_1).f2) true _ A7.out).mono ?_
      rintro e w10 ⟨rfl, hb⟩
      refine ⟨_, rfl, ?_⟩
      replace HB := ak (below_step (belowd HB) hb)
      (try clear hb); (try clear hb2); (try clear hk); (try clear hi)
      refine hK.out _ _ ⟨((HB.out.cell (World.block_lt_of_cell? w _ hw318_0)).trans hw318_0), ((HB.out.cell (World.block_lt_of_cell? w _ hw318_1)).trans hw318_1), ((HB.out.cell (World.block_lt_of_cell? w _ hw318_2)).trans hw318_2), ((HB.out.cell (World.block_lt_of_cell? w _ hw319_0)).trans hw319_0), ((HB.out.cell (World.block_lt_of_cell? w _ hw319_1)).trans hw319_1), ((HB.out.cell (World.block_lt_of_cell? w _ hw319_2)).trans hw319_2)⟩ (fun hHeld => ?_)
      clear hK K
      refine norm_ (a' := ?_) ?_ ?_
      rotate_left
      ·show Act.put _ (some 25) _ = _
       simp only [Act.put, List.setIfInBounds_toArray, List.set_cons_zero, List.set_cons_succ, i64_w, i32_w]
       rfl
      refine pureA 9 (some 26) 10 1023 HT_ ?_
      refine done_ (done_of HT_.out (by kernel_rfl)) ?_
      try go_wp2
      go_roundg k1
      case measure => have := HK1.out; omega
      case rel => exact ⟨(wrap64 (x5_1 + 1)), er, H', ⟨by have := HK1.out; omega⟩, ⟨belowd HB⟩⟩
     ·replace c8 := Bool.eq_false_iff.mpr c8
      subst c8
      have H1 : (some false) = some r := by rw [if_neg (show ¬ (false = true) by decide)] at H; exact H
      clear H
      have H := H1
      clear H1
      obtain rfl := Option.some.inj H
      try go_wp2
      replace HB := ak (below_drew1 HB.out)
      have p318 : 0 ≤ (x5_1 : Int) := da
      have q318 : x5_1 < (l0.length : Int) := da
      obtain ⟨ad318, e318, hx318_0, hx318_1, hx318_2⟩ := at_T53 HR0.out x5_1 p318 q318
      have hw318_2 := hx318_2
      have hw318_1 := hx318_1
      have hw318_0 := hx318_0
      cases e318
      replace hx318_0 := (HB.out.cell (World.block_lt_of_cell? w _ hx318_0)).trans hx318_0
      replace hx318_1 := (HB.out.cell (World.block_lt_of_cell? w _ hx318_1)).trans hx318_1
      replace hx318_2 := (HB.out.cell (World.block_lt_of_cell? w _ hx318_2)).trans hx318_2
      replace p318 := eq_true p318; replace q318 := eq_true q318
      have p319 : 0 ≤ (x5_1 : Int) := da
      have q319 : x5_1 < (l1.length : Int) := da
      obtain ⟨ad319, e319, hx319_0, hx319_1, hx319_2⟩ := at_T53 HR1.out x5_1 p319 q319
      have hw319_2 := hx319_2
      have hw319_1 := hx319_1
      have hw319_0 := hx319_0
      cases e319
      replace hx319_0 := (HB.out.cell (World.block_lt_of_cell? w _ hx319_0)).trans hx319_0
      replace hx319_1 := (HB.out.cell (World.block_lt_of_cell? w _ hx319_1)).trans hx319_1
      replace hx319_2 := (HB.out.cell (World.block_lt_of_cell? w _ hx319_2)).trans hx319_2
      replace p319 := eq_true p319; replace q319 := eq_true q319
      refine start_ (n := 10) (S := fun w' => w'.cell? (ad318.add ((x5_1).toNat * 3)) = some (.int .i64 ((rd_T53 l0 x5_1).f0)) ∧ w'.cell? ⟨(ad318.add ((x5_1).toNat * 3)).block, (ad318.add ((x5_1).toNat * 3)).off + 1, none⟩ = some (.int .i64 ((rd_T53 l0 x5_1).f1)) ∧ w'.cell? ⟨(ad318.add ((x5_1).toNat * 3)).block, (ad318.add ((x5_1).toNat * 3)).off + 2, none⟩ = some (.string ((rd_T53 l0 x5_1).f2)) ∧ w'.cell? (ad319.add ((x5_1).toNat * 3)) = some (.int .i64 ((rd_T53 l1 x5_1).f0)) ∧ w'.cell? ⟨(ad319.add ((x5_1).toNat * 3)).block, (ad319.add ((x5_1).toNat * 3)).off + 1, none⟩ = some (.int .i64 ((rd_T53 l1 x5_1).f1)) ∧ w'.cell? ⟨(ad319.add ((x5_1).toNat * 3)).block, (ad319.add ((x5_1).toNat * 3)).off + 2, none⟩ = some (.string ((rd_T53 l1 x5_1).f2))) (ds := []) (bl 10 0) (by kernel_rfl) rfl rfl ⟨((HB.out.cell (World.block_lt_of_cell? w _ hw318_0)).trans hw318_0), ((HB.out.cell (World.block_lt_of_cell? w _ hw318_1)).trans hw318_1), ((HB.out.cell (World.block_lt_of_cell? w _ hw318_2)).trans hw318_2), ((HB.out.cell (World.block_lt_of_cell? w _ hw319_0)).trans hw319_0), ((HB.out.cell (World.block_lt_of_cell? w _ hw319_1)).trans hw319_1), ((HB.out.cell (World.block_lt_of_cell? w _ hw319_2)).trans hw319_2)⟩ (fun hHeld => ?_); refine with_tabW laws_eqNetStepS.tab6 laws_eqNetStepS.bits6 (fun HT_ HW_ => ?_)
      generalize wr.drew = w11 at HB hx318_0 hx318_1 hx318_2 hx319_0 hx319_1 hx319_2 hHeld ⊢
      refine pureA 0 (some 17) 10 1 HT_ ?_
      refine pureA 1 (some 18) 10 3 HT_ ?_
      refine pureA 2 (some 19) 10 7 HT_ ?_
      refine pureA 4 (some 21) 10 23 HT_ ?_
      refine pureA 5 (some 22) 10 55 HT_ ?_
      refine pureA 6 (some 23) 10 119 HT_ ?_
      refine takeA 3 (some 20) 10 127 HT_ HW_ hHeld ?_ (hy := by rintro w' ⟨s0, s1, s2, s3, s4, s5⟩; go_simp; with_reducible rfl)
      refine takeA 7 (some 24) 10 255 HT_ HW_ hHeld ?_ (hy := by rintro w' ⟨s0, s1, s2, s3, s4, s5⟩; go_simp; with_reducible rfl)
      refine oneA 8 (some 25) 10 511 HT_ (fun K hK => ?_)
      refine goes_ Tryz.func63 (by kernel_rfl) rfl #[.agg #[.int .i64 ((rd_T53 l0 x5_1).f0), .int .i64 ((rd_T53 l0 x5_1).f1), .string ((rd_T53 l0 x5_1).f2)], .agg #[.int .i64 ((rd_T53 l1 x5_1).f0), .int .i64 ((rd_T53 l1 x5_1).f1), .string ((rd_T53 l1 x5_1).f2)]] (by rfl) rfl rfl (by (try simp only [List.map_toArray, List.map_cons, List.map_nil]); first | done | rfl | (simp only [List.length_drop, List.length_take]; rfl)) ?_
      with_reducible refine (laws_eqNetStep.calls ((rd_T53 l0 x5_1).f0) ((rd_T53 l0 x5_1).f1) ((rd_T53 l0 x5_1).f2) ((rd_T53 l1 x5_1).f0) ((rd_T53 l1 x5_1).f1) ((rd_T53 l1 x5_1).f2) false _ A7.out).mono ?_
      rintro e w12 ⟨rfl, hb⟩
      refine ⟨_, rfl, ?_⟩
      replace HB := ak (below_step (belowd HB) hb)
      (try clear hb); (try clear hb2); (try clear hk); (try clear hi)
      refine hK.out _ _ ⟨((HB.out.cell (World.block_lt_of_cell? w _ hw318_0)).trans hw318_0), ((HB.out.cell (World.block_lt_of_cell? w _ hw318_1)).trans hw318_1), ((HB.out.cell (World.block_lt_of_cell? w _ hw318_2)).trans hw318_2), ((HB.out.cell (World.block_lt_of_cell? w _ hw319_0)).trans hw319_0), ((HB.out.cell (World.block_lt_of_cell? w _ hw319_1)).trans hw319_1), ((HB.out.cell (World.block_lt_of_cell? w _ hw319_2)).trans hw319_2)⟩ (fun hHeld => ?_)
      clear hK K
      refine norm_ (a' := ?_) ?_ ?_
      rotate_left
      ·show Act.put _ (some 25) _ = _
       simp only [Act.put, List.setIfInBounds_toArray, List.set_cons_zero, List.set_cons_succ, i64_w, i32_w]
       rfl
      refine pureA 9 (some 26) 10 1023 HT_ ?_
      refine done_ (done_of HT_.out (by kernel_rfl)) ?_
      try go_wp2
      go_ret
      exact ⟨er2, belowd HB⟩
    ·rw [if_neg c4] at H
     have c4b0 : decide (x5_1 < (l0.length : Int)) = false := decide_eq_false c4
     clear c4
     obtain rfl := Option.some.inj H
     go_wp2
     go_ret
     exact ⟨er2, belowd HB⟩
 ·rw [if_neg c3] at H
  have c3b0 : ((l0.length : Int) == (l1.length : Int)) = false := beq_eq_false_iff_ne.mpr c3
  have c3b1 : ((l0.length : Int) != (l1.length : Int)) = true := bne_iff_ne.mpr c3
  have c3b2 : (l0.length == l1.length) = false := by first | simpa using c3 | (simp at c3 ⊢; omega)
  obtain rfl := Option.some.inj H
  go_enter Tryz.func22, Tryz.ntmps22
  go_wp2
  go_ret
  exact ⟨er2, belowd HB⟩

/-! ### laws_markNetStepS: function 24 -/
def laws_markNetStepS.l0 : Nat → List (S53) → Int → Int → Option (Int × (List (S53)))
  | 0, _, _, _ => none
  | k + 1, x0, x1, x5 => if x5 < (x0.length : Int) then (if 0 ≤ x5 then ((some (x0.set (x5 : Int).toNat (⟨x1, (rd_T53 x0 x5).f1, (rd_T53 x0 x5).f2⟩ : S53) : List (S53))).bind fun y321 => ((some (y321.set (x5 : Int).toNat (⟨(rd_T53 y321 x5).f0, wrap64 (x1 + 1), (rd_T53 y321 x5).f2⟩ : S53) : List (S53))).bind fun y322 => ((laws_markText.f k (wrap64 ((wrap64 (x1 + 1)) + 1))).bind fun t323 => (laws_markNetStepS.l0 k (y322.set (x5 : Int).toNat (⟨(rd_T53 y322 x5).f0, (rd_T53 y322 x5).f1, t323⟩ : S53)) (wrap64 ((wrap64 ((wrap64 (x1 + 1)) + 1)) + 1)) (wrap64 (x5 + 1)))))) else (none)) else (some (x1, x0))
def laws_markNetStepS.f (k : Nat) (l0 : List (S53)) (a1 : Int) : Option (Int × (List (S53))) := laws_markNetStepS.l0 k l0 a1 0
theorem laws_markNetStepS.mono_l : ∀ k, (∀ y0 y1 y2, LeO (laws_markNetStepS.l0 k y0 y1 y2) (laws_markNetStepS.l0 (k + 1) y0 y1 y2))
 | 0 => fun _ _ _ r h => by simp [laws_markNetStepS.l0] at h
 | k + 1 => by
  have ih0 := laws_markNetStepS.mono_l k
  ·intro y0 y1 y2
   unfold laws_markNetStepS.l0
   repeat' (first | (with_reducible first | exact ih0 _ _ _ | exact laws_markText.mono _ _ | exact LeO.refl _ | exact LeO.none _ | refine LeO.ite ?_ ?_ | refine LeO.bind ?_ (fun _ => ?_)) | exact ih0 _ _ _ | exact laws_markText.mono _ _ | exact LeO.none _ | refine LeO.ite ?_ ?_ | refine LeO.bind ?_ (fun _ => ?_))
theorem laws_markNetStepS.mono : ∀ a0 a1 k, LeO (laws_markNetStepS.f k a0 a1) (laws_markNetStepS.f (k + 1) a0 a1) := by
 intro a0 a1 k
 have ih0 := laws_markNetStepS.mono_l k
 unfold laws_markNetStepS.f
 repeat' (first | (with_reducible first | exact ih0 _ _ _ | exact laws_markText.mono _ _ | exact LeO.refl _ | exact LeO.none _ | refine LeO.ite ?_ ?_ | refine LeO.bind ?_ (fun _ => ?_)) | exact ih0 _ _ _ | exact laws_markText.mono _ _ | exact LeO.none _ | refine LeO.ite ?_ ?_ | refine LeO.bind ?_ (fun _ => ?_))
set_option maxHeartbeats 8000000 in
set_option maxRecDepth 100000 in
theorem laws_markNetStepS.calls (k : Nat) (P0_ : Nat → Prop) (u9000_ : Value) (l0 : List (S53)) (a1 : Int) (r1 : Int) (r2 : List (S53)) (w0 w : World) (hB : Below w0.heap.size w0 w) (ho0 : Kd.R k53 53 w w0.heap.size P0_ u9000_ l0) (h : laws_markNetStepS.f k l0 a1 = some (r1, r2)) :
  Calls Tryz.prog 24 #[u9000_, .int .i64 a1] w fun e w' => e = .returned (.int .i64 r1) ∧ Kd.R k53 53 w' w0.heap.size (fun k_ => (P0_ k_ ∨ w.heap.size ≤ k_)) u9000_ r2 ∧ Below w0.heap.size w0 w' ∧ Kept w w' (fun k_ => P0_ k_) := by
 have HO0 := Aside0.mk (show Kd.R k53 53 w w0.heap.size (fun k_ => (P0_ k_ ∨ w.heap.size ≤ k_)) u9000_ l0 from Kd.R_mono ho0 (fun k_ hk => (.inl hk)))
 have HK := Aside0.mk (Kept.refl w (fun k_ => P0_ k_))
 have HW0 := Aside0.mk hB.size
 have HB := Aside0.mk hB; clear hB
 have H : (laws_markNetStepS.l0 k l0 a1 0) = some (r1, r2) := h
 clear h
 have H' := Aside0.mk H
 clear H
 go_enter Tryz.func24, Tryz.ntmps24
 go_wp2
 go_loopg [1, 5] k (fun kq v1 v5 w' => ∃ (x0_1 : List (S53)) (x1_1 : Int) (x5_1 : Int), v1 = .int .i64 x1_1 ∧ v5 = .int .i64 x5_1 ∧ Aside0 (laws_markNetStepS.l0 kq x0_1 x1_1 x5_1 = some (r1, r2)) ∧ Aside0 (kq ≤ k) ∧ Aside0 (Kd.R k53 53 w' w0.heap.size (fun k_ => (P0_ k_ ∨ w.heap.size ≤ k_)) u9000_ x0_1) ∧ Aside0 (Kept w w' (fun k_ => P0_ k_)) ∧ Aside0 (Below w0.heap.size w0 w'))
 case atStart => exact ⟨(l0), (a1), (0), er, er, H', ⟨Nat.le_refl _⟩, ⟨rdl HO0⟩, ⟨by repeat (first | (with_reducible first | exact HK.out | apply Kept.alloc | apply Kept.drewN | apply Kept.drew) | exact HK.out)⟩, ⟨belowd HB⟩⟩
 case round =>
  clear H'
  obtain ⟨x0_1, x1_1, x5_1, rfl, rfl, HA, HK1, HO_0, HK, HB⟩ := hrel
  cases gk with
  | zero => exact absurd HA.out (by simp [laws_markNetStepS.l0])
  | succ k1 =>
   have H := HA.out; clear HA
   simp only [laws_markNetStepS.l0] at H
   by_cases c3 : x5_1 < (x0_1.length : Int)
   ·rw [if_pos c3] at H
    have c3b0 : decide (x5_1 < (x0_1.length : Int)) = true := decide_eq_true c3
    clear c3; replace H := ifS H; obtain ⟨c4, H⟩ := H; have c4b0 := decide_eq_true c4; clear c4
    obtain ⟨y321, hy_⟩ : ∃ y_ : List (S53), y_ = (x0_1.set (x5_1 : Int).toNat (⟨x1_1, (rd_T53 x0_1 x5_1).f1, (rd_T53 x0_1 x5_1).f2⟩ : S53)) := ⟨_, rfl⟩
    replace H : ((some (y321.set (x5_1 : Int).toNat (⟨(rd_T53 y321 x5_1).f0, wrap64 (x1_1 + 1), (rd_T53 y321 x5_1).f2⟩ : S53) : List (S53))).bind fun y322 => ((laws_markText.f k1 (wrap64 ((wrap64 (x1_1 + 1)) + 1))).bind fun t323 => (laws_markNetStepS.l0 k1 (y322.set (x5_1 : Int).toNat (⟨(rd_T53 y322 x5_1).f0, (rd_T53 y322 x5_1).f1, t323⟩ : S53)) (wrap64 ((wrap64 ((wrap64 (x1_1 + 1)) + 1)) + 1)) (wrap64 (x5_1 + 1))))) = some (r1, r2) := yH
    have Ny321 := ak hy_; clear hy_
    obtain ⟨y322, hy_⟩ : ∃ y_ : List (S53), y_ = (y321.set (x5_1 : Int).toNat (⟨(rd_T53 y321 x5_1).f0, wrap64 (x1_1 + 1), (rd_T53 y321 x5_1).f2⟩ : S53)) := ⟨_, rfl⟩
    replace H : ((laws_markText.f k1 (wrap64 ((wrap64 (x1_1 + 1)) + 1))).bind fun t323 => (laws_markNetStepS.l0 k1 (y322.set (x5_1 : Int).toNat (⟨(rd_T53 y322 x5_1).f0, (rd_T53 y322 x5_1).f1, t323⟩ : S53)) (wrap64 ((wrap64 ((wrap64 (x1_1 + 1)) + 1)) + 1)) (wrap64 (x5_1 + 1)))) = some (r1, r2) := yH
    have Ny322 := ak hy_; clear hy_; replace H := bS H; obtain ⟨t323, A7, H⟩ := H
    replace H : (laws_markNetStepS.l0 k1 (y322.set (x5_1 : Int).toNat (⟨(rd_T53 y322 x5_1).f0, (rd_T53 y322 x5_1).f1, t323⟩ : S53)) (wrap64 ((wrap64 ((wrap64 (x1_1 + 1)) + 1)) + 1)) (wrap64 (x5_1 + 1))) = some (r1, r2) := H
    obtain ⟨y324, hy_⟩ : ∃ y_ : List (S53), y_ = (y322.set (x5_1 : Int).toNat (⟨(rd_T53 y322 x5_1).f0, (rd_T53 y322 x5_1).f1, t323⟩ : S53)) := ⟨_, rfl⟩
    replace H : (laws_markNetStepS.l0 k1 y324 (wrap64 ((wrap64 ((wrap64 (x1_1 + 1)) + 1)) + 1)) (wrap64 (x5_1 + 1))) = some (r1, r2) := yH
    have Ny324 := ak hy_; clear hy_
    have H' := Aside0.mk H
    clear H
    obtain ⟨Ao9, co9, eo9⟩ := Kd.R_slice HO_0.out
    subst eo9
    have p5 : 0 ≤ (x5_1 : Int) := da
    have q5 : (x5_1 : Int) < ((x0_1.length : Int) : Int) := da
    obtain ⟨go5, co5, eo5, gb5, gl5, cl5, HG5⟩ := Kd.R_form HO_0.out (by omega)
    (first | cases eo5 | (injection eo5 with ea_ en_ ec_; (first | subst ea_ | (injection ea_ with ea_; subst ea_)); subst ec_; clear en_))
    have GB5 := Aside0.mk gb5; have GG5 := Aside0.mk HG5; clear gb5 gl5 HG5
    have HMgo5 := Aside0.mk (show (P0_ go5 ∨ w.heap.size ≤ go5) from (HO_0.out.1 _ rfl))
    obtain ⟨ce5, hcl5, hM5, hcc5, hfr5⟩ := Kd.R_elem HO_0.out z53 (x5_1 : Int) p5 q5
    obtain rfl := k53_openM hM5
    have hx5_0 : wr.cell? ⟨go5, (x5_1 : Int).toNat * 3, none⟩ = some (.int .i64 ((rd_T53 x0_1 x5_1).f0)) := hcc5 0 _ rfl
    have hx5_1 : wr.cell? ⟨go5, (x5_1 : Int).toNat * 3 + 1, none⟩ = some (.int .i64 ((rd_T53 x0_1 x5_1).f1)) := hcc5 1 _ rfl
    have hx5_2 : wr.cell? ⟨go5, (x5_1 : Int).toNat * 3 + 2, none⟩ = some (.string ((rd_T53 x0_1 x5_1).f2)) := hcc5 2 _ rfl
    have hf5_0 : wr.frozen? ⟨go5, (x5_1 : Int).toNat * 3, none⟩ = false := hfr5 0
    have hf5_1 : wr.frozen? ⟨go5, (x5_1 : Int).toNat * 3 + 1, none⟩ = false := hfr5 1
    have hf5_2 : wr.frozen? ⟨go5, (x5_1 : Int).toNat * 3 + 2, none⟩ = false := hfr5 2
    clear hcl5 hcc5 hfr5 hM5; replace p5 := eq_true p5; replace q5 := eq_true q5
    have HX10 := Aside0.mk (show Kd.R k53 53 wr w0.heap.size (fun k_ => (P0_ k_ ∨ w.heap.size ≤ k_)) (.slice (some ⟨go5, 0, none⟩) x0_1.length co9) x0_1 from (rdl HO_0))
    obtain ⟨ce10, hcl10, hM10, hcc10, hfr10⟩ := Kd.R_elem HX10.out z53 (x5_1 : Int) (da) (by have h_ : (x5_1 : Int) < ((x0_1.length : Int) : Int) := da; first | exact h_ | (have e_ := (Kd.R_reads' HO_0.out).1; omega) | simpa using h_)
    obtain rfl := k53_openM hM10
    have HP10 := Kd.R_seg HX10.out (x5_1 : Int) (da) (by have h_ : (x5_1 : Int) < ((x0_1.length : Int) : Int) := da; first | exact h_ | (have e_ := (Kd.R_reads' HO_0.out).1; omega) | simpa using h_) (seg := [.int .i64 x1_1]) (j := 0) hcl10 hcc10 (show 1 ≤ 3 from by decide) (x' := (⟨x1_1, (rd_T53 x0_1 x5_1).f1, (rd_T53 x0_1 x5_1).f2⟩ : S53)) (k53_mkM _ _ _ (⟨x1_1, (rd_T53 x0_1 x5_1).f1, (rd_T53 x0_1 x5_1).f2⟩ : S53) ) (fun _ hk => hk)
    have hx10_0 := hcc10 0 _ rfl
    (try simp only [show (k53).sz = 3 from rfl, Nat.mul_one, Nat.add_zero] at hx10_0)
    have hf10_0 := hfr10 0
    (try simp only [show (k53).sz = 3 from rfl, Nat.mul_one, Nat.add_zero] at hf10_0)
    clear hcl10 hcc10 hfr10 hM10
    go_wp2_with (first | ((with_reducible refine gate_store (t := 3) (p := 16) rfl ?_); refine store_event (t := 3) (p := 16) (v := ?vo_w11) (w1 := (wr.setCell ⟨go5, (x5_1 : Int).toNat * 3, none⟩ (.int .i64 x1_1))) ?hg ?ho ?hn ?hr ?_; (case ho => rfl); (case hg => rfl); (case hn => rfl); (case hr => first | (go_simp; done) | (go_simp; rfl)); intro w11 hw; have hg : wr.grownBy w11 (some go5) := (by rw [hw]; exact HP10.2); have hp_ : Kd.R k53 53 w11 w0.heap.size (fun k_ => (P0_ k_ ∨ w.heap.size ≤ k_)) (.slice (some ⟨go5, 0, none⟩) x0_1.length co9) y321 := (by rw [hw, Ny321.out]; exact HP10.1); clear HP10; replace HB := ak ((by rw [hw]; exact below_set (HB.out) GB5.out : Below w0.heap.size w0 w11)); replace HK := ak (Kept.of_grown (S := (fun k_ => P0_ k_)) hg (by repeat (first | (with_reducible first | exact HK.out | apply Kept.alloc | apply Kept.drewN | apply Kept.drew) | exact HK.out)) (fun k_ e_ => (HO_0.out.1 k_ e_))); replace HO_0 := ak (hp_); clear hg hw hp_; have p6 : 0 ≤ (x5_1 : Int) := da; have q6 : (x5_1 : Int) < ((x0_1.length : Int) : Int) := da; obtain ⟨ce6, hcl6, hM6, hcc6, hfr6⟩ := Kd.R_elem HO_0.out z53 (x5_1 : Int) p6 q6; obtain rfl := k53_openM hM6; have hx6_0 : w11.cell? ⟨go5, (x5_1 : Int).toNat * 3, none⟩ = some (.int .i64 ((rd_T53 y321 x5_1).f0)) := hcc6 0 _ rfl; have hx6_1 : w11.cell? ⟨go5, (x5_1 : Int).toNat * 3 + 1, none⟩ = some (.int .i64 ((rd_T53 y321 x5_1).f1)) := hcc6 1 _ rfl; have hx6_2 : w11.cell? ⟨go5, (x5_1 : Int).toNat * 3 + 2, none⟩ = some (.string ((rd_T53 y321 x5_1).f2)) := hcc6 2 _ rfl; have hf6_0 : w11.frozen? ⟨go5, (x5_1 : Int).toNat * 3, none⟩ = false := hfr6 0; have hf6_1 : w11.frozen? ⟨go5, (x5_1 : Int).toNat * 3 + 1, none⟩ = false := hfr6 1; have hf6_2 : w11.frozen? ⟨go5, (x5_1 : Int).toNat * 3 + 2, none⟩ = false := hfr6 2; clear hcl6 hcc6 hfr6 hM6; replace p6 := eq_true p6; replace q6 := eq_true q6; have HX12 := Aside0.mk (show Kd.R k53 53 w11 w0.heap.size (fun k_ => (P0_ k_ ∨ w.heap.size ≤ k_)) (.slice (some ⟨go5, 0, none⟩) x0_1.length co9) y321 from (rdl HO_0)); obtain ⟨ce12, hcl12, hM12, hcc12, hfr12⟩ := Kd.R_elem HX12.out z53 (x5_1 : Int) (da) (by have h_ : (x5_1 : Int) < ((x0_1.length : Int) : Int) := da; first | exact h_ | (have e_ := (Kd.R_reads' HO_0.out).1; omega) | simpa using h_); obtain rfl := k53_openM hM12; have HP12 := Kd.R_seg HX12.out (x5_1 : Int) (da) (by have h_ : (x5_1 : Int) < ((x0_1.length : Int) : Int) := da; first | exact h_ | (have e_ := (Kd.R_reads' HO_0.out).1; omega) | simpa using h_) (seg := [.int .i64 (wrap64 (x1_1 + 1))]) (j := 1) hcl12 hcc12 (show 2 ≤ 3 from by decide) (x' := (⟨(rd_T53 y321 x5_1).f0, wrap64 (x1_1 + 1), (rd_T53 y321 x5_1).f2⟩ : S53)) (k53_mkM _ _ _ (⟨(rd_T53 y321 x5_1).f0, wrap64 (x1_1 + 1), (rd_T53 y321 x5_1).f2⟩ : S53) ) (fun _ hk => hk); have hx12_1 := hcc12 1 _ rfl; (try simp only [show (k53).sz = 3 from rfl, Nat.mul_one, Nat.add_zero] at hx12_1); have hf12_1 := hfr12 1; (try simp only [show (k53).sz = 3 from rfl, Nat.mul_one, Nat.add_zero] at hf12_1); clear hcl12 hcc12 hfr12 hM12) | ((with_reducible refine gate_store (t := 3) (p := 23) rfl ?_); refine store_event (t := 3) (p := 23) (v := ?vo_w13) (w1 := (w11.setCell ⟨go5, (x5_1 : Int).toNat * 3 + 1, none⟩ (.int .i64 (wrap64 (x1_1 + 1))))) ?hg ?ho ?hn ?hr ?_; (case ho => rfl); (case hg => rfl); (case hn => rfl); (case hr => first | (go_simp; done) | (go_simp; rfl)); intro w13 hw; have hg : w11.grownBy w13 (some go5) := (by rw [hw]; exact HP12.2); have hp_ : Kd.R k53 53 w13 w0.heap.size (fun k_ => (P0_ k_ ∨ w.heap.size ≤ k_)) (.slice (some ⟨go5, 0, none⟩) x0_1.length co9) y322 := (by rw [hw, Ny322.out]; exact HP12.1); clear HP12; replace HB := ak ((by rw [hw]; exact below_set (HB.out) GB5.out : Below w0.heap.size w0 w13)); replace HK := ak (Kept.of_grown (S := (fun k_ => P0_ k_)) hg (by repeat (first | (with_reducible first | exact HK.out | apply Kept.alloc | apply Kept.drewN | apply Kept.drew) | exact HK.out)) (fun k_ e_ => (HO_0.out.1 k_ e_))); replace HO_0 := ak (hp_); clear hg hw hp_) | ((with_reducible refine gate_callee (f := 64) rfl ?_); refine goesLa (some 29) rfl Tryz.func64 #[.int .i64 (wrap64 ((wrap64 (x1_1 + 1)) + 1))] rfl ?_; (with_reducible refine (laws_markText.calls k1 (wrap64 ((wrap64 (x1_1 + 1)) + 1)) t323 _ A7.out).mono ?_); rintro e w14 ⟨rfl, hb⟩; refine ⟨_, rfl, ?_⟩; replace HO_0 := ak (Kd.R_below (rdl HO_0) hb); replace HK := ak (Kept.below (S := (fun k_ => P0_ k_)) (by repeat (first | (with_reducible first | exact HK.out | apply Kept.alloc | apply Kept.drewN | apply Kept.drew) | exact HK.out)) hb); replace HB := ak (below_step (belowd HB) hb); (try clear hb); have p8 : 0 ≤ (x5_1 : Int) := da; have q8 : (x5_1 : Int) < ((x0_1.length : Int) : Int) := da; obtain ⟨ce8, hcl8, hM8, hcc8, hfr8⟩ := Kd.R_elem HO_0.out z53 (x5_1 : Int) p8 q8; obtain rfl := k53_openM hM8; have hx8_0 : w14.cell? ⟨go5, (x5_1 : Int).toNat * 3, none⟩ = some (.int .i64 ((rd_T53 y322 x5_1).f0)) := hcc8 0 _ rfl; have hx8_1 : w14.cell? ⟨go5, (x5_1 : Int).toNat * 3 + 1, none⟩ = some (.int .i64 ((rd_T53 y322 x5_1).f1)) := hcc8 1 _ rfl; have hx8_2 : w14.cell? ⟨go5, (x5_1 : Int).toNat * 3 + 2, none⟩ = some (.string ((rd_T53 y322 x5_1).f2)) := hcc8 2 _ rfl; have hf8_0 : w14.frozen? ⟨go5, (x5_1 : Int).toNat * 3, none⟩ = false := hfr8 0; have hf8_1 : w14.frozen? ⟨go5, (x5_1 : Int).toNat * 3 + 1, none⟩ = false := hfr8 1; have hf8_2 : w14.frozen? ⟨go5, (x5_1 : Int).toNat * 3 + 2, none⟩ = false := hfr8 2; clear hcl8 hcc8 hfr8 hM8; replace p8 := eq_true p8; replace q8 := eq_true q8; have HX15 := Aside0.mk (show Kd.R k53 53 w14 w0.heap.size (fun k_ => (P0_ k_ ∨ w.heap.size ≤ k_)) (.slice (some ⟨go5, 0, none⟩) x0_1.length co9) y322 from (rdl HO_0)); obtain ⟨ce15, hcl15, hM15, hcc15, hfr15⟩ := Kd.R_elem HX15.out z53 (x5_1 : Int) (da) (by have h_ : (x5_1 : Int) < ((x0_1.length : Int) : Int) := da; first | exact h_ | (have e_ := (Kd.R_reads' HO_0.out).1; omega) | simpa using h_); obtain rfl := k53_openM hM15; have HP15 := Kd.R_seg HX15.out (x5_1 : Int) (da) (by have h_ : (x5_1 : Int) < ((x0_1.length : Int) : Int) := da; first | exact h_ | (have e_ := (Kd.R_reads' HO_0.out).1; omega) | simpa using h_) (seg := [.string t323]) (j := 2) hcl15 hcc15 (show 3 ≤ 3 from by decide) (x' := (⟨(rd_T53 y322 x5_1).f0, (rd_T53 y322 x5_1).f1, t323⟩ : S53)) (k53_mkM _ _ _ (⟨(rd_T53 y322 x5_1).f0, (rd_T53 y322 x5_1).f1, t323⟩ : S53) ) (fun _ hk => hk); have hx15_2 := hcc15 2 _ rfl; (try simp only [show (k53).sz = 3 from rfl, Nat.mul_one, Nat.add_zero] at hx15_2); have hf15_2 := hfr15 2; (try simp only [show (k53).sz = 3 from rfl, Nat.mul_one, Nat.add_zero] at hf15_2); clear hcl15 hcc15 hfr15 hM15) | ((with_reducible refine gate_store (t := 9) (p := 31) rfl ?_); refine store_event (t := 9) (p := 31) (v := ?vo_w16) (w1 := (w14.setCell ⟨go5, (x5_1 : Int).toNat * 3 + 2, none⟩ (.string t323))) ?hg ?ho ?hn ?hr ?_; (case ho => rfl); (case hg => rfl); (case hn => rfl); (case hr => first | (go_simp; done) | (go_simp; rfl)); intro w16 hw; have hg : w14.grownBy w16 (some go5) := (by rw [hw]; exact HP15.2); have hp_ : Kd.R k53 53 w16 w0.heap.size (fun k_ => (P0_ k_ ∨ w.heap.size ≤ k_)) (.slice (some ⟨go5, 0, none⟩) x0_1.length co9) y324 := (by rw [hw, Ny324.out]; exact HP15.1); clear HP15; replace HB := ak ((by rw [hw]; exact below_set (HB.out) GB5.out : Below w0.heap.size w0 w16)); replace HK := ak (Kept.of_grown (S := (fun k_ => P0_ k_)) hg (by repeat (first | (with_reducible first | exact HK.out | apply Kept.alloc | apply Kept.drewN | apply Kept.drew) | exact HK.out)) (fun k_ e_ => (HO_0.out.1 k_ e_))); replace HO_0 := ak (hp_); clear hg hw hp_))
    go_roundg k1
    case measure => have := HK1.out; omega
    case rel => exact ⟨(y324), (wrap64 ((wrap64 ((wrap64 (x1_1 + 1)) + 1)) + 1)), (wrap64 (x5_1 + 1)), er, er, H', ⟨by have := HK1.out; omega⟩, ⟨rdl HO_0⟩, ⟨by repeat (first | (with_reducible first | exact HK.out | apply Kept.alloc | apply Kept.drewN | apply Kept.drew) | exact HK.out)⟩, ⟨belowd HB⟩⟩
   ·rw [if_neg c3] at H
    have c3b0 : decide (x5_1 < (x0_1.length : Int)) = false := decide_eq_false c3
    clear c3
    simp only [Option.some.injEq, Prod.mk.injEq] at H
    obtain ⟨rfl, rfl⟩ := H
    obtain ⟨Ao17, co17, eo17⟩ := Kd.R_slice HO_0.out
    subst eo17; go_wp2
    go_ret
    exact ⟨er2, by (with_reducible repeat (first | apply Kd.R_alloc | apply Kd.R_drewN | apply Kd.R_drew)); exact HO_0.out, belowd HB, by repeat (first | (with_reducible first | exact HK.out | apply Kept.alloc | apply Kept.drewN | apply Kept.drew) | exact HK.out)⟩

/-! ### laws_markBoolS: function 25 -/
def laws_markBoolS.l0 : Nat → List Bool → Int → Int → Option (Int × List Bool)
  | 0, _, _, _ => none
  | k + 1, x0, x1, x5 => if x5 < (x0.length : Int) then (if 0 ≤ x5 then (laws_markBoolS.l0 k (x0.set (x5 : Int).toNat ((Int.tmod x1 3) == 0)) (wrap64 (x1 + 1)) (wrap64 (x5 + 1))) else (none)) else (some (x1, x0))
def laws_markBoolS.f (k : Nat) (l0 : List Bool) (a1 : Int) : Option (Int × List Bool) := laws_markBoolS.l0 k l0 a1 0
theorem laws_markBoolS.mono_l : ∀ k, (∀ y0 y1 y2, LeO (laws_markBoolS.l0 k y0 y1 y2) (laws_markBoolS.l0 (k + 1) y0 y1 y2))
 | 0 => fun _ _ _ r h => by simp [laws_markBoolS.l0] at h
 | k + 1 => by
  have ih0 := laws_markBoolS.mono_l k
  ·intro y0 y1 y2
   unfold laws_markBoolS.l0
   repeat' (first | (with_reducible first | exact ih0 _ _ _ | exact LeO.refl _ | exact LeO.none _ | refine LeO.ite ?_ ?_ | refine LeO.bind ?_ (fun _ => ?_)) | exact ih0 _ _ _ | exact LeO.none _ | refine LeO.ite ?_ ?_ | refine LeO.bind ?_ (fun _ => ?_))
theorem laws_markBoolS.mono : ∀ a0 a1 k, LeO (laws_markBoolS.f k a0 a1) (laws_markBoolS.f (k + 1) a0 a1) := by
 intro a0 a1 k
 have ih0 := laws_markBoolS.mono_l k
 unfold laws_markBoolS.f
 repeat' (first | (with_reducible first | exact ih0 _ _ _ | exact LeO.refl _ | exact LeO.none _ | refine LeO.ite ?_ ?_ | refine LeO.bind ?_ (fun _ => ?_)) | exact ih0 _ _ _ | exact LeO.none _ | refine LeO.ite ?_ ?_ | refine LeO.bind ?_ (fun _ => ?_))
set_option maxHeartbeats 8000000 in
set_option maxRecDepth 100000 in
theorem laws_markBoolS.calls (k : Nat) (P0_ : Nat → Prop) (u9000_ : Value) (l0 : List Bool) (a1 : Int) (r1 : Int) (r2 : List Bool) (w0 w : World) (hB : Below w0.heap.size w0 w) (ho0 : Kd.R Kd.bool 4 w w0.heap.size P0_ u9000_ l0) (h : laws_markBoolS.f k l0 a1 = some (r1, r2)) :
  Calls Tryz.prog 25 #[u9000_, .int .i64 a1] w fun e w' => e = .returned (.int .i64 r1) ∧ Kd.R Kd.bool 4 w' w0.heap.size (fun k_ => (P0_ k_ ∨ w.heap.size ≤ k_)) u9000_ r2 ∧ Below w0.heap.size w0 w' ∧ Kept w w' (fun k_ => P0_ k_) := by
 have HO0 := Aside0.mk (show Kd.R Kd.bool 4 w w0.heap.size (fun k_ => (P0_ k_ ∨ w.heap.size ≤ k_)) u9000_ l0 from Kd.R_mono ho0 (fun k_ hk => (.inl hk)))
 have HK := Aside0.mk (Kept.refl w (fun k_ => P0_ k_))
 have HW0 := Aside0.mk hB.size
 have HB := Aside0.mk hB; clear hB
 have H : (laws_markBoolS.l0 k l0 a1 0) = some (r1, r2) := h
 clear h
 have H' := Aside0.mk H
 clear H
 go_enter Tryz.func25, Tryz.ntmps25
 go_wp2
 go_loopg [1, 5] k (fun kq v1 v5 w' => ∃ (x0_1 : List Bool) (x1_1 : Int) (x5_1 : Int), v1 = .int .i64 x1_1 ∧ v5 = .int .i64 x5_1 ∧ Aside0 (laws_markBoolS.l0 kq x0_1 x1_1 x5_1 = some (r1, r2)) ∧ Aside0 (kq ≤ k) ∧ Aside0 (Kd.R Kd.bool 4 w' w0.heap.size (fun k_ => (P0_ k_ ∨ w.heap.size ≤ k_)) u9000_ x0_1) ∧ Aside0 (Kept w w' (fun k_ => P0_ k_)) ∧ Aside0 (Below w0.heap.size w0 w'))
 case atStart => exact ⟨(l0), (a1), (0), er, er, H', ⟨Nat.le_refl _⟩, ⟨rdl HO0⟩, ⟨by repeat (first | (with_reducible first | exact HK.out | apply Kept.alloc | apply Kept.drewN | apply Kept.drew) | exact HK.out)⟩, ⟨belowd HB⟩⟩
 case round =>
  clear H'
  obtain ⟨x0_1, x1_1, x5_1, rfl, rfl, HA, HK1, HO_0, HK, HB⟩ := hrel
  cases gk with
  | zero => exact absurd HA.out (by simp [laws_markBoolS.l0])
  | succ k1 =>
   have H := HA.out; clear HA
   simp only [laws_markBoolS.l0] at H
   by_cases c3 : x5_1 < (x0_1.length : Int)
   ·rw [if_pos c3] at H
    have c3b0 : decide (x5_1 < (x0_1.length : Int)) = true := decide_eq_true c3
    clear c3; replace H := ifS H; obtain ⟨c4, H⟩ := H; have c4b0 := decide_eq_true c4; clear c4
    obtain ⟨y325, hy_⟩ : ∃ y_ : List Bool, y_ = (x0_1.set (x5_1 : Int).toNat ((Int.tmod x1_1 3) == 0)) := ⟨_, rfl⟩
    replace H : (laws_markBoolS.l0 k1 y325 (wrap64 (x1_1 + 1)) (wrap64 (x5_1 + 1))) = some (r1, r2) := yH
    have Ny325 := ak hy_; clear hy_
    have H' := Aside0.mk H
    clear H
    obtain ⟨Ao6, co6, eo6⟩ := Kd.R_slice HO_0.out
    subst eo6
    have p5 : 0 ≤ (x5_1 : Int) := da
    have q5 : (x5_1 : Int) < ((x0_1.length : Int) : Int) := da
    obtain ⟨go5, co5, eo5, gb5, gl5, cl5, HG5⟩ := Kd.R_form HO_0.out (by omega)
    (first | cases eo5 | (injection eo5 with ea_ en_ ec_; (first | subst ea_ | (injection ea_ with ea_; subst ea_)); subst ec_; clear en_))
    have GB5 := Aside0.mk gb5; have GG5 := Aside0.mk HG5; clear gb5 gl5 HG5
    have HMgo5 := Aside0.mk (show (P0_ go5 ∨ w.heap.size ≤ go5) from (HO_0.out.1 _ rfl))
    obtain ⟨hx5_0, hf5_0⟩ := Kd.R_celln false HO_0.out (x5_1 : Int) p5 q5
    replace p5 := eq_true p5; replace q5 := eq_true q5
    have HP7 := Kd.R_putg HO_0.out (x5_1 : Int) ((Int.tmod x1_1 3) == 0)
    go_wp2_with (first | ((with_reducible refine gate_store (t := 4) (p := 17) rfl ?_); refine store_event (t := 4) (p := 17) (v := ?vo_w8) (w1 := (wr.setCell ⟨go5, (x5_1 : Int).toNat, none⟩ (.bool ((Int.tmod x1_1 3) == 0)))) ?hg ?ho ?hn ?hr ?_; (case ho => rfl); (case hg => rfl); (case hn => rfl); (case hr => first | (go_simp; done) | (go_simp; rfl)); intro w8 hw; have hg : wr.grownBy w8 (some go5) := (by rw [hw]; exact HP7.2); have hp_ : Kd.R Kd.bool 4 w8 w0.heap.size (fun k_ => (P0_ k_ ∨ w.heap.size ≤ k_)) (.slice (some ⟨go5, 0, none⟩) x0_1.length co6) y325 := (by rw [hw, Ny325.out]; exact HP7.1); clear HP7; replace HB := ak ((by rw [hw]; exact below_set (HB.out) GB5.out : Below w0.heap.size w0 w8)); replace HK := ak (Kept.of_grown (S := (fun k_ => P0_ k_)) hg (by repeat (first | (with_reducible first | exact HK.out | apply Kept.alloc | apply Kept.drewN | apply Kept.drew) | exact HK.out)) (fun k_ e_ => (HO_0.out.1 k_ e_))); replace HO_0 := ak (hp_); clear hg hw hp_))
    go_roundg k1
    case measure => have := HK1.out; omega
    case rel => exact ⟨(y325), (wrap64 (x1_1 + 1)), (wrap64 (x5_1 + 1)), er, er, H', ⟨by have := HK1.out; omega⟩, ⟨rdl HO_0⟩, ⟨by repeat (first | (with_reducible first | exact HK.out | apply Kept.alloc | apply Kept.drewN | apply Kept.drew) | exact HK.out)⟩, ⟨belowd HB⟩⟩
   ·rw [if_neg c3] at H
    have c3b0 : decide (x5_1 < (x0_1.length : Int)) = false := decide_eq_false c3
    clear c3
    simp only [Option.some.injEq, Prod.mk.injEq] at H
    obtain ⟨rfl, rfl⟩ := H
    obtain ⟨Ao9, co9, eo9⟩ := Kd.R_slice HO_0.out
    subst eo9; go_wp2
    go_ret
    exact ⟨er2, by (with_reducible repeat (first | apply Kd.R_alloc | apply Kd.R_drewN | apply Kd.R_drew)); exact HO_0.out, belowd HB, by repeat (first | (with_reducible first | exact HK.out | apply Kept.alloc | apply Kept.drewN | apply Kept.drew) | exact HK.out)⟩

/-! ### laws_heldBoolS: function 26 -/
def laws_heldBoolS.l0 : Nat → List Bool → Int → Int → Option (Int)
  | 0, _, _, _ => none
  | k + 1, x0, x1, x5 => if x5 < (x0.length : Int) then (if 0 ≤ x5 then (if ((rdOf false x0 x5) != ((Int.tmod x1 3) == 0)) = true then (some (-1)) else (laws_heldBoolS.l0 k x0 (wrap64 (x1 + 1)) (wrap64 (x5 + 1)))) else (none)) else (some x1)
def laws_heldBoolS.f (k : Nat) (l0 : List Bool) (a1 : Int) : Option (Int) := laws_heldBoolS.l0 k l0 a1 0
theorem laws_heldBoolS.mono_l : ∀ k, (∀ y0 y1 y2, LeO (laws_heldBoolS.l0 k y0 y1 y2) (laws_heldBoolS.l0 (k + 1) y0 y1 y2))
 | 0 => fun _ _ _ r h => by simp [laws_heldBoolS.l0] at h
 | k + 1 => by
  have ih0 := laws_heldBoolS.mono_l k
  ·intro y0 y1 y2
   unfold laws_heldBoolS.l0
   repeat' (first | (with_reducible first | exact ih0 _ _ _ | exact LeO.refl _ | exact LeO.none _ | refine LeO.ite ?_ ?_ | refine LeO.bind ?_ (fun _ => ?_)) | exact ih0 _ _ _ | exact LeO.none _ | refine LeO.ite ?_ ?_ | refine LeO.bind ?_ (fun _ => ?_))
theorem laws_heldBoolS.mono : ∀ a0 a1 k, LeO (laws_heldBoolS.f k a0 a1) (laws_heldBoolS.f (k + 1) a0 a1) := by
 intro a0 a1 k
 have ih0 := laws_heldBoolS.mono_l k
 unfold laws_heldBoolS.f
 repeat' (first | (with_reducible first | exact ih0 _ _ _ | exact LeO.refl _ | exact LeO.none _ | refine LeO.ite ?_ ?_ | refine LeO.bind ?_ (fun _ => ?_)) | exact ih0 _ _ _ | exact LeO.none _ | refine LeO.ite ?_ ?_ | refine LeO.bind ?_ (fun _ => ?_))
set_option maxHeartbeats 8000000 in
set_option maxRecDepth 100000 in
theorem laws_heldBoolS.calls (k : Nat) (A0 : Option Addr) (c0 : Nat) (l0 : List Bool) (a1 : Int) (r : Int) (w : World) (hr0 : Kd.C Kd.bool w A0 l0.length l0) (hc0 : l0.length ≤ c0) (h : laws_heldBoolS.f k l0 a1 = some r) :
  Calls Tryz.prog 26 #[.slice A0 l0.length c0, .int .i64 a1] w fun e w' => e = .returned (.int .i64 r) ∧ Drawn0 w w' := by
 have HR0 := Aside0.mk hr0; have HC0 := Aside0.mk hc0; clear hr0 hc0
 have H : (laws_heldBoolS.l0 k l0 a1 0) = some r := h
 clear h
 have H' := Aside0.mk H
 clear H
 go_enter Tryz.func26, Tryz.ntmps26
 go_wp2
 go_loopg [1, 5] k (fun kq v1 v5 w' => ∃ (x1_1 : Int) (x5_1 : Int), v1 = .int .i64 x1_1 ∧ v5 = .int .i64 x5_1 ∧ Aside0 (laws_heldBoolS.l0 kq l0 x1_1 x5_1 = some r) ∧ Aside0 (kq ≤ k) ∧ Drawn0 w w')
 case atStart => exact ⟨(a1), (0), er, er, H', ⟨Nat.le_refl _⟩, drw⟩
 case round =>
  clear H'
  obtain ⟨x1_1, x5_1, rfl, rfl, HA, HK1, ⟨m1, rfl⟩⟩ := hrel
  cases gk with
  | zero => exact absurd HA.out (by simp [laws_heldBoolS.l0])
  | succ k1 =>
   have H := HA.out; clear HA
   simp only [laws_heldBoolS.l0] at H
   by_cases c3 : x5_1 < (l0.length : Int)
   ·rw [if_pos c3] at H
    have c3b0 : decide (x5_1 < (l0.length : Int)) = true := decide_eq_true c3
    clear c3; replace H := ifS H; obtain ⟨c4, H⟩ := H; have c4b0 := decide_eq_true c4; clear c4
    by_cases c5 : ((rdOf false l0 x5_1) != ((Int.tmod x1_1 3) == 0)) = true
    ·rw [if_pos c5] at H
     have c5b0 : ((rdOf false l0 x5_1) != ((Int.tmod x1_1 3) == 0)) = true := c5
     (try (have c5b1 : decide ((rdOf false l0 x5_1) = ((Int.tmod x1_1 3) == 0)) = false := by simpa using c5))
     (try (have c5b2 : ((rdOf false l0 x5_1) == ((Int.tmod x1_1 3) == 0)) = false := by simpa using c5))
     (try (have c5b3 : ¬ ((rdOf false l0 x5_1) = ((Int.tmod x1_1 3) == 0)) := by simpa using c5))
     clear c5
     obtain rfl := Option.some.inj H
     have p326 : 0 ≤ (x5_1 : Int) := da
     have q326 : x5_1 < (l0.length : Int) := da
     obtain ⟨ad326, e326, hx326_0⟩ := Kd.at_bool HR0.out x5_1 p326 q326
     cases e326
     replace p326 := eq_true p326; replace q326 := eq_true q326; go_wp2
     go_ret
     exact ⟨er, drw⟩
    ·rw [if_neg c5] at H
     have c5b0 : ((rdOf false l0 x5_1) != ((Int.tmod x1_1 3) == 0)) = false := by simpa using c5
     (try (have c5b1 : decide ((rdOf false l0 x5_1) = ((Int.tmod x1_1 3) == 0)) = true := by simpa using c5))
     (try (have c5b2 : ((rdOf false l0 x5_1) == ((Int.tmod x1_1 3) == 0)) = true := by simpa using c5))
     clear c5
     have H' := Aside0.mk H
     clear H
     have p326 : 0 ≤ (x5_1 : Int) := da
     have q326 : x5_1 < (l0.length : Int) := da
     obtain ⟨ad326, e326, hx326_0⟩ := Kd.at_bool HR0.out x5_1 p326 q326
     cases e326
     replace p326 := eq_true p326; replace q326 := eq_true q326; go_wp2
     go_roundg k1
     case measure => have := HK1.out; omega
     case rel => exact ⟨(wrap64 (x1_1 + 1)), (wrap64 (x5_1 + 1)), er, er, H', ⟨by have := HK1.out; omega⟩, drw⟩
   ·rw [if_neg c3] at H
    have c3b0 : decide (x5_1 < (l0.length : Int)) = false := decide_eq_false c3
    clear c3
    obtain rfl := Option.some.inj H
    go_wp2
    go_ret
    exact ⟨er, drw⟩

/-! ### what a law asks of nets -/
theorem nw_eq {k : Nat} {v0 v1 v2 v3 u0 u1 u2 u3 : Value} {n m : Nt} {r : Bool} {w : World} (hn : NC w v0 v1 v2 v3 n) (hm : NC w u0 u1 u2 u3 m) (h : laws_eqNet.f k n.ks n.ps n.ss n.ib n.sd m.ks m.ps m.ss m.ib m.sd = some r) :
    Calls Tryz.prog 12 #[.agg #[v0, v1, v2, v3, .int .i64 n.sd], .agg #[u0, u1, u2, u3, .int .i64 m.sd]] w fun e w' => e = .returned (.bool r) ∧ Below w.heap.size w w' := by
  obtain ⟨A0, c0, A1, c1, A2, c2, A3, c3, ⟨rfl, rfl, rfl, rfl⟩, ⟨r0, l0⟩, ⟨r1, l1⟩, ⟨r2, l2⟩, ⟨r3, l3⟩⟩ := hn
  obtain ⟨B0, d0, B1, d1, B2, d2, B3, d3, ⟨rfl, rfl, rfl, rfl⟩, ⟨s0, m0⟩, ⟨s1, m1⟩, ⟨s2, m2⟩, ⟨s3, m3⟩⟩ := hm
  exact laws_eqNet.calls k A0 c0 n.ks A1 c1 n.ps A2 c2 n.ss A3 c3 n.ib n.sd B0 d0 m.ks B1 d1 m.ps B2 d2 m.ss B3 d3 m.ib m.sd r w r0 l0 r1 l1 r2 l2 r3 l3 s0 m0 s1 m1 s2 m2 s3 m3 h
/-- The net that stands first is written. -/
theorem nw_mark {k : Nat} {v0 v1 v2 v3 : Value} {n : Nt} {a r : Int} {m0 : List Int} {m1 m2 m3 : List (List ByteArray)} {L : List SA} {w0 w : World} (hs : Sep w0 w (netA v0 v1 v2 v3 n ++ L)) (h : laws_markNet.f k n.ks n.ps n.ss n.ib n.sd a = some (r, m0, m1, m2, m3)) :
    Calls Tryz.prog 13 #[.agg #[v0, v1, v2, v3, .int .i64 n.sd], .int .i64 a] w fun e w' => e = .returned (.int .i64 r) ∧ Sep w0 w' (netA v0 v1 v2 v3 ⟨m0, m1, m2, m3, n.sd⟩ ++ L) := by
  obtain ⟨hB, c, hs⟩ := hs
  obtain ⟨h0, h1, h2, h3, hL⟩ := hs
  refine (laws_markNet.calls k _ v0 n.ks _ v1 n.ps _ v2 n.ss _ v3 n.ib n.sd a r m0 m1 m2 m3 w0 w hB h0 h1 h2 h3 (fun k a b => by omega) (fun k a b => by omega) (fun k a b => by omega) (fun k a b => by omega) (fun k a b => by omega) (fun k a b => by omega) h).mono ?_
  rintro e w' ⟨rfl, g0, g1, g2, g3, hb, hk⟩
  refine ⟨rfl, hb, c, g0, g1, g2, g3, ?_⟩
  exact SepAt.to (i := 4) 0 hL (fun k j hj hkj hlt _ => ⟨hkj, hk.2 k hlt (fun e => by omega)⟩)
/-! ### what a law asks of nets: what is held -/
theorem nw_held {k : Nat} {v0 v1 v2 v3 : Value} {n : Nt} {a r : Int} {w : World} (hn : NC w v0 v1 v2 v3 n) (h : laws_heldNet.f k n.ks n.ps n.ss n.ib n.sd a = some r) :
    Calls Tryz.prog 14 #[.agg #[v0, v1, v2, v3, .int .i64 n.sd], .int .i64 a] w fun e w' => e = .returned (.int .i64 r) ∧ Below w.heap.size w w' := by
  obtain ⟨A0, c0, A1, c1, A2, c2, A3, c3, ⟨rfl, rfl, rfl, rfl⟩, ⟨r0, l0⟩, ⟨r1, l1⟩, ⟨r2, l2⟩, ⟨r3, l3⟩⟩ := hn
  exact laws_heldNet.calls k A0 c0 n.ks A1 c1 n.ps A2 c2 n.ss A3 c3 n.ib n.sd a r w r0 l0 r1 l1 r2 l2 r3 l3 h
/-! ### what a law asks of keys -/
theorem nw_markI {k : Nat} {v : Value} {n : List Int} {a r : Int} {m : List Int} {L : List SA} {w0 w : World} (hs : Sep w0 w (rA KI 3 v n :: L)) (h : laws_markIntS.f k n a = some (r, m)) :
    Calls Tryz.prog 23 #[v, .int .i64 a] w fun e w' => e = .returned (.int .i64 r) ∧ Sep w0 w' (rA KI 3 v m :: L) := by
  obtain ⟨hB, c, h0, hL⟩ := hs
  refine (laws_markIntS.calls k _ v n a r m w0 w hB h0 h).mono ?_
  rintro e w' ⟨rfl, g0, hb, hk⟩
  exact ⟨rfl, Sep.wr hL hk hb g0⟩
theorem nw_markP {k : Nat} {v : Value} {n : List S53} {a r : Int} {m : List S53} {L : List SA} {w0 w : World} (hs : Sep w0 w (rA k53 53 v n :: L)) (h : laws_markNetStepS.f k n a = some (r, m)) :
    Calls Tryz.prog 24 #[v, .int .i64 a] w fun e w' => e = .returned (.int .i64 r) ∧ Sep w0 w' (rA k53 53 v m :: L) := by
  obtain ⟨hB, c, h0, hL⟩ := hs
  refine (laws_markNetStepS.calls k _ v n a r m w0 w hB h0 h).mono ?_
  rintro e w' ⟨rfl, g0, hb, hk⟩
  exact ⟨rfl, Sep.wr hL hk hb g0⟩
theorem nw_markB {k : Nat} {v : Value} {n : List Bool} {a r : Int} {m : List Bool} {L : List SA} {w0 w : World} (hs : Sep w0 w (rA Kd.bool 4 v n :: L)) (h : laws_markBoolS.f k n a = some (r, m)) :
    Calls Tryz.prog 25 #[v, .int .i64 a] w fun e w' => e = .returned (.int .i64 r) ∧ Sep w0 w' (rA Kd.bool 4 v m :: L) := by
  obtain ⟨hB, c, h0, hL⟩ := hs
  refine (laws_markBoolS.calls k _ v n a r m w0 w hB h0 h).mono ?_
  rintro e w' ⟨rfl, g0, hb, hk⟩
  exact ⟨rfl, Sep.wr hL hk hb g0⟩
theorem nw_heldB {k : Nat} {A : Option Addr} {n c : Nat} {m : List Bool} {a r : Int} {w : World} (hc : n = m.length ∧ n ≤ c ∧ Kd.bool.C w A m.length m) (h : laws_heldBoolS.f k m a = some r) :
    Calls Tryz.prog 26 #[.slice A n c, .int .i64 a] w fun e w' => e = .returned (.int .i64 r) ∧ Drawn0 w w' := by
  obtain ⟨rfl, h1, h2⟩ := hc
  exact laws_heldBoolS.calls k A c m a r w h2 h1 h
/-! ### laws_FnExactPlayNet: function 4 -/
def laws_FnExactPlayNet.f (k : Nat) (l0 : List Int) (l1 : List S50) : Option Bool :=
 if (l0.length : Int) > 1048576 then some true else
 (laws_szNetStepS.f k l1 1048576).bind fun z => if z < 0 then some true else
 (laws_toIntS.f k l0).bind fun x => (laws_toNetStepS.f k l1).bind fun y =>
 (spec_PlayNet.f k x y).bind fun (W, wd, w6) => (impl_PlayNet.f k x y).bind fun (G, gd, g6) =>
 (laws_eqNet.f k G.ks G.ps G.ss G.ib G.sd W.ks W.ps W.ss W.ib W.sd).bind fun e1 => if e1 = true then (laws_eqBoolS.f k gd wd).bind fun e2 => if e2 = true ∧ g6 = w6 then
 (laws_eqIntS.f k x x).bind fun e3 => if e3 = true then (laws_eqNetStepS.f k y y).bind fun e4 => if e4 = true then
 (laws_markIntS.f k x 1).bind fun (m, x') => (laws_markNetStepS.f k y m).bind fun (m2, y') => if 0 ≤ m2 then
 (laws_markNet.f k G.ks G.ps G.ss G.ib G.sd 1).bind fun (q, q1, q2, q3, q4) => (laws_markBoolS.f k gd q).bind fun (q5, gd') =>
 (laws_heldNet.f k q1 q2 q3 q4 G.sd 1).bind fun h1 => if 0 ≤ h1 then (laws_heldBoolS.f k gd' h1).bind fun h2 => if 0 ≤ h2 ∧ h2 = q5 then some true else none
 else none else none else none else none else none else none
set_option maxHeartbeats 16000000 in
set_option maxRecDepth 100000 in
theorem laws_FnExactPlayNet.calls (k : Nat) (A0 : Option Addr) (c0 : Nat) (l0 : List Int) (A1 : Option Addr) (c1 : Nat) (l1 : List S50) (r : Bool) (w : World) (hr0 : KI.C w A0 l0.length l0) (hc0 : l0.length ≤ c0) (hr1 : Kd.C k50 w A1 l1.length l1) (hc1 : l1.length ≤ c1) (h : laws_FnExactPlayNet.f k l0 l1 = some r) (hr_ : r = true) :
  Calls Tryz.prog 4 #[.slice A0 l0.length c0, .slice A1 l1.length c1] w fun e w' => e = .returned (.bool r) ∧ Below w.heap.size w w' := by
 subst hr_
 have hu27 := Tryz.underlying27
 have HR0 := ak hr0; have HC0 := ak hc0; have HR1 := ak hr1; have HC1 := ak hc1
 clear hr0 hc0 hr1 hc1
 have HS := Sep.nil w
 unfold laws_FnExactPlayNet.f at h
 by_cases c1_ : (l0.length : Int) > 1048576
 ·have c1b0 : decide ((l0.length : Int) > 1048576) = true := decide_eq_true c1_
  clear h c1_
  go_enter Tryz.func4, Tryz.ntmps4
  go_wp2
  go_ret
  exact ⟨er, HS.base⟩
 ·rw [if_neg c1_] at h
  have c1b0 : decide ((l0.length : Int) > 1048576) = false := decide_eq_false c1_
  clear c1_
  replace h := bS h; obtain ⟨z, T0, h⟩ := h
  by_cases c2 : z < 0
  ·have c2b0 : decide (z < 0) = true := decide_eq_true c2
   clear h c2
   go_enter Tryz.func4, Tryz.ntmps4
   go_wp2_with (first | (go_at_call 15; have HC_ := laws_szNetStepS.calls k _ _ l1 _ z _ (Kd.C_below HR1.out HS.base) HC1.out T0.out; refine HC_.mono ?_; clear HC_; rintro e W_ ⟨rfl, hb_⟩; replace HS := HS.below hb_; clear hb_))
   go_ret
   exact ⟨er, HS.base⟩
  ·rw [if_neg c2] at h
   have c2b0 : decide (z < 0) = false := decide_eq_false c2
   clear c2
   replace h := bS h; obtain ⟨x, T1, h⟩ := h
   replace h := bS h; obtain ⟨y, T2, h⟩ := h
   replace h := bS h; obtain ⟨⟨⟨w1, w2, w3, w4, w5⟩, wd, w6⟩, T3, h⟩ := h
   replace h := bS h; obtain ⟨⟨⟨g1, g2, g3, g4, g5⟩, gd, g6⟩, T4, h⟩ := h
   replace h := bS h; obtain ⟨e1, T5, h⟩ := h
   replace h := ifS h; obtain ⟨rfl, h⟩ := h
   replace h := bS h; obtain ⟨e2, T6, h⟩ := h
   replace h := ifS h; obtain ⟨⟨rfl, rfl⟩, h⟩ := h
   replace h := bS h; obtain ⟨e3, T7, h⟩ := h
   replace h := ifS h; obtain ⟨rfl, h⟩ := h
   replace h := bS h; obtain ⟨e4, T8, h⟩ := h
   replace h := ifS h; obtain ⟨rfl, h⟩ := h
   replace h := bS h; obtain ⟨⟨m, x'⟩, T9, h⟩ := h
   replace h := bS h; obtain ⟨⟨m2, y'⟩, T10, h⟩ := h
   replace h := ifS h; obtain ⟨hm, h⟩ := h
   replace h := bS h; obtain ⟨⟨q, q1, q2, q3, q4⟩, T11, h⟩ := h
   replace h := bS h; obtain ⟨⟨q5, gd'⟩, T12, h⟩ := h
   replace h := bS h; obtain ⟨h1, T13, h⟩ := h
   replace h := ifS h; obtain ⟨hh1, h⟩ := h
   replace h := bS h; obtain ⟨h2, T14, h⟩ := h
   replace h := ifS h; obtain ⟨⟨hh2, rfl⟩, h⟩ := h
   clear h
   dsimp only at T5 T11 T13
   have hm0 : decide (m2 < 0) = false := decide_eq_false (by omega)
   have hq0 : decide (h1 < 0) = false := decide_eq_false (by omega)
   have hq2 : decide (h2 < 0) = false := decide_eq_false (by omega)
   have hq1 : (h2 != h2) = false := bne_self_eq_false h2
   have hg6 : (g6 != g6) = false := bne_self_eq_false g6
   clear hm hh1 hh2
   go_enter Tryz.func4, Tryz.ntmps4
   go_upto_region 8 with (first | (go_at_call 15; have HC_ := laws_szNetStepS.calls k _ _ l1 _ z _ (Kd.C_below HR1.out HS.base) HC1.out T0.out; refine HC_.mono ?_; clear HC_; rintro e W_ ⟨rfl, hb_⟩; replace HS := HS.below hb_; clear hb_) | (go_at_call 17; have HC_ := laws_toIntS.calls k _ _ l0 x _ (Kd.C_below HR0.out HS.base) HC0.out T1.out; refine HC_.mono ?_; clear HC_; rintro e W_ ⟨tv, rfl, ho_, hb_⟩; replace HS := HS.new (A := rA KI 3 tv x) hb_ ho_; obtain ⟨Atv, ctv, rfl⟩ := HS.slR 0; clear ho_ hb_) | (go_at_call 18; have HC_ := laws_toNetStepS.calls k _ _ l1 y _ (Kd.C_below HR1.out HS.base) HC1.out T2.out; refine HC_.mono ?_; clear HC_; rintro e W_ ⟨ty, rfl, ho_, hb_⟩; replace HS := HS.new (A := rA k53 53 ty y) hb_ ho_; obtain ⟨Aty, cty, rfl⟩ := HS.slR 0; clear ho_ hb_) | (go_at_call 16; have HC_ := spec_PlayNet.calls (HS.rdR 1).2.2 (HS.rdR 1).2.1 (HS.rdR 0).2.2 (HS.rdR 0).2.1 T3.out; refine HC_.mono ?_; clear HC_; rintro e W_ ⟨wv0, wv1, wv2, wv3, wdv, rfl, hc_, hb_⟩; replace HS := HS.news hb_ hc_; clear hc_ hb_; dsimp only [netA, List.cons_append, List.nil_append] at HS; obtain ⟨Awv0, cwv0, rfl⟩ := HS.slR 0; obtain ⟨Awv1, cwv1, rfl⟩ := HS.slS 1; obtain ⟨Awv2, cwv2, rfl⟩ := HS.slS 2; obtain ⟨Awv3, cwv3, rfl⟩ := HS.slS 3; obtain ⟨Awdv, cwdv, rfl⟩ := HS.slR 4) | ((with_reducible refine gate_dst (N := 6) rfl ?_); refine boxev 6 #[.slice none 0 0, .slice none 0 0, .slice none 0 0, .slice none 0 0, .int .i64 0] 27 ?_; intro b6 hg_ W_ ho_ hb_; replace HS := HS.box hg_ ho_ hb_; clear hg_ ho_ hb_; obtain ⟨z60, z61, z62, z63, z64, f60, f61, f62, f63, f64⟩ := box5 (HS.blk 0); clear z60 z61 z62 z63 z64 f60 f61 f62 f63 f64; obtain ⟨z60, z61, z62, z63, z64, f60, f61, f62, f63, f64⟩ := box5 (HS.blk 0)))
   clear z60 z61 z62 z63 z64 f60 f61 f62 f63 f64
   obtain ⟨W5_, e5_, H5_⟩ := (((((HS.putI 0 0 (.slice Awv0 w1.length cwv0) #[.slice Awv0 w1.length cwv0, .slice none 0 0, .slice none 0 0, .slice none 0 0, .int .i64 0]).putI 0 1 (.slice Awv1 w2.length cwv1) #[.slice Awv0 w1.length cwv0, .slice Awv1 w2.length cwv1, .slice none 0 0, .slice none 0 0, .int .i64 0]).putI 0 2 (.slice Awv2 w3.length cwv2) #[.slice Awv0 w1.length cwv0, .slice Awv1 w2.length cwv1, .slice Awv2 w3.length cwv2, .slice none 0 0, .int .i64 0]).putI 0 3 (.slice Awv3 w4.length cwv3) #[.slice Awv0 w1.length cwv0, .slice Awv1 w2.length cwv1, .slice Awv2 w3.length cwv2, .slice Awv3 w4.length cwv3, .int .i64 0]).putI 0 4 (.int .i64 w5) #[.slice Awv0 w1.length cwv0, .slice Awv1 w2.length cwv1, .slice Awv2 w3.length cwv2, .slice Awv3 w4.length cwv3, .int .i64 w5]).gen
   rw [e5_]
   clear HS e5_
   have HS := H5_
   clear H5_
   obtain ⟨z60, z61, z62, z63, z64, f60, f61, f62, f63, f64⟩ := box5 (HS.blk 0)
   go_upto_region 11 with (first | (go_at_call 17; have HC_ := laws_toIntS.calls k _ _ l0 x _ (Kd.C_below HR0.out HS.base) HC0.out T1.out; refine HC_.mono ?_; clear HC_; rintro e W_ ⟨xv, rfl, ho_, hb_⟩; replace HS := HS.new (A := rA KI 3 xv x) hb_ ho_; obtain ⟨Axv, cxv, rfl⟩ := HS.slR 0; clear ho_ hb_; clear z60 z61 z62 z63 z64 f60 f61 f62 f63 f64; obtain ⟨z60, z61, z62, z63, z64, f60, f61, f62, f63, f64⟩ := box5 (HS.blk 1)) | (go_at_call 18; have HC_ := laws_toNetStepS.calls k _ _ l1 y _ (Kd.C_below HR1.out HS.base) HC1.out T2.out; refine HC_.mono ?_; clear HC_; rintro e W_ ⟨yv, rfl, ho_, hb_⟩; replace HS := HS.new (A := rA k53 53 yv y) hb_ ho_; obtain ⟨Ayv, cyv, rfl⟩ := HS.slR 0; clear ho_ hb_; clear z60 z61 z62 z63 z64 f60 f61 f62 f63 f64; obtain ⟨z60, z61, z62, z63, z64, f60, f61, f62, f63, f64⟩ := box5 (HS.blk 2)) | (go_at_call 19; have HC_ := impl_PlayNet.calls (HS.rdR 1).2.2 (HS.rdR 1).2.1 (HS.rdR 0).2.2 (HS.rdR 0).2.1 T4.out; refine HC_.mono ?_; clear HC_; rintro e W_ ⟨gv0, gv1, gv2, gv3, gdv, rfl, hc_, hb_⟩; replace HS := HS.news hb_ hc_; clear hc_ hb_; dsimp only [netA, List.cons_append, List.nil_append] at HS; obtain ⟨Agv0, cgv0, rfl⟩ := HS.slR 0; obtain ⟨Agv1, cgv1, rfl⟩ := HS.slS 1; obtain ⟨Agv2, cgv2, rfl⟩ := HS.slS 2; obtain ⟨Agv3, cgv3, rfl⟩ := HS.slS 3; obtain ⟨Agdv, cgdv, rfl⟩ := HS.slR 4; clear z60 z61 z62 z63 z64 f60 f61 f62 f63 f64; obtain ⟨z60, z61, z62, z63, z64, f60, f61, f62, f63, f64⟩ := box5 (HS.blk 7)) | ((with_reducible refine gate_dst (N := 11) rfl ?_); refine boxev 11 #[.slice none 0 0, .slice none 0 0, .slice none 0 0, .slice none 0 0, .int .i64 0] 27 ?_; intro b11 hg_ W_ ho_ hb_; replace HS := HS.box hg_ ho_ hb_; clear hg_ ho_ hb_; clear z60 z61 z62 z63 z64 f60 f61 f62 f63 f64; obtain ⟨z110, z111, z112, z113, z114, f110, f111, f112, f113, f114⟩ := box5 (HS.blk 0); clear z110 z111 z112 z113 z114 f110 f111 f112 f113 f114; obtain ⟨z110, z111, z112, z113, z114, f110, f111, f112, f113, f114⟩ := box5 (HS.blk 0)))
   clear z110 z111 z112 z113 z114 f110 f111 f112 f113 f114
   obtain ⟨W5_, e5_, H5_⟩ := (((((HS.putI 0 0 (.slice Agv0 g1.length cgv0) #[.slice Agv0 g1.length cgv0, .slice none 0 0, .slice none 0 0, .slice none 0 0, .int .i64 0]).putI 0 1 (.slice Agv1 g2.length cgv1) #[.slice Agv0 g1.length cgv0, .slice Agv1 g2.length cgv1, .slice none 0 0, .slice none 0 0, .int .i64 0]).putI 0 2 (.slice Agv2 g3.length cgv2) #[.slice Agv0 g1.length cgv0, .slice Agv1 g2.length cgv1, .slice Agv2 g3.length cgv2, .slice none 0 0, .int .i64 0]).putI 0 3 (.slice Agv3 g4.length cgv3) #[.slice Agv0 g1.length cgv0, .slice Agv1 g2.length cgv1, .slice Agv2 g3.length cgv2, .slice Agv3 g4.length cgv3, .int .i64 0]).putI 0 4 (.int .i64 g5) #[.slice Agv0 g1.length cgv0, .slice Agv1 g2.length cgv1, .slice Agv2 g3.length cgv2, .slice Agv3 g4.length cgv3, .int .i64 g5]).gen
   rw [e5_]
   clear HS e5_
   have HS := H5_
   clear H5_
   obtain ⟨z110, z111, z112, z113, z114, f110, f111, f112, f113, f114⟩ := box5 (HS.blk 0)
   obtain ⟨z60, z61, z62, z63, z64, f60, f61, f62, f63, f64⟩ := box5 (HS.blk 8)
   go_upto_region 13 with (first | (go_at_call 12; have HC_ := nw_eq (n := ⟨g1, g2, g3, g4, g5⟩) (m := ⟨w1, w2, w3, w4, w5⟩) (sepNc HS 1) (sepNc HS 9) T5.out; refine HC_.mono ?_; clear HC_; rintro e W_ ⟨rfl, hb_⟩; replace HS := HS.below hb_; clear hb_; clear z110 z111 z112 z113 z114 f110 f111 f112 f113 f114 z60 z61 z62 z63 z64 f60 f61 f62 f63 f64; obtain ⟨z110, z111, z112, z113, z114, f110, f111, f112, f113, f114⟩ := box5 (HS.blk 0); obtain ⟨z60, z61, z62, z63, z64, f60, f61, f62, f63, f64⟩ := box5 (HS.blk 8)) | (go_at_call 20; have HC_ := laws_eqBoolS.calls k _ _ gd _ _ wd true _ (HS.rdR 5).2.2 (HS.rdR 5).2.1 (HS.rdR 13).2.2 (HS.rdR 13).2.1 T6.out; refine HC_.mono ?_; clear HC_; rintro e W_ ⟨rfl, hd_⟩; replace HS := HS.below hd_.below; clear hd_; clear z110 z111 z112 z113 z114 f110 f111 f112 f113 f114 z60 z61 z62 z63 z64 f60 f61 f62 f63 f64; obtain ⟨z110, z111, z112, z113, z114, f110, f111, f112, f113, f114⟩ := box5 (HS.blk 0); obtain ⟨z60, z61, z62, z63, z64, f60, f61, f62, f63, f64⟩ := box5 (HS.blk 8)))
   go_upto_region 15 with (first | (go_at_call 17; have HC_ := laws_toIntS.calls k _ _ l0 x _ (Kd.C_below HR0.out HS.base) HC0.out T1.out; refine HC_.mono ?_; clear HC_; rintro e W_ ⟨sv, rfl, ho_, hb_⟩; replace HS := HS.new (A := rA KI 3 sv x) hb_ ho_; obtain ⟨Asv, csv, rfl⟩ := HS.slR 0; clear ho_ hb_; clear z110 z111 z112 z113 z114 f110 f111 f112 f113 f114 z60 z61 z62 z63 z64 f60 f61 f62 f63 f64; obtain ⟨z110, z111, z112, z113, z114, f110, f111, f112, f113, f114⟩ := box5 (HS.blk 1); obtain ⟨z60, z61, z62, z63, z64, f60, f61, f62, f63, f64⟩ := box5 (HS.blk 9)) | (go_at_call 21; have HC_ := laws_eqIntS.calls k _ _ x _ _ x true _ (HS.rdR 8).2.2 (HS.rdR 8).2.1 (HS.rdR 0).2.2 (HS.rdR 0).2.1 T7.out; refine HC_.mono ?_; clear HC_; rintro e W_ ⟨rfl, hd_⟩; replace HS := HS.below hd_.below; clear hd_; clear z110 z111 z112 z113 z114 f110 f111 f112 f113 f114 z60 z61 z62 z63 z64 f60 f61 f62 f63 f64; obtain ⟨z110, z111, z112, z113, z114, f110, f111, f112, f113, f114⟩ := box5 (HS.blk 1); obtain ⟨z60, z61, z62, z63, z64, f60, f61, f62, f63, f64⟩ := box5 (HS.blk 9)))
   go_upto_region 18 with (first | (go_at_call 18; have HC_ := laws_toNetStepS.calls k _ _ l1 y _ (Kd.C_below HR1.out HS.base) HC1.out T2.out; refine HC_.mono ?_; clear HC_; rintro e W_ ⟨sy, rfl, ho_, hb_⟩; replace HS := HS.new (A := rA k53 53 sy y) hb_ ho_; obtain ⟨Asy, csy, rfl⟩ := HS.slR 0; clear ho_ hb_; clear z110 z111 z112 z113 z114 f110 f111 f112 f113 f114 z60 z61 z62 z63 z64 f60 f61 f62 f63 f64; obtain ⟨z110, z111, z112, z113, z114, f110, f111, f112, f113, f114⟩ := box5 (HS.blk 2); obtain ⟨z60, z61, z62, z63, z64, f60, f61, f62, f63, f64⟩ := box5 (HS.blk 10)) | (go_at_call 22; have HC_ := laws_eqNetStepS.calls k _ _ y _ _ y true _ (HS.rdR 8).2.2 (HS.rdR 8).2.1 (HS.rdR 0).2.2 (HS.rdR 0).2.1 T8.out; refine HC_.mono ?_; clear HC_; rintro e W_ ⟨rfl, hb_⟩; replace HS := HS.below hb_; clear hb_; clear z110 z111 z112 z113 z114 f110 f111 f112 f113 f114 z60 z61 z62 z63 z64 f60 f61 f62 f63 f64; obtain ⟨z110, z111, z112, z113, z114, f110, f111, f112, f113, f114⟩ := box5 (HS.blk 2); obtain ⟨z60, z61, z62, z63, z64, f60, f61, f62, f63, f64⟩ := box5 (HS.blk 10)))
   go_upto_region 20 with (first | (go_at_call 23; have HC_ := nw_markI (HS.fr9) T9.out; refine HC_.mono ?_; clear HC_; rintro e W_ ⟨rfl, HS'_⟩; clear HS; have HS := HS'_; clear HS'_; clear z110 z111 z112 z113 z114 f110 f111 f112 f113 f114 z60 z61 z62 z63 z64 f60 f61 f62 f63 f64; obtain ⟨z110, z111, z112, z113, z114, f110, f111, f112, f113, f114⟩ := box5 (HS.blk 3); obtain ⟨z60, z61, z62, z63, z64, f60, f61, f62, f63, f64⟩ := box5 (HS.blk 10)) | (go_at_call 24; have HC_ := nw_markP (HS.fr9) T10.out; refine HC_.mono ?_; clear HC_; rintro e W_ ⟨rfl, HS'_⟩; clear HS; have HS := HS'_; clear HS'_; clear z110 z111 z112 z113 z114 f110 f111 f112 f113 f114 z60 z61 z62 z63 z64 f60 f61 f62 f63 f64; obtain ⟨z110, z111, z112, z113, z114, f110, f111, f112, f113, f114⟩ := box5 (HS.blk 4); obtain ⟨z60, z61, z62, z63, z64, f60, f61, f62, f63, f64⟩ := box5 (HS.blk 10)))
   go_upto_region 23 with (first | (go_at_call 12; have HC_ := nw_eq (n := ⟨g1, g2, g3, g4, g5⟩) (m := ⟨w1, w2, w3, w4, w5⟩) (sepNc HS 5) (sepNc HS 11) T5.out; refine HC_.mono ?_; clear HC_; rintro e W_ ⟨rfl, hb_⟩; replace HS := HS.below hb_; clear hb_; clear z110 z111 z112 z113 z114 f110 f111 f112 f113 f114 z60 z61 z62 z63 z64 f60 f61 f62 f63 f64; obtain ⟨z110, z111, z112, z113, z114, f110, f111, f112, f113, f114⟩ := box5 (HS.blk 4); obtain ⟨z60, z61, z62, z63, z64, f60, f61, f62, f63, f64⟩ := box5 (HS.blk 10)) | (go_at_call 20; have HC_ := laws_eqBoolS.calls k _ _ gd _ _ wd true _ (HS.rdR 9).2.2 (HS.rdR 9).2.1 (HS.rdR 15).2.2 (HS.rdR 15).2.1 T6.out; refine HC_.mono ?_; clear HC_; rintro e W_ ⟨rfl, hd_⟩; replace HS := HS.below hd_.below; clear hd_; clear z110 z111 z112 z113 z114 f110 f111 f112 f113 f114 z60 z61 z62 z63 z64 f60 f61 f62 f63 f64; obtain ⟨z110, z111, z112, z113, z114, f110, f111, f112, f113, f114⟩ := box5 (HS.blk 4); obtain ⟨z60, z61, z62, z63, z64, f60, f61, f62, f63, f64⟩ := box5 (HS.blk 10)))
   go_upto_region 34 with (first | (go_at_call 13; have HC_ := nw_mark (n := ⟨g1, g2, g3, g4, g5⟩) (HS.fr8.fr8.fr8.fr8) T11.out; refine HC_.mono ?_; clear HC_; rintro e W_ ⟨rfl, HS'_⟩; clear HS; have HS := HS'_; clear HS'_; dsimp only [netA, List.cons_append, List.nil_append] at HS; clear z110 z111 z112 z113 z114 f110 f111 f112 f113 f114 z60 z61 z62 z63 z64 f60 f61 f62 f63 f64; obtain ⟨z110, z111, z112, z113, z114, f110, f111, f112, f113, f114⟩ := box5 (HS.blk 8); obtain ⟨z60, z61, z62, z63, z64, f60, f61, f62, f63, f64⟩ := box5 (HS.blk 10)) | (go_at_call 25; have HC_ := nw_markB (HS.fr9) T12.out; refine HC_.mono ?_; clear HC_; rintro e W_ ⟨rfl, HS'_⟩; clear HS; have HS := HS'_; clear HS'_; clear z110 z111 z112 z113 z114 f110 f111 f112 f113 f114 z60 z61 z62 z63 z64 f60 f61 f62 f63 f64; obtain ⟨z110, z111, z112, z113, z114, f110, f111, f112, f113, f114⟩ := box5 (HS.blk 9); obtain ⟨z60, z61, z62, z63, z64, f60, f61, f62, f63, f64⟩ := box5 (HS.blk 10)) | (go_at_call 14; have HC_ := nw_held (n := ⟨q1, q2, q3, q4, g5⟩) (sepNc HS 1) T13.out; refine HC_.mono ?_; clear HC_; rintro e W_ ⟨rfl, hb_⟩; replace HS := HS.below hb_; clear hb_; clear z110 z111 z112 z113 z114 f110 f111 f112 f113 f114 z60 z61 z62 z63 z64 f60 f61 f62 f63 f64; obtain ⟨z110, z111, z112, z113, z114, f110, f111, f112, f113, f114⟩ := box5 (HS.blk 9); obtain ⟨z60, z61, z62, z63, z64, f60, f61, f62, f63, f64⟩ := box5 (HS.blk 10)) | (go_at_call 26; have HC_ := nw_heldB (HS.rdR 0) T14.out; refine HC_.mono ?_; clear HC_; rintro e W_ ⟨rfl, hd_⟩; replace HS := HS.below hd_.below; clear hd_; clear z110 z111 z112 z113 z114 f110 f111 f112 f113 f114 z60 z61 z62 z63 z64 f60 f61 f62 f63 f64; obtain ⟨z110, z111, z112, z113, z114, f110, f111, f112, f113, f114⟩ := box5 (HS.blk 9); obtain ⟨z60, z61, z62, z63, z64, f60, f61, f62, f63, f64⟩ := box5 (HS.blk 10)))
   go_upto_region 35 with (first | (go_at_call 17; have HC_ := laws_toIntS.calls k _ _ l0 x _ (Kd.C_below HR0.out HS.base) HC0.out T1.out; refine HC_.mono ?_; clear HC_; rintro e W_ ⟨zv, rfl, ho_, hb_⟩; replace HS := HS.new (A := rA KI 3 zv x) hb_ ho_; obtain ⟨Azv, czv, rfl⟩ := HS.slR 0; clear ho_ hb_; clear z110 z111 z112 z113 z114 f110 f111 f112 f113 f114 z60 z61 z62 z63 z64 f60 f61 f62 f63 f64; obtain ⟨z110, z111, z112, z113, z114, f110, f111, f112, f113, f114⟩ := box5 (HS.blk 10); obtain ⟨z60, z61, z62, z63, z64, f60, f61, f62, f63, f64⟩ := box5 (HS.blk 11)) | (go_at_call 18; have HC_ := laws_toNetStepS.calls k _ _ l1 y _ (Kd.C_below HR1.out HS.base) HC1.out T2.out; refine HC_.mono ?_; clear HC_; rintro e W_ ⟨zy, rfl, ho_, hb_⟩; replace HS := HS.new (A := rA k53 53 zy y) hb_ ho_; obtain ⟨Azy, czy, rfl⟩ := HS.slR 0; clear ho_ hb_; clear z110 z111 z112 z113 z114 f110 f111 f112 f113 f114 z60 z61 z62 z63 z64 f60 f61 f62 f63 f64; obtain ⟨z110, z111, z112, z113, z114, f110, f111, f112, f113, f114⟩ := box5 (HS.blk 11); obtain ⟨z60, z61, z62, z63, z64, f60, f61, f62, f63, f64⟩ := box5 (HS.blk 12)) | (go_at_call 19; have HC_ := impl_PlayNet.calls (HS.rdR 1).2.2 (HS.rdR 1).2.1 (HS.rdR 0).2.2 (HS.rdR 0).2.1 T4.out; refine HC_.mono ?_; clear HC_; rintro e W_ ⟨hv0, hv1, hv2, hv3, hdv, rfl, hc_, hb_⟩; replace HS := HS.news hb_ hc_; clear hc_ hb_; dsimp only [netA, List.cons_append, List.nil_append] at HS; obtain ⟨Ahv0, chv0, rfl⟩ := HS.slR 0; obtain ⟨Ahv1, chv1, rfl⟩ := HS.slS 1; obtain ⟨Ahv2, chv2, rfl⟩ := HS.slS 2; obtain ⟨Ahv3, chv3, rfl⟩ := HS.slS 3; obtain ⟨Ahdv, chdv, rfl⟩ := HS.slR 4; clear z110 z111 z112 z113 z114 f110 f111 f112 f113 f114 z60 z61 z62 z63 z64 f60 f61 f62 f63 f64; obtain ⟨z110, z111, z112, z113, z114, f110, f111, f112, f113, f114⟩ := box5 (HS.blk 16); obtain ⟨z60, z61, z62, z63, z64, f60, f61, f62, f63, f64⟩ := box5 (HS.blk 17)) | ((with_reducible refine gate_dst (N := 17) rfl ?_); refine boxev 17 #[.slice none 0 0, .slice none 0 0, .slice none 0 0, .slice none 0 0, .int .i64 0] 27 ?_; intro b17 hg_ W_ ho_ hb_; replace HS := HS.box hg_ ho_ hb_; clear hg_ ho_ hb_; clear z110 z111 z112 z113 z114 f110 f111 f112 f113 f114 z60 z61 z62 z63 z64 f60 f61 f62 f63 f64; obtain ⟨z170, z171, z172, z173, z174, f170, f171, f172, f173, f174⟩ := box5 (HS.blk 0); clear z170 z171 z172 z173 z174 f170 f171 f172 f173 f174; obtain ⟨z170, z171, z172, z173, z174, f170, f171, f172, f173, f174⟩ := box5 (HS.blk 0)))
   clear z170 z171 z172 z173 z174 f170 f171 f172 f173 f174
   obtain ⟨W5_, e5_, H5_⟩ := (((((HS.putI 0 0 (.slice Ahv0 g1.length chv0) #[.slice Ahv0 g1.length chv0, .slice none 0 0, .slice none 0 0, .slice none 0 0, .int .i64 0]).putI 0 1 (.slice Ahv1 g2.length chv1) #[.slice Ahv0 g1.length chv0, .slice Ahv1 g2.length chv1, .slice none 0 0, .slice none 0 0, .int .i64 0]).putI 0 2 (.slice Ahv2 g3.length chv2) #[.slice Ahv0 g1.length chv0, .slice Ahv1 g2.length chv1, .slice Ahv2 g3.length chv2, .slice none 0 0, .int .i64 0]).putI 0 3 (.slice Ahv3 g4.length chv3) #[.slice Ahv0 g1.length chv0, .slice Ahv1 g2.length chv1, .slice Ahv2 g3.length chv2, .slice Ahv3 g4.length chv3, .int .i64 0]).putI 0 4 (.int .i64 g5) #[.slice Ahv0 g1.length chv0, .slice Ahv1 g2.length chv1, .slice Ahv2 g3.length chv2, .slice Ahv3 g4.length chv3, .int .i64 g5]).gen
   rw [e5_]
   clear HS e5_
   have HS := H5_
   clear H5_
   obtain ⟨z170, z171, z172, z173, z174, f170, f171, f172, f173, f174⟩ := box5 (HS.blk 0)
   obtain ⟨z110, z111, z112, z113, z114, f110, f111, f112, f113, f114⟩ := box5 (HS.blk 17)
   obtain ⟨z60, z61, z62, z63, z64, f60, f61, f62, f63, f64⟩ := box5 (HS.blk 18)
   go_upto_region 38 with (first | (go_at_call 12; have HC_ := nw_eq (n := ⟨g1, g2, g3, g4, g5⟩) (m := ⟨w1, w2, w3, w4, w5⟩) (sepNc HS 1) (sepNc HS 19) T5.out; refine HC_.mono ?_; clear HC_; rintro e W_ ⟨rfl, hb_⟩; replace HS := HS.below hb_; clear hb_; clear z170 z171 z172 z173 z174 f170 f171 f172 f173 f174 z110 z111 z112 z113 z114 f110 f111 f112 f113 f114 z60 z61 z62 z63 z64 f60 f61 f62 f63 f64; obtain ⟨z170, z171, z172, z173, z174, f170, f171, f172, f173, f174⟩ := box5 (HS.blk 0); obtain ⟨z110, z111, z112, z113, z114, f110, f111, f112, f113, f114⟩ := box5 (HS.blk 17); obtain ⟨z60, z61, z62, z63, z64, f60, f61, f62, f63, f64⟩ := box5 (HS.blk 18)) | (go_at_call 20; have HC_ := laws_eqBoolS.calls k _ _ gd _ _ wd true _ (HS.rdR 5).2.2 (HS.rdR 5).2.1 (HS.rdR 23).2.2 (HS.rdR 23).2.1 T6.out; refine HC_.mono ?_; clear HC_; rintro e W_ ⟨rfl, hd_⟩; replace HS := HS.below hd_.below; clear hd_; clear z170 z171 z172 z173 z174 f170 f171 f172 f173 f174 z110 z111 z112 z113 z114 f110 f111 f112 f113 f114 z60 z61 z62 z63 z64 f60 f61 f62 f63 f64; obtain ⟨z170, z171, z172, z173, z174, f170, f171, f172, f173, f174⟩ := box5 (HS.blk 0); obtain ⟨z110, z111, z112, z113, z114, f110, f111, f112, f113, f114⟩ := box5 (HS.blk 17); obtain ⟨z60, z61, z62, z63, z64, f60, f61, f62, f63, f64⟩ := box5 (HS.blk 18)))
   go_wp2_with (first | (go_at_call 14; have HC_ := nw_held (n := ⟨q1, q2, q3, q4, g5⟩) (sepNc HS 9) T13.out; refine HC_.mono ?_; clear HC_; rintro e W_ ⟨rfl, hb_⟩; replace HS := HS.below hb_; clear hb_; clear z170 z171 z172 z173 z174 f170 f171 f172 f173 f174 z110 z111 z112 z113 z114 f110 f111 f112 f113 f114 z60 z61 z62 z63 z64 f60 f61 f62 f63 f64; obtain ⟨z170, z171, z172, z173, z174, f170, f171, f172, f173, f174⟩ := box5 (HS.blk 0); obtain ⟨z110, z111, z112, z113, z114, f110, f111, f112, f113, f114⟩ := box5 (HS.blk 17); obtain ⟨z60, z61, z62, z63, z64, f60, f61, f62, f63, f64⟩ := box5 (HS.blk 18)) | (go_at_call 26; have HC_ := nw_heldB (HS.rdR 8) T14.out; refine HC_.mono ?_; clear HC_; rintro e W_ ⟨rfl, hd_⟩; replace HS := HS.below hd_.below; clear hd_; clear z170 z171 z172 z173 z174 f170 f171 f172 f173 f174 z110 z111 z112 z113 z114 f110 f111 f112 f113 f114 z60 z61 z62 z63 z64 f60 f61 f62 f63 f64; obtain ⟨z170, z171, z172, z173, z174, f170, f171, f172, f173, f174⟩ := box5 (HS.blk 0); obtain ⟨z110, z111, z112, z113, z114, f110, f111, f112, f113, f114⟩ := box5 (HS.blk 17); obtain ⟨z60, z61, z62, z63, z64, f60, f61, f62, f63, f64⟩ := box5 (HS.blk 18)))
   go_ret
   exact ⟨er, HS.base⟩

/-- THE ONE PURE STATEMENT of laws_FnExactPlayNet. -/
def laws_FnExactPlayNet.Pure : Prop := ∀ (l0 : List Int) (l1 : List (S50)), (l0.length ≤ maxLen ∧ ∀ y ∈ l0, (Lit.int .i64 y).wf = true) → (l1.length ≤ maxLen ∧ ∀ y ∈ l1, W50 y) → ∃ k, laws_FnExactPlayNet.f k l0 l1 = some true
theorem laws_FnExactPlayNet.walk (P : laws_FnExactPlayNet.Pure) (A0 : Option Addr) (c0 : Nat) (l0 : List Int) (A1 : Option Addr) (c1 : Nat) (l1 : List (S50)) (w : World) (hr0 : Kd.C (Kd.int .i64) w A0 l0.length l0) (hc0 : l0.length ≤ c0) (hr1 : Kd.C k50 w A1 l1.length l1) (hc1 : l1.length ≤ c1) (g0 : (l0.length ≤ maxLen ∧ ∀ y ∈ l0, (Lit.int .i64 y).wf = true)) (g1 : (l1.length ≤ maxLen ∧ ∀ y ∈ l1, W50 y)) :
  Calls Tryz.prog 4 #[.slice A0 l0.length c0, .slice A1 l1.length c1] w fun e w' => e = .returned (.bool true) ∧ Below w.heap.size w w' := by
 obtain ⟨k, h⟩ := P l0 l1 g0 g1
 refine (laws_FnExactPlayNet.calls k _ _ l0 _ _ l1 true w hr0 hc0 hr1 hc1 h rfl).mono ?_
 rintro e w' ⟨rfl, hd⟩
 exact ⟨rfl, hd⟩

end Go.Proofs.YtihekdlcfohkkaaGreatDoor.QFnExactPlayNet
