-- printed by this session's own program (wip/tools/pp.py: the kit's print.py with changes); Lean checks it
import Derived.Test.YtpibdgknmjjolaaQFnTablex0
import Derived.Test.YtpibdgknmjjolaaQFnTablex2
namespace Go.Proofs.Ytpibdgknmjjolaa.QFnTable
open Go.RowKit Go.Proofs.YtpibdgknmjjolaaW.PrintWords Go.Proofs.YtpibdgknmjjolaaW.PrintLast Go.Proofs.YtpibdgknmjjolaaW.PrintMore
attribute [local go_sem] max2_int min2_int max_two min_two max_three min_three max_four min_four strLss strGtr strLeq strGeq   -- for this text's walks alone
set_option linter.unusedVariables false
set_option linter.unusedSimpArgs false

/-! ### impl_GoodTable: function 59 -/
mutual
def impl_GoodTable.j0 : Nat → Bool → Int → List (List Int) → List Int → Option (Bool)
  | 0, _, _, _, _ => none
  | k + 1, x29, x150000, x150001, x150002 => if x29 = true then (some false) else (impl_GoodTable.l0 k x150001 (x150001.length : Int) 0 x150000 x150001 x150002)
def impl_GoodTable.l0 : Nat → List (List Int) → Int → Int → Int → List (List Int) → List Int → Option (Bool)
  | 0, _, _, _, _, _, _ => none
  | k + 1, x31, x32, x33, x150000, x150001, x150002 => if x33 < x32 then (if 0 ≤ x33 then (if x33 < (x31.length : Int) then (if ((rd_L1 x31 x33).length : Int) = 2 then (if 0 < ((rd_L1 x31 x33).length : Int) then (if (rd (rd_L1 x31 x33) 0) < 0 then (impl_GoodTable.j2 k x33 x31 x32 x33 true x150000 x150001 x150002 (rd_L1 x31 x33)) else (if 1 < ((rd_L1 x31 x33).length : Int) then (if (rd (rd_L1 x31 x33) 0) ≥ (rd (rd_L1 x31 x33) 1) then (impl_GoodTable.j2 k x33 x31 x32 x33 true x150000 x150001 x150002 (rd_L1 x31 x33)) else (impl_GoodTable.j2 k x33 x31 x32 x33 (decide ((rd (rd_L1 x31 x33) 1) ≥ x150000)) x150000 x150001 x150002 (rd_L1 x31 x33))) else (none))) else (none)) else (impl_GoodTable.j2 k x33 x31 x32 x33 true x150000 x150001 x150002 (rd_L1 x31 x33))) else (none)) else (none)) else (some true)
def impl_GoodTable.j2 : Nat → Int → List (List Int) → Int → Int → Bool → Int → List (List Int) → List Int → List Int → Option (Bool)
  | 0, _, _, _, _, _, _, _, _, _ => none
  | k + 1, x3, x31, x32, x33, x63, x150000, x150001, x150002, x154000 => if x63 = true then (some false) else (if 0 ≤ x3 then (if x3 ≤ (x150001.length : Int) then ((slices_ContainsFunc_125_at_126_22.f k (x150001.take (x3 : Int).toNat) x154000).bind fun t162 => (if t162 = true then (some false) else (impl_GoodTable.l0 k x31 x32 (wrap64 (x33 + 1)) x150000 x150001 x150002))) else (none)) else (none))
end
def impl_GoodTable.f (k : Nat) (a0_0 : Int) (l0_1 : List (List Int)) (l0_2 : List Int) : Option (Bool) := (impl_within.f a0_0 1 6).bind fun t150 => (if t150 = true then (if (l0_1.length : Int) > 15 then (impl_GoodTable.j0 k true a0_0 l0_1 l0_2) else (if (l0_2.length : Int) = (l0_1.length : Int) then ((impl_allWithin.f k l0_2 0 255).bind fun t151 => (impl_GoodTable.j0 k (!t151) a0_0 l0_1 l0_2)) else (impl_GoodTable.j0 k true a0_0 l0_1 l0_2))) else (impl_GoodTable.j0 k true a0_0 l0_1 l0_2))
theorem impl_GoodTable.mono_l : ∀ k, (∀ y0 y1 y2 y3, LeO (impl_GoodTable.j0 k y0 y1 y2 y3) (impl_GoodTable.j0 (k + 1) y0 y1 y2 y3)) ∧ (∀ y0 y1 y2 y3 y4 y5, LeO (impl_GoodTable.l0 k y0 y1 y2 y3 y4 y5) (impl_GoodTable.l0 (k + 1) y0 y1 y2 y3 y4 y5)) ∧ (∀ y0 y1 y2 y3 y4 y5 y6 y7 y8, LeO (impl_GoodTable.j2 k y0 y1 y2 y3 y4 y5 y6 y7 y8) (impl_GoodTable.j2 (k + 1) y0 y1 y2 y3 y4 y5 y6 y7 y8))
 | 0 => ⟨fun _ _ _ _ r h => by simp [impl_GoodTable.j0] at h, fun _ _ _ _ _ _ r h => by simp [impl_GoodTable.l0] at h, fun _ _ _ _ _ _ _ _ _ r h => by simp [impl_GoodTable.j2] at h⟩
 | k + 1 => by
  obtain ⟨ih0, ih1, ih2⟩ := impl_GoodTable.mono_l k
  refine ⟨?_, ?_, ?_⟩
  ·intro y0 y1 y2 y3
   unfold impl_GoodTable.j0
   repeat' (first | (with_reducible first | exact ih0 _ _ _ _ | exact ih1 _ _ _ _ _ _ | exact ih2 _ _ _ _ _ _ _ _ _ | exact impl_allWithin.mono _ _ _ _ | exact slices_ContainsFunc_125_at_126_22.mono _ _ _ | exact LeO.refl _ | exact LeO.none _ | refine LeO.ite ?_ ?_ | refine LeO.bind ?_ (fun _ => ?_)) | exact ih0 _ _ _ _ | exact ih1 _ _ _ _ _ _ | exact ih2 _ _ _ _ _ _ _ _ _ | exact impl_allWithin.mono _ _ _ _ | exact slices_ContainsFunc_125_at_126_22.mono _ _ _ | exact LeO.none _ | refine LeO.ite ?_ ?_ | refine LeO.bind ?_ (fun _ => ?_))
  ·intro y0 y1 y2 y3 y4 y5
   unfold impl_GoodTable.l0
   repeat' (first | (with_reducible first | exact ih0 _ _ _ _ | exact ih1 _ _ _ _ _ _ | exact ih2 _ _ _ _ _ _ _ _ _ | exact impl_allWithin.mono _ _ _ _ | exact slices_ContainsFunc_125_at_126_22.mono _ _ _ | exact LeO.refl _ | exact LeO.none _ | refine LeO.ite ?_ ?_ | refine LeO.bind ?_ (fun _ => ?_)) | exact ih0 _ _ _ _ | exact ih1 _ _ _ _ _ _ | exact ih2 _ _ _ _ _ _ _ _ _ | exact impl_allWithin.mono _ _ _ _ | exact slices_ContainsFunc_125_at_126_22.mono _ _ _ | exact LeO.none _ | refine LeO.ite ?_ ?_ | refine LeO.bind ?_ (fun _ => ?_))
  ·intro y0 y1 y2 y3 y4 y5 y6 y7 y8
   unfold impl_GoodTable.j2
   repeat' (first | (with_reducible first | exact ih0 _ _ _ _ | exact ih1 _ _ _ _ _ _ | exact ih2 _ _ _ _ _ _ _ _ _ | exact impl_allWithin.mono _ _ _ _ | exact slices_ContainsFunc_125_at_126_22.mono _ _ _ | exact LeO.refl _ | exact LeO.none _ | refine LeO.ite ?_ ?_ | refine LeO.bind ?_ (fun _ => ?_)) | exact ih0 _ _ _ _ | exact ih1 _ _ _ _ _ _ | exact ih2 _ _ _ _ _ _ _ _ _ | exact impl_allWithin.mono _ _ _ _ | exact slices_ContainsFunc_125_at_126_22.mono _ _ _ | exact LeO.none _ | refine LeO.ite ?_ ?_ | refine LeO.bind ?_ (fun _ => ?_))
theorem impl_GoodTable.mono : ∀ a0 a1 a2 k, LeO (impl_GoodTable.f k a0 a1 a2) (impl_GoodTable.f (k + 1) a0 a1 a2) := by
 intro a0 a1 a2 k
 obtain ⟨ih0, ih1, ih2⟩ := impl_GoodTable.mono_l k
 unfold impl_GoodTable.f
 repeat' (first | (with_reducible first | exact ih0 _ _ _ _ | exact ih1 _ _ _ _ _ _ | exact ih2 _ _ _ _ _ _ _ _ _ | exact impl_allWithin.mono _ _ _ _ | exact slices_ContainsFunc_125_at_126_22.mono _ _ _ | exact LeO.refl _ | exact LeO.none _ | refine LeO.ite ?_ ?_ | refine LeO.bind ?_ (fun _ => ?_)) | exact ih0 _ _ _ _ | exact ih1 _ _ _ _ _ _ | exact ih2 _ _ _ _ _ _ _ _ _ | exact impl_allWithin.mono _ _ _ _ | exact slices_ContainsFunc_125_at_126_22.mono _ _ _ | exact LeO.none _ | refine LeO.ite ?_ ?_ | refine LeO.bind ?_ (fun _ => ?_))
set_option maxHeartbeats 8000000 in
set_option maxRecDepth 100000 in
theorem impl_GoodTable.calls (k : Nat) (a0_0 : Int) (A0_1 : Option Addr) (c0_1 : Nat) (l0_1 : List (List Int)) (A0_2 : Option Addr) (c0_2 : Nat) (l0_2 : List Int) (r : Bool) (w : World) (hr0_1 : Kd.C (Kd.slice 3 (Kd.int .i64)) w A0_1 l0_1.length l0_1) (hc0_1 : l0_1.length ≤ c0_1) (hr0_2 : Kd.C (Kd.int .i64) w A0_2 l0_2.length l0_2) (hc0_2 : l0_2.length ≤ c0_2) (h : impl_GoodTable.f k a0_0 l0_1 l0_2 = some r) :
  Calls Try.prog 59 #[.agg #[.int .i64 a0_0, .slice A0_1 l0_1.length c0_1, .slice A0_2 l0_2.length c0_2]] w fun e w' => e = .returned (.bool r) ∧ Below w.heap.size w w' := by
 have hu38 := Try.underlying38
 have HR0_1 := Aside0.mk hr0_1; have HC0_1 := Aside0.mk hc0_1; clear hr0_1 hc0_1; have HR0_2 := Aside0.mk hr0_2; have HC0_2 := Aside0.mk hc0_2; clear hr0_2 hc0_2
 have HB := Aside0.mk (Below.refl w.heap.size w)
 have H : ((impl_within.f a0_0 1 6).bind fun t150 => (if t150 = true then (if (l0_1.length : Int) > 15 then (impl_GoodTable.j0 k true a0_0 l0_1 l0_2) else (if (l0_2.length : Int) = (l0_1.length : Int) then ((impl_allWithin.f k l0_2 0 255).bind fun t151 => (impl_GoodTable.j0 k (!t151) a0_0 l0_1 l0_2)) else (impl_GoodTable.j0 k true a0_0 l0_1 l0_2))) else (impl_GoodTable.j0 k true a0_0 l0_1 l0_2))) = some r := h
 clear h; have HC2 := Aside0.mk H; clear H
 go_enter Try.func59, Try.ntmps59
 go_upto_region 1 with (first | ((with_reducible refine gate_dst (N := 1) rfl ?_); (try (refine gate_guard (by rfl) ?_; dsimp only)); refine boxev 1 #[.int .i64 a0_0, .slice A0_1 l0_1.length c0_1, .slice A0_2 l0_2.length c0_2] 38 ?_; intro gb149 hg w3 hbox hb; have BK149 := ak (hbox); have GW149 := ak (hgl hg (belowd HB)); have GE149 := ak (hgl hg (belowd HB)); replace HB := ak (below_step (belowd HB) hb); clear hb hbox hg))
 repeat (go_quiet (first | ((with_reducible refine gate_dst (N := 1) rfl ?_); (try (refine gate_guard (by rfl) ?_; dsimp only)); refine boxev 1 #[.int .i64 a0_0, .slice A0_1 l0_1.length c0_1, .slice A0_2 l0_2.length c0_2] 38 ?_; intro gb149 hg w3 hbox hb; have BK149 := ak (hbox); have GW149 := ak (hgl hg (belowd HB)); have GE149 := ak (hgl hg (belowd HB)); replace HB := ak (below_step (belowd HB) hb); clear hb hbox hg)); go_upto_region 1 with (first | ((with_reducible refine gate_dst (N := 1) rfl ?_); (try (refine gate_guard (by rfl) ?_; dsimp only)); refine boxev 1 #[.int .i64 a0_0, .slice A0_1 l0_1.length c0_1, .slice A0_2 l0_2.length c0_2] 38 ?_; intro gb149 hg w3 hbox hb; have BK149 := ak (hbox); have GW149 := ak (hgl hg (belowd HB)); have GE149 := ak (hgl hg (belowd HB)); replace HB := ak (below_step (belowd HB) hb); clear hb hbox hg)))
 (try simp only [Act.put, List.setIfInBounds_toArray, List.set_cons_zero, List.set_cons_succ])
 go_cut [29] (fun v29 wc => ∃ (kq : Nat) (x29_1 : Bool), v29 = .bool x29_1 ∧ Aside0 (impl_GoodTable.j0 kq x29_1 a0_0 l0_1 l0_2 = some r) ∧ Aside0 (kq ≤ k) ∧ Aside0 (wc.heap[gb149]? = some (.cells #[.int .i64 a0_0, (.slice A0_1 l0_1.length c0_1), (.slice A0_2 l0_2.length c0_2)] 38 (0, 0))) ∧ Aside0 (Below w.heap.size w wc))
 case first =>
  have H := HC2.out; clear HC2; replace H := bS H; obtain ⟨t150, A4, H⟩ := H
  replace H : (if t150 = true then (if (l0_1.length : Int) > 15 then (impl_GoodTable.j0 k true a0_0 l0_1 l0_2) else (if (l0_2.length : Int) = (l0_1.length : Int) then ((impl_allWithin.f k l0_2 0 255).bind fun t151 => (impl_GoodTable.j0 k (!t151) a0_0 l0_1 l0_2)) else (impl_GoodTable.j0 k true a0_0 l0_1 l0_2))) else (impl_GoodTable.j0 k true a0_0 l0_1 l0_2)) = some r := H
  by_cases c5 : t150 = true
  ·subst c5
   have H1 : (if (l0_1.length : Int) > 15 then (impl_GoodTable.j0 k true a0_0 l0_1 l0_2) else (if (l0_2.length : Int) = (l0_1.length : Int) then ((impl_allWithin.f k l0_2 0 255).bind fun t151 => (impl_GoodTable.j0 k (!t151) a0_0 l0_1 l0_2)) else (impl_GoodTable.j0 k true a0_0 l0_1 l0_2))) = some r := by rw [if_pos rfl] at H; exact H
   clear H
   have H := H1
   clear H1
   by_cases c6 : (l0_1.length : Int) > 15
   ·rw [if_pos c6] at H
    have c6b0 : decide (15 < (l0_1.length : Int)) = true := decide_eq_true c6
    have c6b1 : decide (15 < l0_1.length) = true := decide_eq_true (by omega)
    clear c6
    (first | rw [c6b0] | (simp only [i64_w, i32_w]; rw [c6b0]) | skip)
    have H' := Aside0.mk H
    clear H; obtain ⟨hcz7_0, hcz7_1, hcz7_2, hfz7_0, hfz7_1, hfz7_2⟩ := box3 BK149
    go_wp2_with (first | (go_at_call 87; (with_reducible refine (impl_within.calls a0_0 1 6 true _ A4.out).mono ?_); rintro e w' ⟨rfl, ⟨nd, rfl⟩⟩; (try first | exact ⟨rfl, _, World.drewN_drewN _ _ _⟩ | exact ⟨rfl, _, Eq.trans (World.drewN_drewN _ _ _) (congrArg (World.drewN _) (Nat.add_assoc _ _ _))⟩)))
    repeat (go_quiet (first | (go_at_call 87; (with_reducible refine (impl_within.calls a0_0 1 6 true _ A4.out).mono ?_); rintro e w' ⟨rfl, ⟨nd, rfl⟩⟩; (try first | exact ⟨rfl, _, World.drewN_drewN _ _ _⟩ | exact ⟨rfl, _, Eq.trans (World.drewN_drewN _ _ _) (congrArg (World.drewN _) (Nat.add_assoc _ _ _))⟩))); try go_wp2_with (first | (go_at_call 87; (with_reducible refine (impl_within.calls a0_0 1 6 true _ A4.out).mono ?_); rintro e w' ⟨rfl, ⟨nd, rfl⟩⟩; (try first | exact ⟨rfl, _, World.drewN_drewN _ _ _⟩ | exact ⟨rfl, _, Eq.trans (World.drewN_drewN _ _ _) (congrArg (World.drewN _) (Nat.add_assoc _ _ _))⟩))))
    go_meet
    case rel => exact ⟨_, (true), er, H', ⟨by first | omega | exact Nat.le_refl _⟩, ⟨blkd BK149⟩, ⟨belowg1 HB GE149⟩⟩
   ·rw [if_neg c6] at H
    have c6b0 : decide (15 < (l0_1.length : Int)) = false := decide_eq_false c6
    have c6b1 : decide (15 < l0_1.length) = false := decide_eq_false (by omega)
    clear c6
    (first | rw [c6b0] | (simp only [i64_w, i32_w]; rw [c6b0]) | skip)
    by_cases c8 : (l0_2.length : Int) = (l0_1.length : Int)
    ·rw [if_pos c8] at H
     have c8b0 : ((l0_2.length : Int) == (l0_1.length : Int)) = true := beq_iff_eq.mpr c8
     have c8b1 : ((l0_2.length : Int) != (l0_1.length : Int)) = false := bne_eq_false_iff_eq.mpr c8
     have c8b2 : (l0_2.length == l0_1.length) = true := by first | simpa using c8 | (simp at c8 ⊢; omega)
     clear c8; replace H := bS H; obtain ⟨t151, A9, H⟩ := H
     replace H : (impl_GoodTable.j0 k (!t151) a0_0 l0_1 l0_2) = some r := H
     have H' := Aside0.mk H
     clear H; obtain ⟨hcz10_0, hcz10_1, hcz10_2, hfz10_0, hfz10_1, hfz10_2⟩ := box3 BK149
     go_wp2_with (first | (go_at_call 87; (with_reducible refine (impl_within.calls a0_0 1 6 true _ A4.out).mono ?_); rintro e w' ⟨rfl, ⟨nd, rfl⟩⟩; (try first | exact ⟨rfl, _, World.drewN_drewN _ _ _⟩ | exact ⟨rfl, _, Eq.trans (World.drewN_drewN _ _ _) (congrArg (World.drewN _) (Nat.add_assoc _ _ _))⟩)) | (go_at_call 124; (with_reducible refine (impl_allWithin.calls k _ _ l0_2 0 255 t151 _ ?side1 ?side2 A9.out).mono ?_); (case side1 => exact cd (Kd.C_below HR0_2.out (belowg1 HB GE149))); (case side2 => exact HC0_2.out); rintro e w' ⟨rfl, ⟨nd, rfl⟩⟩; (try first | exact ⟨rfl, _, World.drewN_drewN _ _ _⟩ | exact ⟨rfl, _, Eq.trans (World.drewN_drewN _ _ _) (congrArg (World.drewN _) (Nat.add_assoc _ _ _))⟩)))
     repeat (go_quiet (first | (go_at_call 87; (with_reducible refine (impl_within.calls a0_0 1 6 true _ A4.out).mono ?_); rintro e w' ⟨rfl, ⟨nd, rfl⟩⟩; (try first | exact ⟨rfl, _, World.drewN_drewN _ _ _⟩ | exact ⟨rfl, _, Eq.trans (World.drewN_drewN _ _ _) (congrArg (World.drewN _) (Nat.add_assoc _ _ _))⟩)) | (go_at_call 124; (with_reducible refine (impl_allWithin.calls k _ _ l0_2 0 255 t151 _ ?side1 ?side2 A9.out).mono ?_); (case side1 => exact cd (Kd.C_below HR0_2.out (belowg1 HB GE149))); (case side2 => exact HC0_2.out); rintro e w' ⟨rfl, ⟨nd, rfl⟩⟩; (try first | exact ⟨rfl, _, World.drewN_drewN _ _ _⟩ | exact ⟨rfl, _, Eq.trans (World.drewN_drewN _ _ _) (congrArg (World.drewN _) (Nat.add_assoc _ _ _))⟩))); try go_wp2_with (first | (go_at_call 87; (with_reducible refine (impl_within.calls a0_0 1 6 true _ A4.out).mono ?_); rintro e w' ⟨rfl, ⟨nd, rfl⟩⟩; (try first | exact ⟨rfl, _, World.drewN_drewN _ _ _⟩ | exact ⟨rfl, _, Eq.trans (World.drewN_drewN _ _ _) (congrArg (World.drewN _) (Nat.add_assoc _ _ _))⟩)) | (go_at_call 124; (with_reducible refine (impl_allWithin.calls k _ _ l0_2 0 255 t151 _ ?side1 ?side2 A9.out).mono ?_); (case side1 => exact cd (Kd.C_below HR0_2.out (belowg1 HB GE149))); (case side2 => exact HC0_2.out); rintro e w' ⟨rfl, ⟨nd, rfl⟩⟩; (try first | exact ⟨rfl, _, World.drewN_drewN _ _ _⟩ | exact ⟨rfl, _, Eq.trans (World.drewN_drewN _ _ _) (congrArg (World.drewN _) (Nat.add_assoc _ _ _))⟩))))
     go_meet
     case rel => exact ⟨_, (!t151), er, H', ⟨by first | omega | exact Nat.le_refl _⟩, ⟨blkd BK149⟩, ⟨belowg1 HB GE149⟩⟩
    ·rw [if_neg c8] at H
     have c8b0 : ((l0_2.length : Int) == (l0_1.length : Int)) = false := beq_eq_false_iff_ne.mpr c8
     have c8b1 : ((l0_2.length : Int) != (l0_1.length : Int)) = true := bne_iff_ne.mpr c8
     have c8b2 : (l0_2.length == l0_1.length) = false := by first | simpa using c8 | (simp at c8 ⊢; omega)
     have H' := Aside0.mk H
     clear H; obtain ⟨hcz11_0, hcz11_1, hcz11_2, hfz11_0, hfz11_1, hfz11_2⟩ := box3 BK149
     go_wp2_with (first | (go_at_call 87; (with_reducible refine (impl_within.calls a0_0 1 6 true _ A4.out).mono ?_); rintro e w' ⟨rfl, ⟨nd, rfl⟩⟩; (try first | exact ⟨rfl, _, World.drewN_drewN _ _ _⟩ | exact ⟨rfl, _, Eq.trans (World.drewN_drewN _ _ _) (congrArg (World.drewN _) (Nat.add_assoc _ _ _))⟩)))
     repeat (go_quiet (first | (go_at_call 87; (with_reducible refine (impl_within.calls a0_0 1 6 true _ A4.out).mono ?_); rintro e w' ⟨rfl, ⟨nd, rfl⟩⟩; (try first | exact ⟨rfl, _, World.drewN_drewN _ _ _⟩ | exact ⟨rfl, _, Eq.trans (World.drewN_drewN _ _ _) (congrArg (World.drewN _) (Nat.add_assoc _ _ _))⟩))); try go_wp2_with (first | (go_at_call 87; (with_reducible refine (impl_within.calls a0_0 1 6 true _ A4.out).mono ?_); rintro e w' ⟨rfl, ⟨nd, rfl⟩⟩; (try first | exact ⟨rfl, _, World.drewN_drewN _ _ _⟩ | exact ⟨rfl, _, Eq.trans (World.drewN_drewN _ _ _) (congrArg (World.drewN _) (Nat.add_assoc _ _ _))⟩))))
     go_meet
     case rel => exact ⟨_, (true), er, H', ⟨by first | omega | exact Nat.le_refl _⟩, ⟨blkd BK149⟩, ⟨belowg1 HB GE149⟩⟩
  ·replace c5 := Bool.eq_false_iff.mpr c5
   subst c5
   have H1 : (impl_GoodTable.j0 k true a0_0 l0_1 l0_2) = some r := by rw [if_neg (show ¬ (false = true) by decide)] at H; exact H
   clear H
   have H := H1
   clear H1
   have H' := Aside0.mk H
   clear H; obtain ⟨hcz12_0, hcz12_1, hcz12_2, hfz12_0, hfz12_1, hfz12_2⟩ := box3 BK149
   go_wp2_with (first | (go_at_call 87; (with_reducible refine (impl_within.calls a0_0 1 6 false _ A4.out).mono ?_); rintro e w' ⟨rfl, ⟨nd, rfl⟩⟩; (try first | exact ⟨rfl, _, World.drewN_drewN _ _ _⟩ | exact ⟨rfl, _, Eq.trans (World.drewN_drewN _ _ _) (congrArg (World.drewN _) (Nat.add_assoc _ _ _))⟩)))
   repeat (go_quiet (first | (go_at_call 87; (with_reducible refine (impl_within.calls a0_0 1 6 false _ A4.out).mono ?_); rintro e w' ⟨rfl, ⟨nd, rfl⟩⟩; (try first | exact ⟨rfl, _, World.drewN_drewN _ _ _⟩ | exact ⟨rfl, _, Eq.trans (World.drewN_drewN _ _ _) (congrArg (World.drewN _) (Nat.add_assoc _ _ _))⟩))); try go_wp2_with (first | (go_at_call 87; (with_reducible refine (impl_within.calls a0_0 1 6 false _ A4.out).mono ?_); rintro e w' ⟨rfl, ⟨nd, rfl⟩⟩; (try first | exact ⟨rfl, _, World.drewN_drewN _ _ _⟩ | exact ⟨rfl, _, Eq.trans (World.drewN_drewN _ _ _) (congrArg (World.drewN _) (Nat.add_assoc _ _ _))⟩))))
   go_meet
   case rel => exact ⟨_, (true), er, H', ⟨by first | omega | exact Nat.le_refl _⟩, ⟨blkd BK149⟩, ⟨belowg1 HB GE149⟩⟩
 case rest =>
  clear HC2
  obtain ⟨kq, x29_1, rfl, HA, HJ1, BK149, HB⟩ := hcut
  cases kq with
  | zero => exact absurd HA.out (by simp [impl_GoodTable.j0])
  | succ kj1 =>
   have H := HA.out; clear HA
   simp only [impl_GoodTable.j0] at H
   by_cases c13 : x29_1 = true
   ·subst c13
    have H1 : (some false) = some r := by rw [if_pos rfl] at H; exact H
    clear H
    have H := H1
    clear H1
    obtain rfl := Option.some.inj H
    go_wp2
    repeat (go_quiet (fail); try go_wp2)
    go_ret
    exact ⟨er2, belowg1 HB GE149⟩
   ·replace c13 := Bool.eq_false_iff.mpr c13
    subst c13
    have H1 : (impl_GoodTable.l0 kj1 l0_1 (l0_1.length : Int) 0 a0_0 l0_1 l0_2) = some r := by rw [if_neg (show ¬ (false = true) by decide)] at H; exact H
    clear H
    have H := H1
    clear H1
    have H' := Aside0.mk H
    clear H; obtain ⟨hcz14_0, hcz14_1, hcz14_2, hfz14_0, hfz14_1, hfz14_2⟩ := box3 BK149; go_wp2
    repeat (go_quiet (fail); try go_wp2)
    go_loopg [33] kj1 (fun kq v33 w' => ∃ (x33_2 : Int), v33 = .int .i64 x33_2 ∧ Aside0 (impl_GoodTable.l0 kq l0_1 (l0_1.length : Int) x33_2 a0_0 l0_1 l0_2 = some r) ∧ Aside0 (kq ≤ kj1) ∧ Aside0 (w'.heap[gb149]? = some (.cells #[.int .i64 a0_0, (.slice A0_1 l0_1.length c0_1), (.slice A0_2 l0_2.length c0_2)] 38 (0, 0))) ∧ Aside0 (Below w.heap.size w w'))
    case atStart => exact ⟨(0), er, H', ⟨Nat.le_refl _⟩, ⟨blkd BK149⟩, ⟨belowg1 HB GE149⟩⟩
    case round =>
     clear H'
     (try clear c13); (try clear hcz14_0); (try clear hcz14_1); (try clear hcz14_2); (try clear hfz14_0); (try clear hfz14_1); (try clear hfz14_2)
     obtain ⟨x33_2, rfl, HA, HK2, BK149, HB⟩ := hrel
     cases gk with
     | zero => exact absurd HA.out (by simp [impl_GoodTable.l0])
     | succ k2 =>
      have H := HA.out; clear HA
      simp only [impl_GoodTable.l0] at H
      by_cases c15 : x33_2 < (l0_1.length : Int)
      ·rw [if_pos c15] at H
       have c15b0 : decide (x33_2 < (l0_1.length : Int)) = true := decide_eq_true c15
       clear c15; replace H := ifS H; obtain ⟨c16, H⟩ := H; have c16b0 := decide_eq_true c16; clear c16; replace H := ifS H; obtain ⟨c17, H⟩ := H; have c17b0 := decide_eq_true c17; clear c17; have HC18 := Aside0.mk H; clear H
       have p152 : 0 ≤ (x33_2 : Int) := da
       have q152 : x33_2 < (l0_1.length : Int) := da
       obtain ⟨ad152, A152_0, c152_0, e152, hx152_0, hl152_0, hi152_0⟩ := at_L1 HR0_1.out x33_2 p152 q152
       cases e152
       replace hx152_0 := (HB.out.cell (World.block_lt_of_cell? w _ hx152_0)).trans hx152_0
       have HR152_0 := Aside0.mk hi152_0; have HC152_0 := Aside0.mk hl152_0; clear hi152_0 hl152_0; replace p152 := eq_true p152; replace q152 := eq_true q152
       go_upto_region 6 with (first | ((with_reducible refine gate_dst (N := 4) rfl ?_); (try (refine gate_guard (by rfl) ?_; dsimp only)); refine boxev 4 #[.slice none 0 0] 22 ?_; intro gb153 hg w19 hbox hb; have BK153 := ak (hbox); have GW153 := ak (hgl hg (belowg1 HB GE149)); have GE153 := ak (hgl hg (belowg1 HB GE149)); replace HB := ak (below_step (belowg1 HB GE149) hb); have NB149_153 := ak ((by rw [hg]; exact Nat.ne_of_lt (blk_lt (blkd BK149)) : gb149 ≠ gb153)); have NB153_149 := ak ((by rw [hg]; exact Nat.ne_of_gt (blk_lt (blkd BK149)) : gb153 ≠ gb149)); replace BK149 := ak (blk_below (blkd BK149) hb); clear hb hbox hg; have hnb20 := NB153_149.out; have hnc20 := NB149_153.out; obtain ⟨hcz21_0, hfz21_0⟩ := box1 BK153))
       repeat (go_quiet (first | ((with_reducible refine gate_dst (N := 4) rfl ?_); (try (refine gate_guard (by rfl) ?_; dsimp only)); refine boxev 4 #[.slice none 0 0] 22 ?_; intro gb153 hg w19 hbox hb; have BK153 := ak (hbox); have GW153 := ak (hgl hg (belowg1 HB GE149)); have GE153 := ak (hgl hg (belowg1 HB GE149)); replace HB := ak (below_step (belowg1 HB GE149) hb); have NB149_153 := ak ((by rw [hg]; exact Nat.ne_of_lt (blk_lt (blkd BK149)) : gb149 ≠ gb153)); have NB153_149 := ak ((by rw [hg]; exact Nat.ne_of_gt (blk_lt (blkd BK149)) : gb153 ≠ gb149)); replace BK149 := ak (blk_below (blkd BK149) hb); clear hb hbox hg; have hnb20 := NB153_149.out; have hnc20 := NB149_153.out; obtain ⟨hcz21_0, hfz21_0⟩ := box1 BK153)); go_upto_region 6 with (first | ((with_reducible refine gate_dst (N := 4) rfl ?_); (try (refine gate_guard (by rfl) ?_; dsimp only)); refine boxev 4 #[.slice none 0 0] 22 ?_; intro gb153 hg w19 hbox hb; have BK153 := ak (hbox); have GW153 := ak (hgl hg (belowg1 HB GE149)); have GE153 := ak (hgl hg (belowg1 HB GE149)); replace HB := ak (below_step (belowg1 HB GE149) hb); have NB149_153 := ak ((by rw [hg]; exact Nat.ne_of_lt (blk_lt (blkd BK149)) : gb149 ≠ gb153)); have NB153_149 := ak ((by rw [hg]; exact Nat.ne_of_gt (blk_lt (blkd BK149)) : gb153 ≠ gb149)); replace BK149 := ak (blk_below (blkd BK149) hb); clear hb hbox hg; have hnb20 := NB153_149.out; have hnc20 := NB149_153.out; obtain ⟨hcz21_0, hfz21_0⟩ := box1 BK153)))
       (try simp only [Act.put, List.setIfInBounds_toArray, List.set_cons_zero, List.set_cons_succ])
       go_cut [63] (fun v63 wc => ∃ (kq : Nat) (x63_17 : Bool), v63 = .bool x63_17 ∧ Aside0 (impl_GoodTable.j2 kq x33_2 l0_1 (l0_1.length : Int) x33_2 x63_17 a0_0 l0_1 l0_2 (rd_L1 l0_1 x33_2) = some r) ∧ Aside0 (kq ≤ k2) ∧ Aside0 (wc.heap[gb149]? = some (.cells #[.int .i64 a0_0, (.slice (some ad152) l0_1.length c0_1), (.slice A0_2 l0_2.length c0_2)] 38 (0, 0))) ∧ Aside0 (wc.heap[gb153]? = some (.cells #[(.slice A152_0 (rd_L1 l0_1 x33_2).length c152_0)] 22 (0, 0))) ∧ Aside0 (Below w.heap.size w wc))
       case first =>
        have H := HC18.out; clear HC18
        by_cases c22 : ((rd_L1 l0_1 x33_2).length : Int) = 2
        ·rw [if_pos c22] at H
         have c22b0 : (((rd_L1 l0_1 x33_2).length : Int) == 2) = true := beq_iff_eq.mpr c22
         have c22b1 : (((rd_L1 l0_1 x33_2).length : Int) != 2) = false := bne_eq_false_iff_eq.mpr c22
         clear c22
         (first | rw [c22b0] | (simp only [i64_w, i32_w]; rw [c22b0]) | skip)
         replace H := ifS H; obtain ⟨c23, H⟩ := H; have c23b0 := decide_eq_true c23
         have c23b1 : decide (0 < (rd_L1 l0_1 x33_2).length) = true := decide_eq_true (by omega)
         clear c23
         by_cases c24 : (rd (rd_L1 l0_1 x33_2) 0) < 0
         ·rw [if_pos c24] at H
          have c24b0 : decide ((rd (rd_L1 l0_1 x33_2) 0) < 0) = true := decide_eq_true c24
          clear c24
          have H' := Aside0.mk H
          clear H; have hnb25 := NB153_149.out; have hnc25 := NB149_153.out; obtain ⟨hcz26_0, hfz26_0⟩ := box1 BK153
          have p154 : 0 ≤ (0 : Int) := (by omega)
          have q154 : 0 < ((rd_L1 l0_1 x33_2).length : Int) := da
          obtain ⟨ad154, e154, hx154_0⟩ := Kd.at_int HR152_0.out 0 p154 q154
          cases e154
          have qi154 : (0 < (rd_L1 l0_1 x33_2).length) = True := eq_true (by omega)
          (try rw [show ((0 : Int)).toNat = 0 from rfl] at hx154_0)
          (try rw [Addr.add_zero'] at hx154_0)
          have hn154_0 : ad154.block ≠ gb153 := Nat.ne_of_lt (Nat.lt_of_lt_of_le (by have := World.block_lt_of_cell? _ _ hx154_0; first | rwa [add_block] at this | exact this) GW153.out)
          replace hx154_0 := (HB.out.cell (World.block_lt_of_cell? w _ hx154_0)).trans hx154_0
          replace hx154_0 := (cell_far (p := ⟨gb153, 0, none⟩) (by first | (rw [add_block]; exact hn154_0) | (show (Addr.add _ _).block ≠ _; rw [add_block]; exact hn154_0) | exact hn154_0) (.slice (some ad154) (rd_L1 l0_1 x33_2).length c152_0)).trans hx154_0
          (try have hy154_0 := fun (n_ : Nat) => (show (((w19.drewN n_).setCell ⟨gb153, 0, none⟩ (.slice (some ad154) (rd_L1 l0_1 x33_2).length c152_0))).cell? _ = some _ from hx154_0))
          clear hn154_0; replace p154 := eq_true p154; replace q154 := eq_true q154; go_wp2
          repeat (go_quiet (fail); try go_wp2)
          go_meet
          case rel => exact ⟨_, (true), er, H', ⟨by have := HJ1.out; have := HK2.out; first | omega | exact Nat.le_refl _⟩, ⟨by (with_reducible repeat (first | refine blk_drewN ?_ _ | refine blk_drew ?_ | refine blk_alloc ?_ _)); refine blk_far ?_ NB149_153.out _; (with_reducible repeat (first | refine blk_drewN ?_ _ | refine blk_drew ?_ | refine blk_alloc ?_ _)); exact BK149.out⟩, ⟨by (with_reducible repeat (first | refine blk_drewN ?_ _ | refine blk_drew ?_ | refine blk_alloc ?_ _)); refine blk_put (cs := #[.slice none 0 0]) ?_ 0 _ rfl; (with_reducible repeat (first | refine blk_drewN ?_ _ | refine blk_drew ?_ | refine blk_alloc ?_ _)); exact BK153.out⟩, ⟨belowg2 HB GE149 GE153⟩⟩
         ·rw [if_neg c24] at H
          have c24b0 : decide ((rd (rd_L1 l0_1 x33_2) 0) < 0) = false := decide_eq_false c24
          clear c24; replace H := ifS H; obtain ⟨c27, H⟩ := H; have c27b0 := decide_eq_true c27
          have c27b1 : decide (1 < (rd_L1 l0_1 x33_2).length) = true := decide_eq_true (by omega)
          clear c27
          by_cases c28 : (rd (rd_L1 l0_1 x33_2) 0) ≥ (rd (rd_L1 l0_1 x33_2) 1)
          ·rw [if_pos c28] at H
           have c28b0 : decide ((rd (rd_L1 l0_1 x33_2) 1) ≤ (rd (rd_L1 l0_1 x33_2) 0)) = true := decide_eq_true c28
           clear c28
           have H' := Aside0.mk H
           clear H; have hnb29 := NB153_149.out; have hnc29 := NB149_153.out; obtain ⟨hcz30_0, hfz30_0⟩ := box1 BK153
           have p154 : 0 ≤ (0 : Int) := (by omega)
           have q154 : 0 < ((rd_L1 l0_1 x33_2).length : Int) := da
           obtain ⟨ad154, e154, hx154_0⟩ := Kd.at_int HR152_0.out 0 p154 q154
           cases e154
           have qi154 : (0 < (rd_L1 l0_1 x33_2).length) = True := eq_true (by omega)
           (try rw [show ((0 : Int)).toNat = 0 from rfl] at hx154_0)
           (try rw [Addr.add_zero'] at hx154_0)
           have hn154_0 : ad154.block ≠ gb153 := Nat.ne_of_lt (Nat.lt_of_lt_of_le (by have := World.block_lt_of_cell? _ _ hx154_0; first | rwa [add_block] at this | exact this) GW153.out)
           replace hx154_0 := (HB.out.cell (World.block_lt_of_cell? w _ hx154_0)).trans hx154_0
           replace hx154_0 := (cell_far (p := ⟨gb153, 0, none⟩) (by first | (rw [add_block]; exact hn154_0) | (show (Addr.add _ _).block ≠ _; rw [add_block]; exact hn154_0) | exact hn154_0) (.slice (some ad154) (rd_L1 l0_1 x33_2).length c152_0)).trans hx154_0
           (try have hy154_0 := fun (n_ : Nat) => (show (((w19.drewN n_).setCell ⟨gb153, 0, none⟩ (.slice (some ad154) (rd_L1 l0_1 x33_2).length c152_0))).cell? _ = some _ from hx154_0))
           clear hn154_0; replace p154 := eq_true p154; replace q154 := eq_true q154
           have p155 : 0 ≤ (0 : Int) := (by omega)
           have q155 : 0 < ((rd_L1 l0_1 x33_2).length : Int) := da
           obtain ⟨ad155, e155, hx155_0⟩ := Kd.at_int HR152_0.out 0 p155 q155
           obtain rfl : ad154 = ad155 := (by injection e155)
           have qi155 : (0 < (rd_L1 l0_1 x33_2).length) = True := eq_true (by omega)
           (try rw [show ((0 : Int)).toNat = 0 from rfl] at hx155_0)
           (try rw [Addr.add_zero'] at hx155_0)
           have hn155_0 : ad154.block ≠ gb153 := Nat.ne_of_lt (Nat.lt_of_lt_of_le (by have := World.block_lt_of_cell? _ _ hx155_0; first | rwa [add_block] at this | exact this) GW153.out)
           replace hx155_0 := (HB.out.cell (World.block_lt_of_cell? w _ hx155_0)).trans hx155_0
           replace hx155_0 := (cell_far (p := ⟨gb153, 0, none⟩) (by first | (rw [add_block]; exact hn155_0) | (show (Addr.add _ _).block ≠ _; rw [add_block]; exact hn155_0) | exact hn155_0) (.slice (some ad154) (rd_L1 l0_1 x33_2).length c152_0)).trans hx155_0
           (try have hy155_0 := fun (n_ : Nat) => (show (((w19.drewN n_).setCell ⟨gb153, 0, none⟩ (.slice (some ad154) (rd_L1 l0_1 x33_2).length c152_0))).cell? _ = some _ from hx155_0))
           clear hn155_0; replace p155 := eq_true p155; replace q155 := eq_true q155
           have p156 : 0 ≤ (1 : Int) := (by omega)
           have q156 : 1 < ((rd_L1 l0_1 x33_2).length : Int) := da
           obtain ⟨ad156, e156, hx156_0⟩ := Kd.at_int HR152_0.out 1 p156 q156
           obtain rfl : ad154 = ad156 := (by injection e156)
           (try simp only [show (1 : Int).toNat = 1 from rfl, Nat.reduceMul, Nat.reduceEqDiff, Go.Addr.add, ↓reduceIte] at hx156_0)
           have qi156 : (1 < (rd_L1 l0_1 x33_2).length) = True := eq_true (by omega)
           (try rw [show ((1 : Int)).toNat = 1 from rfl] at hx156_0)
           have hn156_0 : ad154.block ≠ gb153 := Nat.ne_of_lt (Nat.lt_of_lt_of_le (by have := World.block_lt_of_cell? _ _ hx156_0; first | rwa [add_block] at this | exact this) GW153.out)
           replace hx156_0 := (HB.out.cell (World.block_lt_of_cell? w _ hx156_0)).trans hx156_0
           replace hx156_0 := (cell_far (p := ⟨gb153, 0, none⟩) (by first | (rw [add_block]; exact hn156_0) | (show (Addr.add _ _).block ≠ _; rw [add_block]; exact hn156_0) | exact hn156_0) (.slice (some ad154) (rd_L1 l0_1 x33_2).length c152_0)).trans hx156_0
           (try have hy156_0 := fun (n_ : Nat) => (show (((w19.drewN n_).setCell ⟨gb153, 0, none⟩ (.slice (some ad154) (rd_L1 l0_1 x33_2).length c152_0))).cell? _ = some _ from hx156_0))
           clear hn156_0; replace p156 := eq_true p156; replace q156 := eq_true q156; go_wp2
           repeat (go_quiet (fail); try go_wp2)
           go_meet
           case rel => exact ⟨_, (true), er, H', ⟨by have := HJ1.out; have := HK2.out; first | omega | exact Nat.le_refl _⟩, ⟨by (with_reducible repeat (first | refine blk_drewN ?_ _ | refine blk_drew ?_ | refine blk_alloc ?_ _)); refine blk_far ?_ NB149_153.out _; (with_reducible repeat (first | refine blk_drewN ?_ _ | refine blk_drew ?_ | refine blk_alloc ?_ _)); exact BK149.out⟩, ⟨by (with_reducible repeat (first | refine blk_drewN ?_ _ | refine blk_drew ?_ | refine blk_alloc ?_ _)); refine blk_put (cs := #[.slice none 0 0]) ?_ 0 _ rfl; (with_reducible repeat (first | refine blk_drewN ?_ _ | refine blk_drew ?_ | refine blk_alloc ?_ _)); exact BK153.out⟩, ⟨belowg2 HB GE149 GE153⟩⟩
          ·rw [if_neg c28] at H
           have c28b0 : decide ((rd (rd_L1 l0_1 x33_2) 1) ≤ (rd (rd_L1 l0_1 x33_2) 0)) = false := decide_eq_false c28
           clear c28
           have H' := Aside0.mk H
           clear H; have hnb31 := NB153_149.out; have hnc31 := NB149_153.out; obtain ⟨hcz32_0, hfz32_0⟩ := box1 BK153
           have p154 : 0 ≤ (0 : Int) := (by omega)
           have q154 : 0 < ((rd_L1 l0_1 x33_2).length : Int) := da
           obtain ⟨ad154, e154, hx154_0⟩ := Kd.at_int HR152_0.out 0 p154 q154
           cases e154
           have qi154 : (0 < (rd_L1 l0_1 x33_2).length) = True := eq_true (by omega)
           (try rw [show ((0 : Int)).toNat = 0 from rfl] at hx154_0)
           (try rw [Addr.add_zero'] at hx154_0)
           have hn154_0 : ad154.block ≠ gb153 := Nat.ne_of_lt (Nat.lt_of_lt_of_le (by have := World.block_lt_of_cell? _ _ hx154_0; first | rwa [add_block] at this | exact this) GW153.out)
           replace hx154_0 := (HB.out.cell (World.block_lt_of_cell? w _ hx154_0)).trans hx154_0
           replace hx154_0 := (cell_far (p := ⟨gb153, 0, none⟩) (by first | (rw [add_block]; exact hn154_0) | (show (Addr.add _ _).block ≠ _; rw [add_block]; exact hn154_0) | exact hn154_0) (.slice (some ad154) (rd_L1 l0_1 x33_2).length c152_0)).trans hx154_0
           (try have hy154_0 := fun (n_ : Nat) => (show (((w19.drewN n_).setCell ⟨gb153, 0, none⟩ (.slice (some ad154) (rd_L1 l0_1 x33_2).length c152_0))).cell? _ = some _ from hx154_0))
           clear hn154_0; replace p154 := eq_true p154; replace q154 := eq_true q154
           have p155 : 0 ≤ (0 : Int) := (by omega)
           have q155 : 0 < ((rd_L1 l0_1 x33_2).length : Int) := da
           obtain ⟨ad155, e155, hx155_0⟩ := Kd.at_int HR152_0.out 0 p155 q155
           obtain rfl : ad154 = ad155 := (by injection e155)
           have qi155 : (0 < (rd_L1 l0_1 x33_2).length) = True := eq_true (by omega)
           (try rw [show ((0 : Int)).toNat = 0 from rfl] at hx155_0)
           (try rw [Addr.add_zero'] at hx155_0)
           have hn155_0 : ad154.block ≠ gb153 := Nat.ne_of_lt (Nat.lt_of_lt_of_le (by have := World.block_lt_of_cell? _ _ hx155_0; first | rwa [add_block] at this | exact this) GW153.out)
           replace hx155_0 := (HB.out.cell (World.block_lt_of_cell? w _ hx155_0)).trans hx155_0
           replace hx155_0 := (cell_far (p := ⟨gb153, 0, none⟩) (by first | (rw [add_block]; exact hn155_0) | (show (Addr.add _ _).block ≠ _; rw [add_block]; exact hn155_0) | exact hn155_0) (.slice (some ad154) (rd_L1 l0_1 x33_2).length c152_0)).trans hx155_0
           (try have hy155_0 := fun (n_ : Nat) => (show (((w19.drewN n_).setCell ⟨gb153, 0, none⟩ (.slice (some ad154) (rd_L1 l0_1 x33_2).length c152_0))).cell? _ = some _ from hx155_0))
           clear hn155_0; replace p155 := eq_true p155; replace q155 := eq_true q155
           have p156 : 0 ≤ (1 : Int) := (by omega)
           have q156 : 1 < ((rd_L1 l0_1 x33_2).length : Int) := da
           obtain ⟨ad156, e156, hx156_0⟩ := Kd.at_int HR152_0.out 1 p156 q156
           obtain rfl : ad154 = ad156 := (by injection e156)
           (try simp only [show (1 : Int).toNat = 1 from rfl, Nat.reduceMul, Nat.reduceEqDiff, Go.Addr.add, ↓reduceIte] at hx156_0)
           have qi156 : (1 < (rd_L1 l0_1 x33_2).length) = True := eq_true (by omega)
           (try rw [show ((1 : Int)).toNat = 1 from rfl] at hx156_0)
           have hn156_0 : ad154.block ≠ gb153 := Nat.ne_of_lt (Nat.lt_of_lt_of_le (by have := World.block_lt_of_cell? _ _ hx156_0; first | rwa [add_block] at this | exact this) GW153.out)
           replace hx156_0 := (HB.out.cell (World.block_lt_of_cell? w _ hx156_0)).trans hx156_0
           replace hx156_0 := (cell_far (p := ⟨gb153, 0, none⟩) (by first | (rw [add_block]; exact hn156_0) | (show (Addr.add _ _).block ≠ _; rw [add_block]; exact hn156_0) | exact hn156_0) (.slice (some ad154) (rd_L1 l0_1 x33_2).length c152_0)).trans hx156_0
           (try have hy156_0 := fun (n_ : Nat) => (show (((w19.drewN n_).setCell ⟨gb153, 0, none⟩ (.slice (some ad154) (rd_L1 l0_1 x33_2).length c152_0))).cell? _ = some _ from hx156_0))
           clear hn156_0; replace p156 := eq_true p156; replace q156 := eq_true q156
           have p157 : 0 ≤ (1 : Int) := (by omega)
           have q157 : 1 < ((rd_L1 l0_1 x33_2).length : Int) := da
           obtain ⟨ad157, e157, hx157_0⟩ := Kd.at_int HR152_0.out 1 p157 q157
           obtain rfl : ad154 = ad157 := (by injection e157)
           (try simp only [show (1 : Int).toNat = 1 from rfl, Nat.reduceMul, Nat.reduceEqDiff, Go.Addr.add, ↓reduceIte] at hx157_0)
           have qi157 : (1 < (rd_L1 l0_1 x33_2).length) = True := eq_true (by omega)
           (try rw [show ((1 : Int)).toNat = 1 from rfl] at hx157_0)
           have hn157_0 : ad154.block ≠ gb153 := Nat.ne_of_lt (Nat.lt_of_lt_of_le (by have := World.block_lt_of_cell? _ _ hx157_0; first | rwa [add_block] at this | exact this) GW153.out)
           replace hx157_0 := (HB.out.cell (World.block_lt_of_cell? w _ hx157_0)).trans hx157_0
           replace hx157_0 := (cell_far (p := ⟨gb153, 0, none⟩) (by first | (rw [add_block]; exact hn157_0) | (show (Addr.add _ _).block ≠ _; rw [add_block]; exact hn157_0) | exact hn157_0) (.slice (some ad154) (rd_L1 l0_1 x33_2).length c152_0)).trans hx157_0
           (try have hy157_0 := fun (n_ : Nat) => (show (((w19.drewN n_).setCell ⟨gb153, 0, none⟩ (.slice (some ad154) (rd_L1 l0_1 x33_2).length c152_0))).cell? _ = some _ from hx157_0))
           clear hn157_0; replace p157 := eq_true p157; replace q157 := eq_true q157; obtain ⟨hcz33_0, hcz33_1, hcz33_2, hfz33_0, hfz33_1, hfz33_2⟩ := box3 BK149; go_wp2
           repeat (go_quiet (fail); try go_wp2)
           go_meet
           case rel => exact ⟨_, (decide ((rd (rd_L1 l0_1 x33_2) 1) ≥ a0_0)), er, H', ⟨by have := HJ1.out; have := HK2.out; first | omega | exact Nat.le_refl _⟩, ⟨by (with_reducible repeat (first | refine blk_drewN ?_ _ | refine blk_drew ?_ | refine blk_alloc ?_ _)); refine blk_far ?_ NB149_153.out _; (with_reducible repeat (first | refine blk_drewN ?_ _ | refine blk_drew ?_ | refine blk_alloc ?_ _)); exact BK149.out⟩, ⟨by (with_reducible repeat (first | refine blk_drewN ?_ _ | refine blk_drew ?_ | refine blk_alloc ?_ _)); refine blk_put (cs := #[.slice none 0 0]) ?_ 0 _ rfl; (with_reducible repeat (first | refine blk_drewN ?_ _ | refine blk_drew ?_ | refine blk_alloc ?_ _)); exact BK153.out⟩, ⟨belowg2 HB GE149 GE153⟩⟩
        ·rw [if_neg c22] at H
         have c22b0 : (((rd_L1 l0_1 x33_2).length : Int) == 2) = false := beq_eq_false_iff_ne.mpr c22
         have c22b1 : (((rd_L1 l0_1 x33_2).length : Int) != 2) = true := bne_iff_ne.mpr c22
         (first | rw [c22b0] | (simp only [i64_w, i32_w]; rw [c22b0]) | skip)
         have H' := Aside0.mk H
         clear H; have hnb34 := NB153_149.out; have hnc34 := NB149_153.out; obtain ⟨hcz35_0, hfz35_0⟩ := box1 BK153; go_wp2
         repeat (go_quiet (fail); try go_wp2)
         go_meet
         case rel => exact ⟨_, (true), er, H', ⟨by have := HJ1.out; have := HK2.out; first | omega | exact Nat.le_refl _⟩, ⟨by (with_reducible repeat (first | refine blk_drewN ?_ _ | refine blk_drew ?_ | refine blk_alloc ?_ _)); refine blk_far ?_ NB149_153.out _; (with_reducible repeat (first | refine blk_drewN ?_ _ | refine blk_drew ?_ | refine blk_alloc ?_ _)); exact BK149.out⟩, ⟨by (with_reducible repeat (first | refine blk_drewN ?_ _ | refine blk_drew ?_ | refine blk_alloc ?_ _)); refine blk_put (cs := #[.slice none 0 0]) ?_ 0 _ rfl; (with_reducible repeat (first | refine blk_drewN ?_ _ | refine blk_drew ?_ | refine blk_alloc ?_ _)); exact BK153.out⟩, ⟨belowg2 HB GE149 GE153⟩⟩
       case rest =>
        clear HC18; (try clear c15b0); (try clear c16b0); (try clear c17b0); (try clear hcz21_0); (try clear hfz21_0); (try clear hx152_0); (try clear p152); (try clear q152)
        obtain ⟨kq, x63_17, rfl, HA, HJ17, BK149, BK153, HB⟩ := hcut
        cases kq with
        | zero => exact absurd HA.out (by simp [impl_GoodTable.j2])
        | succ kj17 =>
         have H := HA.out; clear HA
         simp only [impl_GoodTable.j2] at H
         by_cases c36 : x63_17 = true
         ·subst c36
          have H1 : (some false) = some r := by rw [if_pos rfl] at H; exact H
          clear H
          have H := H1
          clear H1
          obtain rfl := Option.some.inj H
          go_wp2
          repeat (go_quiet (fail); try go_wp2)
          go_ret
          exact ⟨er2, belowg2 HB GE149 GE153⟩
         ·replace c36 := Bool.eq_false_iff.mpr c36
          subst c36
          have H1 : (if 0 ≤ x33_2 then (if x33_2 ≤ (l0_1.length : Int) then ((slices_ContainsFunc_125_at_126_22.f kj17 (l0_1.take (x33_2 : Int).toNat) (rd_L1 l0_1 x33_2)).bind fun t162 => (if t162 = true then (some false) else (impl_GoodTable.l0 kj17 l0_1 (l0_1.length : Int) (wrap64 (x33_2 + 1)) a0_0 l0_1 l0_2))) else (none)) else (none)) = some r := by rw [if_neg (show ¬ (false = true) by decide)] at H; exact H
          clear H
          have H := H1
          clear H1; replace H := ifS H; obtain ⟨c37, H⟩ := H; have c37b0 := eq_true c37
          have c37b1 : decide (0 ≤ x33_2) = true := decide_eq_true c37
          clear c37; replace H := ifS H; obtain ⟨c38, H⟩ := H; have c38b0 := eq_true c38
          have c38b1 : decide (x33_2 ≤ (l0_1.length : Int)) = true := decide_eq_true c38
          clear c38
          obtain ⟨y158, hy_⟩ : ∃ y_ : List (List Int), y_ = (l0_1.take (x33_2 : Int).toNat) := ⟨_, rfl⟩
          replace H : ((slices_ContainsFunc_125_at_126_22.f kj17 y158 (rd_L1 l0_1 x33_2)).bind fun t162 => (if t162 = true then (some false) else (impl_GoodTable.l0 kj17 l0_1 (l0_1.length : Int) (wrap64 (x33_2 + 1)) a0_0 l0_1 l0_2))) = some r := yH
          have Ny158 := ak hy_; clear hy_; replace H := bS H; obtain ⟨t162, A39, H⟩ := H
          replace H : (if t162 = true then (some false) else (impl_GoodTable.l0 kj17 l0_1 (l0_1.length : Int) (wrap64 (x33_2 + 1)) a0_0 l0_1 l0_2)) = some r := H
          by_cases c40 : t162 = true
          ·subst c40
           have H1 : (some false) = some r := by rw [if_pos rfl] at H; exact H
           clear H
           have H := H1
           clear H1
           obtain rfl := Option.some.inj H
           have hnb41 := NB149_153.out; have hnc41 := NB153_149.out; obtain ⟨hcz42_0, hcz42_1, hcz42_2, hfz42_0, hfz42_1, hfz42_2⟩ := box3 BK149
           have q43 : (x33_2 : Int) ≤ ((l0_1.length : Int) : Int) := da
           obtain ⟨i043, hi043, _, hsz43, _⟩ := info_parts info22
           have hroom43 : l0_1.length ≤ c0_1 := HC0_1.out
           have hC43 : Kd.C (Kd.slice 3 (Kd.int .i64)) _ (some ad152) l0_1.length l0_1 := HR0_1.out
           have hcut43 := cut_to (P := Try.prog) 32 22 .i64 Try.underlying32 hi043 (some ad152) l0_1.length c0_1 x33_2 (da) q43 hroom43
           have hr43 := Kd.C_take (m := (x33_2 : Int).toNat) hC43 (by omega)
           have hy43 : y158.length = (x33_2 : Int).toNat := (by rw [Ny158.out, List.length_take]; omega)
           rw [← Ny158.out] at hr43
           rw [← hy43] at hcut43
           have HR161 := Aside0.mk hr43
           have HC161 := Aside0.mk (show y158.length ≤ c0_1 from by omega)
           clear hr43 hC43 hroom43 hi043 hsz43; have KY43 := Aside0.mk hy43; clear hy43; replace q43 := eq_true q43
           go_wp2_with (first | (go_at_call 125; (with_reducible refine (slices_ContainsFunc_125_at_126_22.calls kj17 _ _ y158 gb153 ?ca1_0 ?cc1_0 (rd_L1 l0_1 x33_2) true _ ?side1 ?side2 ?side3 ?side4 ?side5 A39.out).mono ?_); (case side5 => exact (by (with_reducible repeat (first | refine blk_drewN ?_ _ | refine blk_drew ?_ | refine blk_alloc ?_ _)); exact BK153.out)); (case side1 => repeat (first | exact (Kd.C_below HR161.out HB.out) | (with_reducible refine Kd.C_alloc ?_ _) | (with_reducible refine Kd.C_drewN ?_ _) | (with_reducible refine Kd.C_drew ?_))); (case side2 => exact HC161.out); (case side3 => repeat (first | exact (Kd.C_below HR152_0.out HB.out) | (with_reducible refine Kd.C_alloc ?_ _) | (with_reducible refine Kd.C_drewN ?_ _) | (with_reducible refine Kd.C_drew ?_))); (case side4 => exact HC152_0.out); rintro e w' ⟨rfl, ⟨nd, rfl⟩⟩; (try first | exact ⟨rfl, _, World.drewN_drewN _ _ _⟩ | exact ⟨rfl, _, Eq.trans (World.drewN_drewN _ _ _) (congrArg (World.drewN _) (Nat.add_assoc _ _ _))⟩)))
           repeat (go_quiet (first | (go_at_call 125; (with_reducible refine (slices_ContainsFunc_125_at_126_22.calls kj17 _ _ y158 gb153 ?ca1_0 ?cc1_0 (rd_L1 l0_1 x33_2) true _ ?side1 ?side2 ?side3 ?side4 ?side5 A39.out).mono ?_); (case side5 => exact (by (with_reducible repeat (first | refine blk_drewN ?_ _ | refine blk_drew ?_ | refine blk_alloc ?_ _)); exact BK153.out)); (case side1 => repeat (first | exact (Kd.C_below HR161.out HB.out) | (with_reducible refine Kd.C_alloc ?_ _) | (with_reducible refine Kd.C_drewN ?_ _) | (with_reducible refine Kd.C_drew ?_))); (case side2 => exact HC161.out); (case side3 => repeat (first | exact (Kd.C_below HR152_0.out HB.out) | (with_reducible refine Kd.C_alloc ?_ _) | (with_reducible refine Kd.C_drewN ?_ _) | (with_reducible refine Kd.C_drew ?_))); (case side4 => exact HC152_0.out); rintro e w' ⟨rfl, ⟨nd, rfl⟩⟩; (try first | exact ⟨rfl, _, World.drewN_drewN _ _ _⟩ | exact ⟨rfl, _, Eq.trans (World.drewN_drewN _ _ _) (congrArg (World.drewN _) (Nat.add_assoc _ _ _))⟩))); try go_wp2_with (first | (go_at_call 125; (with_reducible refine (slices_ContainsFunc_125_at_126_22.calls kj17 _ _ y158 gb153 ?ca1_0 ?cc1_0 (rd_L1 l0_1 x33_2) true _ ?side1 ?side2 ?side3 ?side4 ?side5 A39.out).mono ?_); (case side5 => exact (by (with_reducible repeat (first | refine blk_drewN ?_ _ | refine blk_drew ?_ | refine blk_alloc ?_ _)); exact BK153.out)); (case side1 => repeat (first | exact (Kd.C_below HR161.out HB.out) | (with_reducible refine Kd.C_alloc ?_ _) | (with_reducible refine Kd.C_drewN ?_ _) | (with_reducible refine Kd.C_drew ?_))); (case side2 => exact HC161.out); (case side3 => repeat (first | exact (Kd.C_below HR152_0.out HB.out) | (with_reducible refine Kd.C_alloc ?_ _) | (with_reducible refine Kd.C_drewN ?_ _) | (with_reducible refine Kd.C_drew ?_))); (case side4 => exact HC152_0.out); rintro e w' ⟨rfl, ⟨nd, rfl⟩⟩; (try first | exact ⟨rfl, _, World.drewN_drewN _ _ _⟩ | exact ⟨rfl, _, Eq.trans (World.drewN_drewN _ _ _) (congrArg (World.drewN _) (Nat.add_assoc _ _ _))⟩))))
           go_ret
           exact ⟨er2, belowg2 HB GE149 GE153⟩
          ·replace c40 := Bool.eq_false_iff.mpr c40
           subst c40
           have H1 : (impl_GoodTable.l0 kj17 l0_1 (l0_1.length : Int) (wrap64 (x33_2 + 1)) a0_0 l0_1 l0_2) = some r := by rw [if_neg (show ¬ (false = true) by decide)] at H; exact H
           clear H
           have H := H1
           clear H1
           have H' := Aside0.mk H
           clear H; have hnb44 := NB149_153.out; have hnc44 := NB153_149.out; obtain ⟨hcz45_0, hcz45_1, hcz45_2, hfz45_0, hfz45_1, hfz45_2⟩ := box3 BK149
           have q46 : (x33_2 : Int) ≤ ((l0_1.length : Int) : Int) := da
           obtain ⟨i046, hi046, _, hsz46, _⟩ := info_parts info22
           have hroom46 : l0_1.length ≤ c0_1 := HC0_1.out
           have hC46 : Kd.C (Kd.slice 3 (Kd.int .i64)) _ (some ad152) l0_1.length l0_1 := HR0_1.out
           have hcut46 := cut_to (P := Try.prog) 32 22 .i64 Try.underlying32 hi046 (some ad152) l0_1.length c0_1 x33_2 (da) q46 hroom46
           have hr46 := Kd.C_take (m := (x33_2 : Int).toNat) hC46 (by omega)
           have hy46 : y158.length = (x33_2 : Int).toNat := (by rw [Ny158.out, List.length_take]; omega)
           rw [← Ny158.out] at hr46
           rw [← hy46] at hcut46
           have HR161 := Aside0.mk hr46
           have HC161 := Aside0.mk (show y158.length ≤ c0_1 from by omega)
           clear hr46 hC46 hroom46 hi046 hsz46; have KY46 := Aside0.mk hy46; clear hy46; replace q46 := eq_true q46
           go_wp2_with (first | (go_at_call 125; (with_reducible refine (slices_ContainsFunc_125_at_126_22.calls kj17 _ _ y158 gb153 ?ca1_0 ?cc1_0 (rd_L1 l0_1 x33_2) false _ ?side1 ?side2 ?side3 ?side4 ?side5 A39.out).mono ?_); (case side5 => exact (by (with_reducible repeat (first | refine blk_drewN ?_ _ | refine blk_drew ?_ | refine blk_alloc ?_ _)); exact BK153.out)); (case side1 => repeat (first | exact (Kd.C_below HR161.out HB.out) | (with_reducible refine Kd.C_alloc ?_ _) | (with_reducible refine Kd.C_drewN ?_ _) | (with_reducible refine Kd.C_drew ?_))); (case side2 => exact HC161.out); (case side3 => repeat (first | exact (Kd.C_below HR152_0.out HB.out) | (with_reducible refine Kd.C_alloc ?_ _) | (with_reducible refine Kd.C_drewN ?_ _) | (with_reducible refine Kd.C_drew ?_))); (case side4 => exact HC152_0.out); rintro e w' ⟨rfl, ⟨nd, rfl⟩⟩; (try first | exact ⟨rfl, _, World.drewN_drewN _ _ _⟩ | exact ⟨rfl, _, Eq.trans (World.drewN_drewN _ _ _) (congrArg (World.drewN _) (Nat.add_assoc _ _ _))⟩)))
           repeat (go_quiet (first | (go_at_call 125; (with_reducible refine (slices_ContainsFunc_125_at_126_22.calls kj17 _ _ y158 gb153 ?ca1_0 ?cc1_0 (rd_L1 l0_1 x33_2) false _ ?side1 ?side2 ?side3 ?side4 ?side5 A39.out).mono ?_); (case side5 => exact (by (with_reducible repeat (first | refine blk_drewN ?_ _ | refine blk_drew ?_ | refine blk_alloc ?_ _)); exact BK153.out)); (case side1 => repeat (first | exact (Kd.C_below HR161.out HB.out) | (with_reducible refine Kd.C_alloc ?_ _) | (with_reducible refine Kd.C_drewN ?_ _) | (with_reducible refine Kd.C_drew ?_))); (case side2 => exact HC161.out); (case side3 => repeat (first | exact (Kd.C_below HR152_0.out HB.out) | (with_reducible refine Kd.C_alloc ?_ _) | (with_reducible refine Kd.C_drewN ?_ _) | (with_reducible refine Kd.C_drew ?_))); (case side4 => exact HC152_0.out); rintro e w' ⟨rfl, ⟨nd, rfl⟩⟩; (try first | exact ⟨rfl, _, World.drewN_drewN _ _ _⟩ | exact ⟨rfl, _, Eq.trans (World.drewN_drewN _ _ _) (congrArg (World.drewN _) (Nat.add_assoc _ _ _))⟩))); try go_wp2_with (first | (go_at_call 125; (with_reducible refine (slices_ContainsFunc_125_at_126_22.calls kj17 _ _ y158 gb153 ?ca1_0 ?cc1_0 (rd_L1 l0_1 x33_2) false _ ?side1 ?side2 ?side3 ?side4 ?side5 A39.out).mono ?_); (case side5 => exact (by (with_reducible repeat (first | refine blk_drewN ?_ _ | refine blk_drew ?_ | refine blk_alloc ?_ _)); exact BK153.out)); (case side1 => repeat (first | exact (Kd.C_below HR161.out HB.out) | (with_reducible refine Kd.C_alloc ?_ _) | (with_reducible refine Kd.C_drewN ?_ _) | (with_reducible refine Kd.C_drew ?_))); (case side2 => exact HC161.out); (case side3 => repeat (first | exact (Kd.C_below HR152_0.out HB.out) | (with_reducible refine Kd.C_alloc ?_ _) | (with_reducible refine Kd.C_drewN ?_ _) | (with_reducible refine Kd.C_drew ?_))); (case side4 => exact HC152_0.out); rintro e w' ⟨rfl, ⟨nd, rfl⟩⟩; (try first | exact ⟨rfl, _, World.drewN_drewN _ _ _⟩ | exact ⟨rfl, _, Eq.trans (World.drewN_drewN _ _ _) (congrArg (World.drewN _) (Nat.add_assoc _ _ _))⟩))))
           go_roundg kj17
           case measure => have := HJ1.out; have := HK2.out; have := HJ17.out; omega
           case rel => exact ⟨(wrap64 (x33_2 + 1)), er, H', ⟨by have := HJ1.out; have := HK2.out; have := HJ17.out; omega⟩, ⟨blkd BK149⟩, ⟨belowg2 HB GE149 GE153⟩⟩
      ·rw [if_neg c15] at H
       have c15b0 : decide (x33_2 < (l0_1.length : Int)) = false := decide_eq_false c15
       clear c15
       obtain rfl := Option.some.inj H
       go_wp2
       repeat (go_quiet (fail); try go_wp2)
       go_ret
       exact ⟨er2, belowg1 HB GE149⟩

/-! ### impl_isByte: function 120 -/
def impl_isByte.f (a0 : Int) : Option (Bool) := (impl_within.f a0 0 255).bind fun t163 => (some t163)
set_option maxHeartbeats 8000000 in
set_option maxRecDepth 100000 in
theorem impl_isByte.calls (a0 : Int) (r : Bool) (w : World) (h : impl_isByte.f a0 = some r) :
  Calls Try.prog 120 #[.int .i64 a0] w fun e w' => e = .returned (.bool r) ∧ Drawn0 w w' := by
 have H : ((impl_within.f a0 0 255).bind fun t163 => (some t163)) = some r := h
 clear h; replace H := bS H; obtain ⟨t163, A2, H⟩ := H
 replace H : (some t163) = some r := H
 obtain rfl := Option.some.inj H
 go_enter Try.func120, Try.ntmps120
 go_wp2_with (first | ((with_reducible refine gate_callee (f := 87) rfl ?_); refine goesLa (some 4) rfl Try.func87 #[.int .i64 a0, .int .i64 0, .int .i64 255] rfl ?_; (with_reducible refine (impl_within.calls a0 0 255 t163 _ A2.out).mono ?_); rintro e w' ⟨rfl, ⟨nd, rfl⟩⟩; refine ⟨_, rfl, ?_⟩))
 go_ret
 exact ⟨er, drw⟩

/-! ### impl_Table_isWord: function 98 -/
def impl_Table_isWord.f (a0_0 : Int) (l0_1 : List (List Int)) (l0_2 : List Int) (a1 : Int) (a2 : Int) : Option (Bool) := (impl_within.f a1 (-1) (wrap64 (a0_0 - 1))).bind fun t165 => (if t165 = true then ((impl_isByte.f a2).bind fun t166 => (some t166)) else (some false))
set_option maxHeartbeats 8000000 in
set_option maxRecDepth 100000 in
theorem impl_Table_isWord.calls (a0_0 : Int) (A0_1 : Option Addr) (c0_1 : Nat) (l0_1 : List (List Int)) (A0_2 : Option Addr) (c0_2 : Nat) (l0_2 : List Int) (a1 : Int) (a2 : Int) (r : Bool) (w : World) (hr0_1 : Kd.C (Kd.slice 3 (Kd.int .i64)) w A0_1 l0_1.length l0_1) (hc0_1 : l0_1.length ≤ c0_1) (hr0_2 : Kd.C (Kd.int .i64) w A0_2 l0_2.length l0_2) (hc0_2 : l0_2.length ≤ c0_2) (h : impl_Table_isWord.f a0_0 l0_1 l0_2 a1 a2 = some r) :
  Calls Try.prog 98 #[.agg #[.int .i64 a0_0, .slice A0_1 l0_1.length c0_1, .slice A0_2 l0_2.length c0_2], .int .i64 a1, .int .i64 a2] w fun e w' => e = .returned (.bool r) ∧ Below w.heap.size w w' := by
 have hu38 := Try.underlying38
 have HR0_1 := Aside0.mk hr0_1; have HC0_1 := Aside0.mk hc0_1; clear hr0_1 hc0_1; have HR0_2 := Aside0.mk hr0_2; have HC0_2 := Aside0.mk hc0_2; clear hr0_2 hc0_2
 have HB := Aside0.mk (Below.refl w.heap.size w)
 have H : ((impl_within.f a1 (-1) (wrap64 (a0_0 - 1))).bind fun t165 => (if t165 = true then ((impl_isByte.f a2).bind fun t166 => (some t166)) else (some false))) = some r := h
 clear h; replace H := bS H; obtain ⟨t165, A4, H⟩ := H
 replace H : (if t165 = true then ((impl_isByte.f a2).bind fun t166 => (some t166)) else (some false)) = some r := H
 by_cases c5 : t165 = true
 ·subst c5
  have H1 : ((impl_isByte.f a2).bind fun t166 => (some t166)) = some r := by rw [if_pos rfl] at H; exact H
  clear H
  have H := H1
  clear H1; replace H := bS H; obtain ⟨t166, A6, H⟩ := H
  replace H : (some t166) = some r := H
  obtain rfl := Option.some.inj H
  go_enter Try.func98, Try.ntmps98
  go_wp2_with (first | ((with_reducible refine gate_dst (N := 3) rfl ?_); refine boxev 3 #[.int .i64 a0_0, .slice A0_1 l0_1.length c0_1, .slice A0_2 l0_2.length c0_2] 38 ?_; intro gb164 hg w7 hbox hb; have BK164 := ak (hbox); have GW164 := ak (hgl hg (belowd HB)); have GE164 := ak (hgl hg (belowd HB)); replace HB := ak (below_step (belowd HB) hb); clear hb hbox hg; obtain ⟨hcz8_0, hcz8_1, hcz8_2, hfz8_0, hfz8_1, hfz8_2⟩ := box3 BK164) | ((with_reducible refine gate_callee (f := 87) rfl ?_); refine goesLa (some 11) rfl Try.func87 #[.int .i64 a1, .int .i64 (-1), .int .i64 (wrap64 (a0_0 - 1))] rfl ?_; (with_reducible refine (impl_within.calls a1 (-1) (wrap64 (a0_0 - 1)) true _ A4.out).mono ?_); rintro e w' ⟨rfl, ⟨nd, rfl⟩⟩; refine ⟨_, rfl, ?_⟩) | (go_at_call 120; (with_reducible refine (impl_isByte.calls a2 t166 _ A6.out).mono ?_); rintro e w' ⟨rfl, ⟨nd, rfl⟩⟩))
  go_ret
  exact ⟨er2, belowg1 HB GE164⟩
 ·replace c5 := Bool.eq_false_iff.mpr c5
  subst c5
  have H1 : (some false) = some r := by rw [if_neg (show ¬ (false = true) by decide)] at H; exact H
  clear H
  have H := H1
  clear H1
  obtain rfl := Option.some.inj H
  go_enter Try.func98, Try.ntmps98
  go_wp2_with (first | ((with_reducible refine gate_dst (N := 3) rfl ?_); refine boxev 3 #[.int .i64 a0_0, .slice A0_1 l0_1.length c0_1, .slice A0_2 l0_2.length c0_2] 38 ?_; intro gb164 hg w9 hbox hb; have BK164 := ak (hbox); have GW164 := ak (hgl hg (belowd HB)); have GE164 := ak (hgl hg (belowd HB)); replace HB := ak (below_step (belowd HB) hb); clear hb hbox hg; obtain ⟨hcz10_0, hcz10_1, hcz10_2, hfz10_0, hfz10_1, hfz10_2⟩ := box3 BK164) | ((with_reducible refine gate_callee (f := 87) rfl ?_); refine goesLa (some 11) rfl Try.func87 #[.int .i64 a1, .int .i64 (-1), .int .i64 (wrap64 (a0_0 - 1))] rfl ?_; (with_reducible refine (impl_within.calls a1 (-1) (wrap64 (a0_0 - 1)) false _ A4.out).mono ?_); rintro e w' ⟨rfl, ⟨nd, rfl⟩⟩; refine ⟨_, rfl, ?_⟩))
  go_ret
  exact ⟨er2, belowg1 HB GE164⟩

/-! ### slices_Index_int_int: function 156 -/
def slices_Index_int_int.l0 : Nat → List Int → Int → Int → Int → Option (Int)
  | 0, _, _, _, _ => none
  | k + 1, x0, x1, x7, x8 => if x8 < x7 then (if 0 ≤ x8 then (if x8 < (x0.length : Int) then (if x1 = (rd x0 x8) then (some x8) else (slices_Index_int_int.l0 k x0 x1 x7 (wrap64 (x8 + 1)))) else (none)) else (none)) else (some (-1))
def slices_Index_int_int.f (k : Nat) (l0 : List Int) (a1 : Int) : Option (Int) := slices_Index_int_int.l0 k l0 a1 (l0.length : Int) 0
theorem slices_Index_int_int.mono_l : ∀ k, (∀ y0 y1 y2 y3, LeO (slices_Index_int_int.l0 k y0 y1 y2 y3) (slices_Index_int_int.l0 (k + 1) y0 y1 y2 y3))
 | 0 => fun _ _ _ _ r h => by simp [slices_Index_int_int.l0] at h
 | k + 1 => by
  have ih0 := slices_Index_int_int.mono_l k
  ·intro y0 y1 y2 y3
   unfold slices_Index_int_int.l0
   repeat' (first | (with_reducible first | exact ih0 _ _ _ _ | exact LeO.refl _ | exact LeO.none _ | refine LeO.ite ?_ ?_ | refine LeO.bind ?_ (fun _ => ?_)) | exact ih0 _ _ _ _ | exact LeO.none _ | refine LeO.ite ?_ ?_ | refine LeO.bind ?_ (fun _ => ?_))
theorem slices_Index_int_int.mono : ∀ a0 a1 k, LeO (slices_Index_int_int.f k a0 a1) (slices_Index_int_int.f (k + 1) a0 a1) := by
 intro a0 a1 k
 have ih0 := slices_Index_int_int.mono_l k
 unfold slices_Index_int_int.f
 repeat' (first | (with_reducible first | exact ih0 _ _ _ _ | exact LeO.refl _ | exact LeO.none _ | refine LeO.ite ?_ ?_ | refine LeO.bind ?_ (fun _ => ?_)) | exact ih0 _ _ _ _ | exact LeO.none _ | refine LeO.ite ?_ ?_ | refine LeO.bind ?_ (fun _ => ?_))
set_option maxHeartbeats 8000000 in
set_option maxRecDepth 100000 in
theorem slices_Index_int_int.calls (k : Nat) (A0 : Option Addr) (c0 : Nat) (l0 : List Int) (a1 : Int) (r : Int) (w : World) (hr0 : Kd.C (Kd.int .i64) w A0 l0.length l0) (hc0 : l0.length ≤ c0) (h : slices_Index_int_int.f k l0 a1 = some r) :
  Calls Try.prog 156 #[.slice A0 l0.length c0, .int .i64 a1] w fun e w' => e = .returned (.int .i64 r) ∧ Drawn0 w w' := by
 have HR0 := Aside0.mk hr0; have HC0 := Aside0.mk hc0; clear hr0 hc0
 have H : (slices_Index_int_int.l0 k l0 a1 (l0.length : Int) 0) = some r := h
 clear h
 have H' := Aside0.mk H
 clear H
 go_enter Try.func156, Try.ntmps156
 go_wp2
 go_loopg [8] k (fun kq v8 w' => ∃ (x8_1 : Int), v8 = .int .i64 x8_1 ∧ Aside0 (slices_Index_int_int.l0 kq l0 a1 (l0.length : Int) x8_1 = some r) ∧ Aside0 (kq ≤ k) ∧ Drawn0 w w')
 case atStart => exact ⟨(0), er, H', ⟨Nat.le_refl _⟩, drw⟩
 case round =>
  clear H'
  obtain ⟨x8_1, rfl, HA, HK1, ⟨m1, rfl⟩⟩ := hrel
  cases gk with
  | zero => exact absurd HA.out (by simp [slices_Index_int_int.l0])
  | succ k1 =>
   have H := HA.out; clear HA
   simp only [slices_Index_int_int.l0] at H
   by_cases c3 : x8_1 < (l0.length : Int)
   ·rw [if_pos c3] at H
    have c3b0 : decide (x8_1 < (l0.length : Int)) = true := decide_eq_true c3
    clear c3; replace H := ifS H; obtain ⟨c4, H⟩ := H; have c4b0 := decide_eq_true c4; clear c4; replace H := ifS H; obtain ⟨c5, H⟩ := H; have c5b0 := decide_eq_true c5; clear c5
    by_cases c6 : a1 = (rd l0 x8_1)
    ·rw [if_pos c6] at H
     have c6b0 : (a1 == (rd l0 x8_1)) = true := beq_iff_eq.mpr c6
     have c6b1 : (a1 != (rd l0 x8_1)) = false := bne_eq_false_iff_eq.mpr c6
     clear c6
     obtain rfl := Option.some.inj H
     have p167 : 0 ≤ (x8_1 : Int) := da
     have q167 : x8_1 < (l0.length : Int) := da
     obtain ⟨ad167, e167, hx167_0⟩ := Kd.at_int HR0.out x8_1 p167 q167
     cases e167
     replace p167 := eq_true p167; replace q167 := eq_true q167; go_wp2
     go_ret
     exact ⟨er, drw⟩
    ·rw [if_neg c6] at H
     have c6b0 : (a1 == (rd l0 x8_1)) = false := beq_eq_false_iff_ne.mpr c6
     have c6b1 : (a1 != (rd l0 x8_1)) = true := bne_iff_ne.mpr c6
     have H' := Aside0.mk H
     clear H
     have p167 : 0 ≤ (x8_1 : Int) := da
     have q167 : x8_1 < (l0.length : Int) := da
     obtain ⟨ad167, e167, hx167_0⟩ := Kd.at_int HR0.out x8_1 p167 q167
     cases e167
     replace p167 := eq_true p167; replace q167 := eq_true q167; go_wp2
     go_roundg k1
     case measure => have := HK1.out; omega
     case rel => exact ⟨(wrap64 (x8_1 + 1)), er, H', ⟨by have := HK1.out; omega⟩, drw⟩
   ·rw [if_neg c3] at H
    have c3b0 : decide (x8_1 < (l0.length : Int)) = false := decide_eq_false c3
    clear c3
    obtain rfl := Option.some.inj H
    go_wp2
    go_ret
    exact ⟨er, drw⟩

/-! ### slices_Contains_int_int: function 148 -/
def slices_Contains_int_int.f (k : Nat) (l0 : List Int) (a1 : Int) : Option (Bool) := (slices_Index_int_int.f k l0 a1).bind fun t168 => (some (decide (t168 ≥ 0)))
theorem slices_Contains_int_int.mono : ∀ a0 a1 k, LeO (slices_Contains_int_int.f k a0 a1) (slices_Contains_int_int.f (k + 1) a0 a1) := by
 intro a0 a1 k
 unfold slices_Contains_int_int.f
 repeat' (first | (with_reducible first | exact slices_Index_int_int.mono _ _ _ | exact LeO.refl _ | exact LeO.none _ | refine LeO.ite ?_ ?_ | refine LeO.bind ?_ (fun _ => ?_)) | exact slices_Index_int_int.mono _ _ _ | exact LeO.none _ | refine LeO.ite ?_ ?_ | refine LeO.bind ?_ (fun _ => ?_))
set_option maxHeartbeats 8000000 in
set_option maxRecDepth 100000 in
theorem slices_Contains_int_int.calls (k : Nat) (A0 : Option Addr) (c0 : Nat) (l0 : List Int) (a1 : Int) (r : Bool) (w : World) (hr0 : Kd.C (Kd.int .i64) w A0 l0.length l0) (hc0 : l0.length ≤ c0) (h : slices_Contains_int_int.f k l0 a1 = some r) :
  Calls Try.prog 148 #[.slice A0 l0.length c0, .int .i64 a1] w fun e w' => e = .returned (.bool r) ∧ Drawn0 w w' := by
 have HR0 := Aside0.mk hr0; have HC0 := Aside0.mk hc0; clear hr0 hc0
 have H : ((slices_Index_int_int.f k l0 a1).bind fun t168 => (some (decide (t168 ≥ 0)))) = some r := h
 clear h; replace H := bS H; obtain ⟨t168, A3, H⟩ := H
 replace H : (some (decide (t168 ≥ 0))) = some r := H
 obtain rfl := Option.some.inj H
 go_enter Try.func148, Try.ntmps148
 go_wp2_with (first | ((with_reducible refine gate_callee (f := 156) rfl ?_); refine goesLa (some 7) rfl Try.func156 #[.slice A0 l0.length c0, .int .i64 a1] rfl ?_; (with_reducible refine (slices_Index_int_int.calls k _ _ l0 a1 t168 _ ?side1 ?side2 A3.out).mono ?_); (case side1 => exact cd HR0.out); (case side2 => exact HC0.out); rintro e w' ⟨rfl, ⟨nd, rfl⟩⟩; refine ⟨_, rfl, ?_⟩))
 go_ret
 exact ⟨er, drw⟩

/-! ### impl_Table_coins: function 129 -/
def impl_Table_coins.l0 : Nat → Int → Int → List (List Int) → Int → Int → Int → List (List Int) → List Int → Option (Int)
  | 0, _, _, _, _, _, _, _, _ => none
  | k + 1, x1, x5, x9, x10, x11, x170000, x170001, x170002 => if x11 < x10 then (if 0 ≤ x11 then (if x11 < (x9.length : Int) then ((slices_Contains_int_int.f k (rd_L1 x9 x11) x1).bind fun t171 => (if t171 = true then (if x11 < (x170002.length : Int) then (impl_Table_coins.l0 k x1 (Go.bits .xor .i64 x5 (rd x170002 x11)) x9 x10 (wrap64 (x11 + 1)) x170000 x170001 x170002) else (none)) else (impl_Table_coins.l0 k x1 x5 x9 x10 (wrap64 (x11 + 1)) x170000 x170001 x170002))) else (none)) else (none)) else (some x5)
def impl_Table_coins.f (k : Nat) (a0_0 : Int) (l0_1 : List (List Int)) (l0_2 : List Int) (a1 : Int) : Option (Int) := impl_Table_coins.l0 k a1 0 l0_1 (l0_1.length : Int) 0 a0_0 l0_1 l0_2
theorem impl_Table_coins.mono_l : ∀ k, (∀ y0 y1 y2 y3 y4 y5 y6 y7, LeO (impl_Table_coins.l0 k y0 y1 y2 y3 y4 y5 y6 y7) (impl_Table_coins.l0 (k + 1) y0 y1 y2 y3 y4 y5 y6 y7))
 | 0 => fun _ _ _ _ _ _ _ _ r h => by simp [impl_Table_coins.l0] at h
 | k + 1 => by
  have ih0 := impl_Table_coins.mono_l k
  ·intro y0 y1 y2 y3 y4 y5 y6 y7
   unfold impl_Table_coins.l0
   repeat' (first | (with_reducible first | exact ih0 _ _ _ _ _ _ _ _ | exact slices_Contains_int_int.mono _ _ _ | exact LeO.refl _ | exact LeO.none _ | refine LeO.ite ?_ ?_ | refine LeO.bind ?_ (fun _ => ?_)) | exact ih0 _ _ _ _ _ _ _ _ | exact slices_Contains_int_int.mono _ _ _ | exact LeO.none _ | refine LeO.ite ?_ ?_ | refine LeO.bind ?_ (fun _ => ?_))
theorem impl_Table_coins.mono : ∀ a0 a1 a2 a3 k, LeO (impl_Table_coins.f k a0 a1 a2 a3) (impl_Table_coins.f (k + 1) a0 a1 a2 a3) := by
 intro a0 a1 a2 a3 k
 have ih0 := impl_Table_coins.mono_l k
 unfold impl_Table_coins.f
 repeat' (first | (with_reducible first | exact ih0 _ _ _ _ _ _ _ _ | exact slices_Contains_int_int.mono _ _ _ | exact LeO.refl _ | exact LeO.none _ | refine LeO.ite ?_ ?_ | refine LeO.bind ?_ (fun _ => ?_)) | exact ih0 _ _ _ _ _ _ _ _ | exact slices_Contains_int_int.mono _ _ _ | exact LeO.none _ | refine LeO.ite ?_ ?_ | refine LeO.bind ?_ (fun _ => ?_))
set_option maxHeartbeats 8000000 in
set_option maxRecDepth 100000 in
theorem impl_Table_coins.calls (k : Nat) (a0_0 : Int) (A0_1 : Option Addr) (c0_1 : Nat) (l0_1 : List (List Int)) (A0_2 : Option Addr) (c0_2 : Nat) (l0_2 : List Int) (a1 : Int) (r : Int) (w : World) (hr0_1 : Kd.C (Kd.slice 3 (Kd.int .i64)) w A0_1 l0_1.length l0_1) (hc0_1 : l0_1.length ≤ c0_1) (hr0_2 : Kd.C (Kd.int .i64) w A0_2 l0_2.length l0_2) (hc0_2 : l0_2.length ≤ c0_2) (h : impl_Table_coins.f k a0_0 l0_1 l0_2 a1 = some r) :
  Calls Try.prog 129 #[.agg #[.int .i64 a0_0, .slice A0_1 l0_1.length c0_1, .slice A0_2 l0_2.length c0_2], .int .i64 a1] w fun e w' => e = .returned (.int .i64 r) ∧ Below w.heap.size w w' := by
 have hu38 := Try.underlying38
 have HR0_1 := Aside0.mk hr0_1; have HC0_1 := Aside0.mk hc0_1; clear hr0_1 hc0_1; have HR0_2 := Aside0.mk hr0_2; have HC0_2 := Aside0.mk hc0_2; clear hr0_2 hc0_2
 have HB := Aside0.mk (Below.refl w.heap.size w)
 have H : (impl_Table_coins.l0 k a1 0 l0_1 (l0_1.length : Int) 0 a0_0 l0_1 l0_2) = some r := h
 clear h
 have H' := Aside0.mk H
 clear H
 go_enter Try.func129, Try.ntmps129
 go_wp2_with (first | ((with_reducible refine gate_dst (N := 2) rfl ?_); refine boxev 2 #[.int .i64 a0_0, .slice A0_1 l0_1.length c0_1, .slice A0_2 l0_2.length c0_2] 38 ?_; intro gb169 hg w3 hbox hb; have BK169 := ak (hbox); have GW169 := ak (hgl hg (belowd HB)); have GE169 := ak (hgl hg (belowd HB)); replace HB := ak (below_step (belowd HB) hb); clear hb hbox hg; obtain ⟨hcz4_0, hcz4_1, hcz4_2, hfz4_0, hfz4_1, hfz4_2⟩ := box3 BK169))
 go_loopg [5, 11] k (fun kq v5 v11 w' => ∃ (x5_1 : Int) (x11_1 : Int), v5 = .int .i64 x5_1 ∧ v11 = .int .i64 x11_1 ∧ Aside0 (impl_Table_coins.l0 kq a1 x5_1 l0_1 (l0_1.length : Int) x11_1 a0_0 l0_1 l0_2 = some r) ∧ Aside0 (kq ≤ k) ∧ Aside0 (w'.heap[gb169]? = some (.cells #[.int .i64 a0_0, (.slice A0_1 l0_1.length c0_1), (.slice A0_2 l0_2.length c0_2)] 38 (0, 0))) ∧ Aside0 (Below w.heap.size w w'))
 case atStart => exact ⟨(0), (0), er, er, H', ⟨Nat.le_refl _⟩, ⟨blkd BK169⟩, ⟨belowg1 HB GE169⟩⟩
 case round =>
  clear H'
  (try clear hcz4_0); (try clear hcz4_1); (try clear hcz4_2); (try clear hfz4_0); (try clear hfz4_1); (try clear hfz4_2)
  obtain ⟨x5_1, x11_1, rfl, rfl, HA, HK1, BK169, HB⟩ := hrel
  cases gk with
  | zero => exact absurd HA.out (by simp [impl_Table_coins.l0])
  | succ k1 =>
   have H := HA.out; clear HA
   simp only [impl_Table_coins.l0] at H
   by_cases c5 : x11_1 < (l0_1.length : Int)
   ·rw [if_pos c5] at H
    have c5b0 : decide (x11_1 < (l0_1.length : Int)) = true := decide_eq_true c5
    clear c5; replace H := ifS H; obtain ⟨c6, H⟩ := H; have c6b0 := decide_eq_true c6; clear c6; replace H := ifS H; obtain ⟨c7, H⟩ := H; have c7b0 := decide_eq_true c7; clear c7; replace H := bS H; obtain ⟨t171, A8, H⟩ := H
    replace H : (if t171 = true then (if x11_1 < (l0_2.length : Int) then (impl_Table_coins.l0 k1 a1 (Go.bits .xor .i64 x5_1 (rd l0_2 x11_1)) l0_1 (l0_1.length : Int) (wrap64 (x11_1 + 1)) a0_0 l0_1 l0_2) else (none)) else (impl_Table_coins.l0 k1 a1 x5_1 l0_1 (l0_1.length : Int) (wrap64 (x11_1 + 1)) a0_0 l0_1 l0_2)) = some r := H
    by_cases c9 : t171 = true
    ·subst c9
     have H1 : (if x11_1 < (l0_2.length : Int) then (impl_Table_coins.l0 k1 a1 (Go.bits .xor .i64 x5_1 (rd l0_2 x11_1)) l0_1 (l0_1.length : Int) (wrap64 (x11_1 + 1)) a0_0 l0_1 l0_2) else (none)) = some r := by rw [if_pos rfl] at H; exact H
     clear H
     have H := H1
     clear H1; replace H := ifS H; obtain ⟨c10, H⟩ := H; have c10b0 := decide_eq_true c10; clear c10
     have H' := Aside0.mk H
     clear H
     have p170 : 0 ≤ (x11_1 : Int) := da
     have q170 : x11_1 < (l0_1.length : Int) := da
     obtain ⟨ad170, A170_0, c170_0, e170, hx170_0, hl170_0, hi170_0⟩ := at_L1 HR0_1.out x11_1 p170 q170
     cases e170
     replace hx170_0 := (HB.out.cell (World.block_lt_of_cell? w _ hx170_0)).trans hx170_0
     have HR170_0 := Aside0.mk hi170_0; have HC170_0 := Aside0.mk hl170_0; clear hi170_0 hl170_0; replace p170 := eq_true p170; replace q170 := eq_true q170
     go_wp2_with (first | ((with_reducible refine gate_callee (f := 148) rfl ?_); refine goesLa (some 18) rfl Try.func148 #[.slice A170_0 (rd_L1 l0_1 x11_1).length c170_0, .int .i64 a1] rfl ?_; (with_reducible refine (slices_Contains_int_int.calls k1 _ _ (rd_L1 l0_1 x11_1) a1 true _ ?side1 ?side2 A8.out).mono ?_); (case side1 => exact cd (Kd.C_below HR170_0.out HB.out)); (case side2 => exact HC170_0.out); rintro e w' ⟨rfl, ⟨nd, rfl⟩⟩; refine ⟨_, rfl, ?_⟩; obtain ⟨hcz11_0, hcz11_1, hcz11_2, hfz11_0, hfz11_1, hfz11_2⟩ := box3 BK169; have p172 : 0 ≤ (x11_1 : Int) := da; have q172 : x11_1 < (l0_2.length : Int) := da; obtain ⟨ad172, e172, hx172_0⟩ := Kd.at_int HR0_2.out x11_1 p172 q172; cases e172; replace hx172_0 := (HB.out.cell (World.block_lt_of_cell? w _ hx172_0)).trans hx172_0; replace p172 := eq_true p172; replace q172 := eq_true q172))
     go_roundg k1
     case measure => have := HK1.out; omega
     case rel => exact ⟨(Go.bits .xor .i64 x5_1 (rd l0_2 x11_1)), (wrap64 (x11_1 + 1)), er, er, H', ⟨by have := HK1.out; omega⟩, ⟨blkd BK169⟩, ⟨belowg1 HB GE169⟩⟩
    ·replace c9 := Bool.eq_false_iff.mpr c9
     subst c9
     have H1 : (impl_Table_coins.l0 k1 a1 x5_1 l0_1 (l0_1.length : Int) (wrap64 (x11_1 + 1)) a0_0 l0_1 l0_2) = some r := by rw [if_neg (show ¬ (false = true) by decide)] at H; exact H
     clear H
     have H := H1
     clear H1
     have H' := Aside0.mk H
     clear H
     have p170 : 0 ≤ (x11_1 : Int) := da
     have q170 : x11_1 < (l0_1.length : Int) := da
     obtain ⟨ad170, A170_0, c170_0, e170, hx170_0, hl170_0, hi170_0⟩ := at_L1 HR0_1.out x11_1 p170 q170
     cases e170
     replace hx170_0 := (HB.out.cell (World.block_lt_of_cell? w _ hx170_0)).trans hx170_0
     have HR170_0 := Aside0.mk hi170_0; have HC170_0 := Aside0.mk hl170_0; clear hi170_0 hl170_0; replace p170 := eq_true p170; replace q170 := eq_true q170
     go_wp2_with (first | ((with_reducible refine gate_callee (f := 148) rfl ?_); refine goesLa (some 18) rfl Try.func148 #[.slice A170_0 (rd_L1 l0_1 x11_1).length c170_0, .int .i64 a1] rfl ?_; (with_reducible refine (slices_Contains_int_int.calls k1 _ _ (rd_L1 l0_1 x11_1) a1 false _ ?side1 ?side2 A8.out).mono ?_); (case side1 => exact cd (Kd.C_below HR170_0.out HB.out)); (case side2 => exact HC170_0.out); rintro e w' ⟨rfl, ⟨nd, rfl⟩⟩; refine ⟨_, rfl, ?_⟩))
     go_roundg k1
     case measure => have := HK1.out; omega
     case rel => exact ⟨(x5_1), (wrap64 (x11_1 + 1)), er, er, H', ⟨by have := HK1.out; omega⟩, ⟨blkd BK169⟩, ⟨belowg1 HB GE169⟩⟩
   ·rw [if_neg c5] at H
    have c5b0 : decide (x11_1 < (l0_1.length : Int)) = false := decide_eq_false c5
    clear c5
    obtain rfl := Option.some.inj H
    go_wp2
    go_ret
    exact ⟨er2, belowg1 HB GE169⟩

/-! ### impl_Table_say: function 99 -/
def impl_Table_say.f (k : Nat) (a0_0 : Int) (l0_1 : List (List Int)) (l0_2 : List Int) (a1 : Int) (a2 : Int) (a3 : Int) : Option (Int) := if a1 = a2 then ((impl_Table_coins.f k a0_0 l0_1 l0_2 a1).bind fun t174 => (some (Go.bits .xor .i64 t174 a3))) else ((impl_Table_coins.f k a0_0 l0_1 l0_2 a1).bind fun t175 => (some t175))
theorem impl_Table_say.mono : ∀ a0 a1 a2 a3 a4 a5 k, LeO (impl_Table_say.f k a0 a1 a2 a3 a4 a5) (impl_Table_say.f (k + 1) a0 a1 a2 a3 a4 a5) := by
 intro a0 a1 a2 a3 a4 a5 k
 unfold impl_Table_say.f
 repeat' (first | (with_reducible first | exact impl_Table_coins.mono _ _ _ _ _ | exact LeO.refl _ | exact LeO.none _ | refine LeO.ite ?_ ?_ | refine LeO.bind ?_ (fun _ => ?_)) | exact impl_Table_coins.mono _ _ _ _ _ | exact LeO.none _ | refine LeO.ite ?_ ?_ | refine LeO.bind ?_ (fun _ => ?_))
set_option maxHeartbeats 8000000 in
set_option maxRecDepth 100000 in
theorem impl_Table_say.calls (k : Nat) (a0_0 : Int) (A0_1 : Option Addr) (c0_1 : Nat) (l0_1 : List (List Int)) (A0_2 : Option Addr) (c0_2 : Nat) (l0_2 : List Int) (a1 : Int) (a2 : Int) (a3 : Int) (r : Int) (w : World) (hr0_1 : Kd.C (Kd.slice 3 (Kd.int .i64)) w A0_1 l0_1.length l0_1) (hc0_1 : l0_1.length ≤ c0_1) (hr0_2 : Kd.C (Kd.int .i64) w A0_2 l0_2.length l0_2) (hc0_2 : l0_2.length ≤ c0_2) (h : impl_Table_say.f k a0_0 l0_1 l0_2 a1 a2 a3 = some r) :
  Calls Try.prog 99 #[.agg #[.int .i64 a0_0, .slice A0_1 l0_1.length c0_1, .slice A0_2 l0_2.length c0_2], .int .i64 a1, .int .i64 a2, .int .i64 a3] w fun e w' => e = .returned (.int .i64 r) ∧ Below w.heap.size w w' := by
 have hu38 := Try.underlying38
 have HR0_1 := Aside0.mk hr0_1; have HC0_1 := Aside0.mk hc0_1; clear hr0_1 hc0_1; have HR0_2 := Aside0.mk hr0_2; have HC0_2 := Aside0.mk hc0_2; clear hr0_2 hc0_2
 have HB := Aside0.mk (Below.refl w.heap.size w)
 have H : (if a1 = a2 then ((impl_Table_coins.f k a0_0 l0_1 l0_2 a1).bind fun t174 => (some (Go.bits .xor .i64 t174 a3))) else ((impl_Table_coins.f k a0_0 l0_1 l0_2 a1).bind fun t175 => (some t175))) = some r := h
 clear h
 by_cases c5 : a1 = a2
 ·rw [if_pos c5] at H
  have c5b0 : (a1 == a2) = true := beq_iff_eq.mpr c5
  have c5b1 : (a1 != a2) = false := bne_eq_false_iff_eq.mpr c5
  clear c5; replace H := bS H; obtain ⟨t174, A6, H⟩ := H
  replace H : (some (Go.bits .xor .i64 t174 a3)) = some r := H
  obtain rfl := Option.some.inj H
  go_enter Try.func99, Try.ntmps99
  go_wp2_with (first | ((with_reducible refine gate_dst (N := 4) rfl ?_); refine boxev 4 #[.int .i64 a0_0, .slice A0_1 l0_1.length c0_1, .slice A0_2 l0_2.length c0_2] 38 ?_; intro gb173 hg w7 hbox hb; have BK173 := ak (hbox); have GW173 := ak (hgl hg (belowd HB)); have GE173 := ak (hgl hg (belowd HB)); replace HB := ak (below_step (belowd HB) hb); clear hb hbox hg; obtain ⟨hcz8_0, hcz8_1, hcz8_2, hfz8_0, hfz8_1, hfz8_2⟩ := box3 BK173) | ((with_reducible refine gate_callee (f := 129) rfl ?_); refine goesLa (some 14) rfl Try.func129 #[.agg #[.int .i64 a0_0, .slice A0_1 l0_1.length c0_1, .slice A0_2 l0_2.length c0_2], .int .i64 a1] rfl ?_; (with_reducible refine (impl_Table_coins.calls k a0_0 _ _ l0_1 _ _ l0_2 a1 t174 _ ?side1 ?side2 ?side3 ?side4 A6.out).mono ?_); (case side1 => exact cd (Kd.C_below HR0_1.out HB.out)); (case side2 => exact HC0_1.out); (case side3 => exact cd (Kd.C_below HR0_2.out HB.out)); (case side4 => exact HC0_2.out); rintro e w9 ⟨rfl, hb⟩; refine ⟨_, rfl, ?_⟩; replace BK173 := ak (blk_below (blkd BK173) hb); replace HB := ak (below_step (belowg1 HB GE173) hb); (try clear hb)))
  go_ret
  exact ⟨er2, belowg1 HB GE173⟩
 ·rw [if_neg c5] at H
  have c5b0 : (a1 == a2) = false := beq_eq_false_iff_ne.mpr c5
  have c5b1 : (a1 != a2) = true := bne_iff_ne.mpr c5
  replace H := bS H; obtain ⟨t175, A10, H⟩ := H
  replace H : (some t175) = some r := H
  obtain rfl := Option.some.inj H
  go_enter Try.func99, Try.ntmps99
  go_wp2_with (first | ((with_reducible refine gate_dst (N := 4) rfl ?_); refine boxev 4 #[.int .i64 a0_0, .slice A0_1 l0_1.length c0_1, .slice A0_2 l0_2.length c0_2] 38 ?_; intro gb173 hg w11 hbox hb; have BK173 := ak (hbox); have GW173 := ak (hgl hg (belowd HB)); have GE173 := ak (hgl hg (belowd HB)); replace HB := ak (below_step (belowd HB) hb); clear hb hbox hg; obtain ⟨hcz12_0, hcz12_1, hcz12_2, hfz12_0, hfz12_1, hfz12_2⟩ := box3 BK173) | ((with_reducible refine gate_callee (f := 129) rfl ?_); refine goesLa (some 19) rfl Try.func129 #[.agg #[.int .i64 a0_0, .slice A0_1 l0_1.length c0_1, .slice A0_2 l0_2.length c0_2], .int .i64 a1] rfl ?_; (with_reducible refine (impl_Table_coins.calls k a0_0 _ _ l0_1 _ _ l0_2 a1 t175 _ ?side1 ?side2 ?side3 ?side4 A10.out).mono ?_); (case side1 => exact cd (Kd.C_below HR0_1.out HB.out)); (case side2 => exact HC0_1.out); (case side3 => exact cd (Kd.C_below HR0_2.out HB.out)); (case side4 => exact HC0_2.out); rintro e w13 ⟨rfl, hb⟩; refine ⟨_, rfl, ?_⟩; replace BK173 := ak (blk_below (blkd BK173) hb); replace HB := ak (below_step (belowg1 HB GE173) hb); (try clear hb)))
  go_ret
  exact ⟨er2, belowg1 HB GE173⟩

/-! ### impl_AllSay: function 23 -/
mutual
def impl_AllSay.j0 : Nat → Int → Int → Bool → Int → List (List Int) → List Int → Option (List Int × Bool)
  | 0, _, _, _, _, _, _ => none
  | k + 1, x1, x2, x19, x177000, x177001, x177002 => if x19 = true then (some (([] : List Int), false)) else (impl_AllSay.l0 k x1 x2 (([] : List Int)) x177000 0 x177000 x177001 x177002)
def impl_AllSay.l0 : Nat → Int → Int → List Int → Int → Int → Int → List (List Int) → List Int → Option (List Int × Bool)
  | 0, _, _, _, _, _, _, _, _ => none
  | k + 1, x1, x2, x8, x22, x23, x177000, x177001, x177002 => if x23 < x22 then ((impl_Table_say.f k x177000 x177001 x177002 x23 x1 x2).bind fun t182 => (if x8.length < 17592186044416 then (impl_AllSay.l0 k x1 x2 (x8 ++ [t182]) x22 (wrap64 (x23 + 1)) x177000 x177001 x177002) else (none))) else (some (x8, true))
end
def impl_AllSay.f (k : Nat) (a0_0 : Int) (l0_1 : List (List Int)) (l0_2 : List Int) (a1 : Int) (a2 : Int) : Option (List Int × Bool) := (impl_GoodTable.f k a0_0 l0_1 l0_2).bind fun t177 => (if t177 = true then ((impl_Table_isWord.f a0_0 l0_1 l0_2 a1 a2).bind fun t178 => (impl_AllSay.j0 k a1 a2 (!t178) a0_0 l0_1 l0_2)) else (impl_AllSay.j0 k a1 a2 true a0_0 l0_1 l0_2))
theorem impl_AllSay.mono_l : ∀ k, (∀ y0 y1 y2 y3 y4 y5, LeO (impl_AllSay.j0 k y0 y1 y2 y3 y4 y5) (impl_AllSay.j0 (k + 1) y0 y1 y2 y3 y4 y5)) ∧ (∀ y0 y1 y2 y3 y4 y5 y6 y7, LeO (impl_AllSay.l0 k y0 y1 y2 y3 y4 y5 y6 y7) (impl_AllSay.l0 (k + 1) y0 y1 y2 y3 y4 y5 y6 y7))
 | 0 => ⟨fun _ _ _ _ _ _ r h => by simp [impl_AllSay.j0] at h, fun _ _ _ _ _ _ _ _ r h => by simp [impl_AllSay.l0] at h⟩
 | k + 1 => by
  obtain ⟨ih0, ih1⟩ := impl_AllSay.mono_l k
  refine ⟨?_, ?_⟩
  ·intro y0 y1 y2 y3 y4 y5
   unfold impl_AllSay.j0
   repeat' (first | (with_reducible first | exact ih0 _ _ _ _ _ _ | exact ih1 _ _ _ _ _ _ _ _ | exact impl_GoodTable.mono _ _ _ _ | exact impl_Table_say.mono _ _ _ _ _ _ _ | exact LeO.refl _ | exact LeO.none _ | refine LeO.ite ?_ ?_ | refine LeO.bind ?_ (fun _ => ?_)) | exact ih0 _ _ _ _ _ _ | exact ih1 _ _ _ _ _ _ _ _ | exact impl_GoodTable.mono _ _ _ _ | exact impl_Table_say.mono _ _ _ _ _ _ _ | exact LeO.none _ | refine LeO.ite ?_ ?_ | refine LeO.bind ?_ (fun _ => ?_))
  ·intro y0 y1 y2 y3 y4 y5 y6 y7
   unfold impl_AllSay.l0
   repeat' (first | (with_reducible first | exact ih0 _ _ _ _ _ _ | exact ih1 _ _ _ _ _ _ _ _ | exact impl_GoodTable.mono _ _ _ _ | exact impl_Table_say.mono _ _ _ _ _ _ _ | exact LeO.refl _ | exact LeO.none _ | refine LeO.ite ?_ ?_ | refine LeO.bind ?_ (fun _ => ?_)) | exact ih0 _ _ _ _ _ _ | exact ih1 _ _ _ _ _ _ _ _ | exact impl_GoodTable.mono _ _ _ _ | exact impl_Table_say.mono _ _ _ _ _ _ _ | exact LeO.none _ | refine LeO.ite ?_ ?_ | refine LeO.bind ?_ (fun _ => ?_))
theorem impl_AllSay.mono : ∀ a0 a1 a2 a3 a4 k, LeO (impl_AllSay.f k a0 a1 a2 a3 a4) (impl_AllSay.f (k + 1) a0 a1 a2 a3 a4) := by
 intro a0 a1 a2 a3 a4 k
 obtain ⟨ih0, ih1⟩ := impl_AllSay.mono_l k
 unfold impl_AllSay.f
 repeat' (first | (with_reducible first | exact ih0 _ _ _ _ _ _ | exact ih1 _ _ _ _ _ _ _ _ | exact impl_GoodTable.mono _ _ _ _ | exact impl_Table_say.mono _ _ _ _ _ _ _ | exact LeO.refl _ | exact LeO.none _ | refine LeO.ite ?_ ?_ | refine LeO.bind ?_ (fun _ => ?_)) | exact ih0 _ _ _ _ _ _ | exact ih1 _ _ _ _ _ _ _ _ | exact impl_GoodTable.mono _ _ _ _ | exact impl_Table_say.mono _ _ _ _ _ _ _ | exact LeO.none _ | refine LeO.ite ?_ ?_ | refine LeO.bind ?_ (fun _ => ?_))
set_option maxHeartbeats 8000000 in
set_option maxRecDepth 100000 in
theorem impl_AllSay.calls (k : Nat) (a0_0 : Int) (A0_1 : Option Addr) (c0_1 : Nat) (l0_1 : List (List Int)) (A0_2 : Option Addr) (c0_2 : Nat) (l0_2 : List Int) (a1 : Int) (a2 : Int) (r1 : List Int) (r2 : Bool) (w : World) (hr0_1 : Kd.C (Kd.slice 3 (Kd.int .i64)) w A0_1 l0_1.length l0_1) (hc0_1 : l0_1.length ≤ c0_1) (hr0_2 : Kd.C (Kd.int .i64) w A0_2 l0_2.length l0_2) (hc0_2 : l0_2.length ≤ c0_2) (h : impl_AllSay.f k a0_0 l0_1 l0_2 a1 a2 = some (r1, r2)) :
  Calls Try.prog 23 #[.agg #[.int .i64 a0_0, .slice A0_1 l0_1.length c0_1, .slice A0_2 l0_2.length c0_2], .int .i64 a1, .int .i64 a2] w fun e w' => ∃ v0_ : Value, e = .returned (.tuple #[v0_, .bool r2]) ∧ Kd.R (Kd.int .i64) 3 w' w.heap.size (fun _ => True) v0_ r1 ∧ Below w.heap.size w w' := by
 have hu38 := Try.underlying38
 have HR0_1 := Aside0.mk hr0_1; have HC0_1 := Aside0.mk hc0_1; clear hr0_1 hc0_1; have HR0_2 := Aside0.mk hr0_2; have HC0_2 := Aside0.mk hc0_2; clear hr0_2 hc0_2
 have HB := Aside0.mk (Below.refl w.heap.size w)
 have H : ((impl_GoodTable.f k a0_0 l0_1 l0_2).bind fun t177 => (if t177 = true then ((impl_Table_isWord.f a0_0 l0_1 l0_2 a1 a2).bind fun t178 => (impl_AllSay.j0 k a1 a2 (!t178) a0_0 l0_1 l0_2)) else (impl_AllSay.j0 k a1 a2 true a0_0 l0_1 l0_2))) = some (r1, r2) := h
 clear h; have HC4 := Aside0.mk H; clear H
 go_enter Try.func23, Try.ntmps23
 go_upto_region 1 with (first | ((with_reducible refine gate_dst (N := 3) rfl ?_); refine boxev 3 #[.int .i64 a0_0, .slice A0_1 l0_1.length c0_1, .slice A0_2 l0_2.length c0_2] 38 ?_; intro gb176 hg w5 hbox hb; have BK176 := ak (hbox); have GW176 := ak (hgl hg (belowd HB)); have GE176 := ak (hgl hg (belowd HB)); replace HB := ak (below_step (belowd HB) hb); clear hb hbox hg))
 (try simp only [Act.put, List.setIfInBounds_toArray, List.set_cons_zero, List.set_cons_succ])
 go_cut [19] (fun v19 wc => ∃ (kq : Nat) (x19_3 : Bool), v19 = .bool x19_3 ∧ Aside0 (impl_AllSay.j0 kq a1 a2 x19_3 a0_0 l0_1 l0_2 = some (r1, r2)) ∧ Aside0 (kq ≤ k) ∧ Aside0 (wc.heap[gb176]? = some (.cells #[.int .i64 a0_0, (.slice A0_1 l0_1.length c0_1), (.slice A0_2 l0_2.length c0_2)] 38 (0, 0))) ∧ Aside0 (Below w.heap.size w wc))
 case first =>
  have H := HC4.out; clear HC4; replace H := bS H; obtain ⟨t177, A6, H⟩ := H
  replace H : (if t177 = true then ((impl_Table_isWord.f a0_0 l0_1 l0_2 a1 a2).bind fun t178 => (impl_AllSay.j0 k a1 a2 (!t178) a0_0 l0_1 l0_2)) else (impl_AllSay.j0 k a1 a2 true a0_0 l0_1 l0_2)) = some (r1, r2) := H
  by_cases c7 : t177 = true
  ·subst c7
   have H1 : ((impl_Table_isWord.f a0_0 l0_1 l0_2 a1 a2).bind fun t178 => (impl_AllSay.j0 k a1 a2 (!t178) a0_0 l0_1 l0_2)) = some (r1, r2) := by rw [if_pos rfl] at H; exact H
   clear H
   have H := H1
   clear H1; replace H := bS H; obtain ⟨t178, A8, H⟩ := H
   replace H : (impl_AllSay.j0 k a1 a2 (!t178) a0_0 l0_1 l0_2) = some (r1, r2) := H
   have H' := Aside0.mk H
   clear H; obtain ⟨hcz9_0, hcz9_1, hcz9_2, hfz9_0, hfz9_1, hfz9_2⟩ := box3 BK176
   go_wp2_with (first | ((with_reducible refine gate_callee (f := 59) rfl ?_); refine goesLa (some 11) rfl Try.func59 #[.agg #[.int .i64 a0_0, .slice A0_1 l0_1.length c0_1, .slice A0_2 l0_2.length c0_2]] rfl ?_; (with_reducible refine (impl_GoodTable.calls k a0_0 _ _ l0_1 _ _ l0_2 true _ ?side1 ?side2 ?side3 ?side4 A6.out).mono ?_); (case side1 => exact cd (Kd.C_below HR0_1.out HB.out)); (case side2 => exact HC0_1.out); (case side3 => exact cd (Kd.C_below HR0_2.out HB.out)); (case side4 => exact HC0_2.out); rintro e w10 ⟨rfl, hb⟩; refine ⟨_, rfl, ?_⟩; replace BK176 := ak (blk_below (blkd BK176) hb); replace HB := ak (below_step (belowg1 HB GE176) hb); (try clear hb); obtain ⟨hcz11_0, hcz11_1, hcz11_2, hfz11_0, hfz11_1, hfz11_2⟩ := box3 BK176) | (go_at_call 98; (with_reducible refine (impl_Table_isWord.calls a0_0 _ _ l0_1 _ _ l0_2 a1 a2 t178 _ ?side1 ?side2 ?side3 ?side4 A8.out).mono ?_); (case side1 => exact cd (Kd.C_below HR0_1.out HB.out)); (case side2 => exact HC0_1.out); (case side3 => exact cd (Kd.C_below HR0_2.out HB.out)); (case side4 => exact HC0_2.out); rintro e w12 ⟨rfl, hb⟩; replace BK176 := ak (blk_below (blkd BK176) hb); replace HB := ak (below_step (belowg1 HB GE176) hb); (try clear hb)))
   go_meet
   case rel => exact ⟨_, (!t178), er, H', ⟨by first | omega | exact Nat.le_refl _⟩, ⟨blkd BK176⟩, ⟨belowg1 HB GE176⟩⟩
  ·replace c7 := Bool.eq_false_iff.mpr c7
   subst c7
   have H1 : (impl_AllSay.j0 k a1 a2 true a0_0 l0_1 l0_2) = some (r1, r2) := by rw [if_neg (show ¬ (false = true) by decide)] at H; exact H
   clear H
   have H := H1
   clear H1
   have H' := Aside0.mk H
   clear H; obtain ⟨hcz13_0, hcz13_1, hcz13_2, hfz13_0, hfz13_1, hfz13_2⟩ := box3 BK176
   go_wp2_with (first | ((with_reducible refine gate_callee (f := 59) rfl ?_); refine goesLa (some 11) rfl Try.func59 #[.agg #[.int .i64 a0_0, .slice A0_1 l0_1.length c0_1, .slice A0_2 l0_2.length c0_2]] rfl ?_; (with_reducible refine (impl_GoodTable.calls k a0_0 _ _ l0_1 _ _ l0_2 false _ ?side1 ?side2 ?side3 ?side4 A6.out).mono ?_); (case side1 => exact cd (Kd.C_below HR0_1.out HB.out)); (case side2 => exact HC0_1.out); (case side3 => exact cd (Kd.C_below HR0_2.out HB.out)); (case side4 => exact HC0_2.out); rintro e w14 ⟨rfl, hb⟩; refine ⟨_, rfl, ?_⟩; replace BK176 := ak (blk_below (blkd BK176) hb); replace HB := ak (below_step (belowg1 HB GE176) hb); (try clear hb)))
   go_meet
   case rel => exact ⟨_, (true), er, H', ⟨by first | omega | exact Nat.le_refl _⟩, ⟨blkd BK176⟩, ⟨belowg1 HB GE176⟩⟩
 case rest =>
  clear HC4
  obtain ⟨kq, x19_3, rfl, HA, HJ3, BK176, HB⟩ := hcut
  cases kq with
  | zero => exact absurd HA.out (by simp [impl_AllSay.j0])
  | succ kj3 =>
   have H := HA.out; clear HA
   simp only [impl_AllSay.j0] at H
   by_cases c15 : x19_3 = true
   ·subst c15
    have H1 : (some (([] : List Int), false)) = some (r1, r2) := by rw [if_pos rfl] at H; exact H
    clear H
    have H := H1
    clear H1
    simp only [Option.some.injEq, Prod.mk.injEq] at H
    obtain ⟨rfl, rfl⟩ := H; go_wp2
    go_ret2
    exact ⟨_, er2, by first | exact Kd.R_nil _ _ _ _ _ | exact Kd.N_nil _ _ _ _ _ | exact Kd.V_nil _ _ _ _ _ | exact Kd.Q_nil _ _ _ _ _ | exact Kd.S_nil _ _ _ _ _, belowg1 HB GE176⟩
   ·replace c15 := Bool.eq_false_iff.mpr c15
    subst c15
    have H1 : (impl_AllSay.l0 kj3 a1 a2 (([] : List Int)) a0_0 0 a0_0 l0_1 l0_2) = some (r1, r2) := by rw [if_neg (show ¬ (false = true) by decide)] at H; exact H
    clear H
    have H := H1
    clear H1
    obtain ⟨y179, hy_⟩ : ∃ y_ : List Int, y_ = (([] : List Int)) := ⟨_, rfl⟩
    replace H : (impl_AllSay.l0 kj3 a1 a2 y179 a0_0 0 a0_0 l0_1 l0_2) = some (r1, r2) := yH
    have Ny179 := ak hy_; clear hy_
    have H' := Aside0.mk H
    clear H
    go_wp2_with (first | ((with_reducible refine gate_dst (N := 20) rfl ?_); refine Kd.R_lit (Kd.int .i64) _ 3 ?hg (N := 20) ?hd (xs := ([] : List Int)) (inner := []) (ok := fun _ => True) (okp := fun _ => True) ?hr ?hp (fun _ hk => hk) trivial (Below.refl _ _) (Nat.le_refl _) (by simp) ?_; (case hd => rfl); (case hg => rfl); (case hr => first | (go_simp; done) | (go_simp; rfl)); (case hp => exact (Reps.none _ _)); intro v180 w16 ho17 hb hg_ hnew_; clear hg_ hnew_; (first | rw [← Ny179.out] at ho17 | (simp only [Int.reduceToNat] at ho17; rw [← Ny179.out] at ho17)); have HO181 := ak (Kd.R_lower ho17 (below_size (belowg1 HB GE176))); replace BK176 := ak (blk_below (blkd BK176) hb); replace HB := ak (below_step (belowg1 HB GE176) hb); clear hb ho17; obtain ⟨hcz18_0, hcz18_1, hcz18_2, hfz18_0, hfz18_1, hfz18_2⟩ := box3 BK176))
    go_loopg [8, 23] kj3 (fun kq v8 v23 w' => ∃ (x8_2 : List Int) (x23_2 : Int), v23 = .int .i64 x23_2 ∧ Aside0 (impl_AllSay.l0 kq a1 a2 x8_2 a0_0 x23_2 a0_0 l0_1 l0_2 = some (r1, r2)) ∧ Aside0 (kq ≤ kj3) ∧ Aside0 (Kd.R (Kd.int .i64) 3 w' w.heap.size (fun _ => True) v8 x8_2) ∧ Aside0 (w'.heap[gb176]? = some (.cells #[.int .i64 a0_0, (.slice A0_1 l0_1.length c0_1), (.slice A0_2 l0_2.length c0_2)] 38 (0, 0))) ∧ Aside0 (Below w.heap.size w w'))
    case atStart => exact ⟨(y179), (0), er, H', ⟨Nat.le_refl _⟩, ⟨rdl HO181⟩, ⟨blkd BK176⟩, ⟨belowg1 HB GE176⟩⟩
    case round =>
     clear H'
     (try clear c15); (try clear hcz18_0); (try clear hcz18_1); (try clear hcz18_2); (try clear hfz18_0); (try clear hfz18_1); (try clear hfz18_2)
     obtain ⟨x8_2, x23_2, rfl, HA, HK2, HO_8, BK176, HB⟩ := hrel
     cases gk with
     | zero => exact absurd HA.out (by simp [impl_AllSay.l0])
     | succ k2 =>
      have H := HA.out; clear HA
      simp only [impl_AllSay.l0] at H
      by_cases c19 : x23_2 < a0_0
      ·rw [if_pos c19] at H
       have c19b0 : decide (x23_2 < a0_0) = true := decide_eq_true c19
       clear c19; replace H := bS H; obtain ⟨t182, A20, H⟩ := H
       replace H : (if x8_2.length < 17592186044416 then (impl_AllSay.l0 k2 a1 a2 (x8_2 ++ [t182]) a0_0 (wrap64 (x23_2 + 1)) a0_0 l0_1 l0_2) else (none)) = some (r1, r2) := H
       replace H := ifS H; obtain ⟨c21, H⟩ := H; have LMc21 := Aside0.mk c21; clear c21
       obtain ⟨y183, hy_⟩ : ∃ y_ : List Int, y_ = (x8_2 ++ [t182]) := ⟨_, rfl⟩
       replace H : (impl_AllSay.l0 k2 a1 a2 y183 a0_0 (wrap64 (x23_2 + 1)) a0_0 l0_1 l0_2) = some (r1, r2) := yH
       have Ny183 := ak hy_; clear hy_
       have H' := Aside0.mk H
       clear H; obtain ⟨hcz22_0, hcz22_1, hcz22_2, hfz22_0, hfz22_1, hfz22_2⟩ := box3 BK176
       go_wp2_with (first | ((with_reducible refine gate_callee (f := 99) rfl ?_); refine goesLa (some 31) rfl Try.func99 #[.agg #[.int .i64 a0_0, .slice A0_1 l0_1.length c0_1, .slice A0_2 l0_2.length c0_2], .int .i64 x23_2, .int .i64 a1, .int .i64 a2] rfl ?_; (with_reducible refine (impl_Table_say.calls k2 a0_0 _ _ l0_1 _ _ l0_2 x23_2 a1 a2 t182 _ ?side1 ?side2 ?side3 ?side4 A20.out).mono ?_); (case side1 => exact cd (Kd.C_below HR0_1.out HB.out)); (case side2 => exact HC0_1.out); (case side3 => exact cd (Kd.C_below HR0_2.out HB.out)); (case side4 => exact HC0_2.out); rintro e w23 ⟨rfl, hb⟩; refine ⟨_, rfl, ?_⟩; replace HO_8 := ak (Kd.R_below (rdl HO_8) hb); replace BK176 := ak (blk_below (blkd BK176) hb); replace HB := ak (below_step (belowg1 HB GE176) hb); (try clear hb)) | ((with_reducible refine gate_builtin (b := .append) (xs := #[.tmp 26, .tmp 32]) rfl ?_); at_builtin; refine Kd.R_append (Kd.int .i64) (w0 := w) w.heap.size rfl (.tmp 26) (.tmp 32) 22 3 (.int .i64 0) 8 rfl Try.underlying22 info3 rfl (by decide) (by omega) u8 x8_2 t182 [.int .i64 t182] (fun _ => True) (fun _ => False) rfl rfl ?aP (fun _ hk => hk.elim) ?aF ?aO ?aB ?aS ?aL ?_; (case aP => exact rfl); (case aB => exact (belowg1 HB GE176)); (case aF => exact (fun _ _ => trivial)); (case aO => exact (rdl HO_8)); (case aS => exact (below_size (belowg1 HB GE176))); (case aL => have := LMc21.out; omega); intro v184 w24 ho hb hg hat; rw [← Ny183.out] at ho; replace BK176 := ak (blk_grown (blkd BK176) hg (Kd.R_ne HO_8.out BK176.out (by decide))); replace HB := ak (hb); have HO185 := ak (ho); clear HO_8; clear ho hb hg hat))
       go_roundg k2
       case measure => have := HJ3.out; have := HK2.out; omega
       case rel => exact ⟨(y183), (wrap64 (x23_2 + 1)), er, H', ⟨by have := HJ3.out; have := HK2.out; omega⟩, ⟨rdl HO185⟩, ⟨blkd BK176⟩, ⟨belowg1 HB GE176⟩⟩
      ·rw [if_neg c19] at H
       have c19b0 : decide (x23_2 < a0_0) = false := decide_eq_false c19
       clear c19
       simp only [Option.some.injEq, Prod.mk.injEq] at H
       obtain ⟨rfl, rfl⟩ := H; go_wp2
       go_ret2
       exact ⟨_, er2, by (with_reducible repeat (first | apply Kd.R_alloc | apply Kd.R_drewN | apply Kd.R_drew)); exact HO_8.out, belowg1 HB GE176⟩

/-! ### impl_Table_isSeat: function 110 -/
def impl_Table_isSeat.f (a0_0 : Int) (l0_1 : List (List Int)) (l0_2 : List Int) (a1 : Int) : Option (Bool) := (impl_within.f a1 0 (wrap64 (a0_0 - 1))).bind fun t187 => (some t187)
set_option maxHeartbeats 8000000 in
set_option maxRecDepth 100000 in
theorem impl_Table_isSeat.calls (a0_0 : Int) (A0_1 : Option Addr) (c0_1 : Nat) (l0_1 : List (List Int)) (A0_2 : Option Addr) (c0_2 : Nat) (l0_2 : List Int) (a1 : Int) (r : Bool) (w : World) (hr0_1 : Kd.C (Kd.slice 3 (Kd.int .i64)) w A0_1 l0_1.length l0_1) (hc0_1 : l0_1.length ≤ c0_1) (hr0_2 : Kd.C (Kd.int .i64) w A0_2 l0_2.length l0_2) (hc0_2 : l0_2.length ≤ c0_2) (h : impl_Table_isSeat.f a0_0 l0_1 l0_2 a1 = some r) :
  Calls Try.prog 110 #[.agg #[.int .i64 a0_0, .slice A0_1 l0_1.length c0_1, .slice A0_2 l0_2.length c0_2], .int .i64 a1] w fun e w' => e = .returned (.bool r) ∧ Below w.heap.size w w' := by
 have hu38 := Try.underlying38
 have HR0_1 := Aside0.mk hr0_1; have HC0_1 := Aside0.mk hc0_1; clear hr0_1 hc0_1; have HR0_2 := Aside0.mk hr0_2; have HC0_2 := Aside0.mk hc0_2; clear hr0_2 hc0_2
 have HB := Aside0.mk (Below.refl w.heap.size w)
 have H : ((impl_within.f a1 0 (wrap64 (a0_0 - 1))).bind fun t187 => (some t187)) = some r := h
 clear h; replace H := bS H; obtain ⟨t187, A3, H⟩ := H
 replace H : (some t187) = some r := H
 obtain rfl := Option.some.inj H
 go_enter Try.func110, Try.ntmps110
 go_wp2_with (first | ((with_reducible refine gate_dst (N := 2) rfl ?_); refine boxev 2 #[.int .i64 a0_0, .slice A0_1 l0_1.length c0_1, .slice A0_2 l0_2.length c0_2] 38 ?_; intro gb186 hg w4 hbox hb; have BK186 := ak (hbox); have GW186 := ak (hgl hg (belowd HB)); have GE186 := ak (hgl hg (belowd HB)); replace HB := ak (below_step (belowd HB) hb); clear hb hbox hg; obtain ⟨hcz5_0, hcz5_1, hcz5_2, hfz5_0, hfz5_1, hfz5_2⟩ := box3 BK186) | ((with_reducible refine gate_callee (f := 87) rfl ?_); refine goesLa (some 9) rfl Try.func87 #[.int .i64 a1, .int .i64 0, .int .i64 (wrap64 (a0_0 - 1))] rfl ?_; (with_reducible refine (impl_within.calls a1 0 (wrap64 (a0_0 - 1)) t187 _ A3.out).mono ?_); rintro e w' ⟨rfl, ⟨nd, rfl⟩⟩; refine ⟨_, rfl, ?_⟩))
 go_ret
 exact ⟨er2, belowg1 HB GE186⟩

/-! ### bits_Mul32: function 160 -/
def bits_Mul32.f (a0 : Int) (a1 : Int) : Option (Int × Int) := some (((IntKind.u64.wrap ((IntKind.u64.wrap (a0)) * (IntKind.u64.wrap (a1)))) / 4294967296) % 4294967296, (IntKind.u64.wrap ((IntKind.u64.wrap (a0)) * (IntKind.u64.wrap (a1)))) % 4294967296)
set_option maxHeartbeats 8000000 in
set_option maxRecDepth 100000 in
theorem bits_Mul32.calls (a0 : Int) (a1 : Int) (r1 : Int) (r2 : Int) (w : World) (h : bits_Mul32.f a0 a1 = some (r1, r2)) :
  Calls Try.prog 160 #[.int .u32 a0, .int .u32 a1] w fun e w' => e = .returned (.tuple #[.int .u32 r1, .int .u32 r2]) ∧ Drawn0 w w' := by
 have H : (some (((IntKind.u64.wrap ((IntKind.u64.wrap (a0)) * (IntKind.u64.wrap (a1)))) / 4294967296) % 4294967296, (IntKind.u64.wrap ((IntKind.u64.wrap (a0)) * (IntKind.u64.wrap (a1)))) % 4294967296)) = some (r1, r2) := h
 clear h
 simp only [Option.some.injEq, Prod.mk.injEq] at H
 obtain ⟨rfl, rfl⟩ := H
 go_enter Try.func160, Try.ntmps160
 go_wp2
 go_ret2
 exact ⟨er, drw⟩

/-! ### bits_Mul64: function 161 -/
def bits_Mul64.f (a0 : Int) (a1 : Int) : Option (Int × Int) := some (IntKind.u64.wrap ((IntKind.u64.wrap ((IntKind.u64.wrap ((a0 / 4294967296) * (a1 / 4294967296))) + ((IntKind.u64.wrap ((IntKind.u64.wrap ((a0 / 4294967296) * (Go.bits .and .u64 a1 4294967295))) + ((IntKind.u64.wrap ((Go.bits .and .u64 a0 4294967295) * (Go.bits .and .u64 a1 4294967295))) / 4294967296))) / 4294967296))) + ((IntKind.u64.wrap ((Go.bits .and .u64 (IntKind.u64.wrap ((IntKind.u64.wrap ((a0 / 4294967296) * (Go.bits .and .u64 a1 4294967295))) + ((IntKind.u64.wrap ((Go.bits .and .u64 a0 4294967295) * (Go.bits .and .u64 a1 4294967295))) / 4294967296))) 4294967295) + (IntKind.u64.wrap ((Go.bits .and .u64 a0 4294967295) * (a1 / 4294967296))))) / 4294967296)), IntKind.u64.wrap (a0 * a1))
set_option maxHeartbeats 8000000 in
set_option maxRecDepth 100000 in
theorem bits_Mul64.calls (a0 : Int) (a1 : Int) (r1 : Int) (r2 : Int) (w : World) (h : bits_Mul64.f a0 a1 = some (r1, r2)) :
  Calls Try.prog 161 #[.int .u64 a0, .int .u64 a1] w fun e w' => e = .returned (.tuple #[.int .u64 r1, .int .u64 r2]) ∧ Drawn0 w w' := by
 have H : (some (IntKind.u64.wrap ((IntKind.u64.wrap ((IntKind.u64.wrap ((a0 / 4294967296) * (a1 / 4294967296))) + ((IntKind.u64.wrap ((IntKind.u64.wrap ((a0 / 4294967296) * (Go.bits .and .u64 a1 4294967295))) + ((IntKind.u64.wrap ((Go.bits .and .u64 a0 4294967295) * (Go.bits .and .u64 a1 4294967295))) / 4294967296))) / 4294967296))) + ((IntKind.u64.wrap ((Go.bits .and .u64 (IntKind.u64.wrap ((IntKind.u64.wrap ((a0 / 4294967296) * (Go.bits .and .u64 a1 4294967295))) + ((IntKind.u64.wrap ((Go.bits .and .u64 a0 4294967295) * (Go.bits .and .u64 a1 4294967295))) / 4294967296))) 4294967295) + (IntKind.u64.wrap ((Go.bits .and .u64 a0 4294967295) * (a1 / 4294967296))))) / 4294967296)), IntKind.u64.wrap (a0 * a1))) = some (r1, r2) := h
 clear h
 simp only [Option.some.injEq, Prod.mk.injEq] at H
 obtain ⟨rfl, rfl⟩ := H
 go_enter Try.func161, Try.ntmps161
 go_wp2
 go_ret2
 exact ⟨er, drw⟩

/-! ### bits_Mul: function 154 -/
def bits_Mul.f (a0 : Int) (a1 : Int) : Option (Int × Int) := (bits_Mul64.f a0 a1).bind fun bt188 => (some (bt188.1, bt188.2))
set_option maxHeartbeats 8000000 in
set_option maxRecDepth 100000 in
theorem bits_Mul.calls (a0 : Int) (a1 : Int) (r1 : Int) (r2 : Int) (w : World) (h : bits_Mul.f a0 a1 = some (r1, r2)) :
  Calls Try.prog 154 #[.int .u64 a0, .int .u64 a1] w fun e w' => e = .returned (.tuple #[.int .u64 r1, .int .u64 r2]) ∧ Drawn0 w w' := by
 have H : ((bits_Mul64.f a0 a1).bind fun bt188 => (some (bt188.1, bt188.2))) = some (r1, r2) := h
 clear h; replace H := bS H; obtain ⟨⟨t188, t189⟩, A3, H⟩ := H
 replace H : (some (t188, t189)) = some (r1, r2) := H
 simp only [Option.some.injEq, Prod.mk.injEq] at H
 obtain ⟨rfl, rfl⟩ := H
 go_enter Try.func154, Try.ntmps154
 go_wp2_with (first | ((with_reducible refine gate_callee (f := 161) rfl ?_); refine goesLa (some 25) rfl Try.func161 #[.int .u64 a0, .int .u64 a1] rfl ?_; (with_reducible refine (bits_Mul64.calls a0 a1 t188 t189 _ A3.out).mono ?_); rintro e w' ⟨rfl, ⟨nd, rfl⟩⟩; refine ⟨_, rfl, ?_⟩))
 go_ret2
 exact ⟨er, drw⟩

end Go.Proofs.Ytpibdgknmjjolaa.QFnTable
