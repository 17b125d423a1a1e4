-- printed by this session's own program (wip/tools/pp.py: the kit's print.py with changes); Lean checks it
import Derived.Test.YtpibdgknmjjolaaQFnGroupsx0
import Derived.Test.YtpibdgknmjjolaaQFnGroupsx1
import Derived.Test.YtpibdgknmjjolaaQFnGroupsx2
import Derived.Test.YtpibdgknmjjolaaQFnGroupsx3
import Derived.Test.YtpibdgknmjjolaaQFnGroupsx7
namespace Go.Proofs.Ytpibdgknmjjolaa.QFnGroups
open Go.RowKit Go.Proofs.YtpibdgknmjjolaaW.PrintWords Go.Proofs.YtpibdgknmjjolaaW.PrintLast Go.Proofs.YtpibdgknmjjolaaW.PrintMore
attribute [local go_sem] max2_int min2_int max_two min_two max_three min_three max_four min_four strLss strGtr strLeq strGeq   -- for this text's walks alone
set_option linter.unusedVariables false
set_option linter.unusedSimpArgs false

/-! ### impl_TogetherSay: function 68 -/
mutual
def impl_TogetherSay.j0 : Nat → List Int → Bool → Int → List (List Int) → List Int → Option (List Int × Bool)
  | 0, _, _, _, _, _ => none
  | k + 1, x1, x23, x384000, x384001, x384002 => if x23 = true then (some (([] : List Int), false)) else (impl_TogetherSay.l0 k (([] : List Int)) x1 (x1.length : Int) 0 x384000 x384001 x384002)
def impl_TogetherSay.l0 : Nat → List Int → List Int → Int → Int → Int → List (List Int) → List Int → Option (List Int × Bool)
  | 0, _, _, _, _, _, _, _ => none
  | k + 1, x6, x25, x26, x27, x384000, x384001, x384002 => if x27 < x26 then (if 0 ≤ x27 then (if x27 < (x25.length : Int) then ((impl_Table_coins.f k x384000 x384001 x384002 x27).bind fun t390 => (if x6.length < 17592186044416 then (impl_TogetherSay.l0 k (x6 ++ [Go.bits .xor .i64 t390 (rd x25 x27)]) x25 x26 (wrap64 (x27 + 1)) x384000 x384001 x384002) else (none))) else (none)) else (none)) else (some (x6, true))
end
def impl_TogetherSay.f (k : Nat) (a0_0 : Int) (l0_1 : List (List Int)) (l0_2 : List Int) (l1 : List Int) : Option (List Int × Bool) := (impl_GoodTable.f k a0_0 l0_1 l0_2).bind fun t384 => (if t384 = true then (if (l1.length : Int) = a0_0 then ((impl_allWithin.f k l1 0 255).bind fun t385 => (impl_TogetherSay.j0 k l1 (!t385) a0_0 l0_1 l0_2)) else (impl_TogetherSay.j0 k l1 true a0_0 l0_1 l0_2)) else (impl_TogetherSay.j0 k l1 true a0_0 l0_1 l0_2))
theorem impl_TogetherSay.mono_l : ∀ k, (∀ y0 y1 y2 y3 y4, LeO (impl_TogetherSay.j0 k y0 y1 y2 y3 y4) (impl_TogetherSay.j0 (k + 1) y0 y1 y2 y3 y4)) ∧ (∀ y0 y1 y2 y3 y4 y5 y6, LeO (impl_TogetherSay.l0 k y0 y1 y2 y3 y4 y5 y6) (impl_TogetherSay.l0 (k + 1) y0 y1 y2 y3 y4 y5 y6))
 | 0 => ⟨fun _ _ _ _ _ r h => by simp [impl_TogetherSay.j0] at h, fun _ _ _ _ _ _ _ r h => by simp [impl_TogetherSay.l0] at h⟩
 | k + 1 => by
  obtain ⟨ih0, ih1⟩ := impl_TogetherSay.mono_l k
  refine ⟨?_, ?_⟩
  ·intro y0 y1 y2 y3 y4
   unfold impl_TogetherSay.j0
   repeat' (first | (with_reducible first | exact ih0 _ _ _ _ _ | exact ih1 _ _ _ _ _ _ _ | exact impl_GoodTable.mono _ _ _ _ | exact impl_Table_coins.mono _ _ _ _ _ | exact impl_allWithin.mono _ _ _ _ | exact LeO.refl _ | exact LeO.none _ | refine LeO.ite ?_ ?_ | refine LeO.bind ?_ (fun _ => ?_)) | exact ih0 _ _ _ _ _ | exact ih1 _ _ _ _ _ _ _ | exact impl_GoodTable.mono _ _ _ _ | exact impl_Table_coins.mono _ _ _ _ _ | exact impl_allWithin.mono _ _ _ _ | exact LeO.none _ | refine LeO.ite ?_ ?_ | refine LeO.bind ?_ (fun _ => ?_))
  ·intro y0 y1 y2 y3 y4 y5 y6
   unfold impl_TogetherSay.l0
   repeat' (first | (with_reducible first | exact ih0 _ _ _ _ _ | exact ih1 _ _ _ _ _ _ _ | exact impl_GoodTable.mono _ _ _ _ | exact impl_Table_coins.mono _ _ _ _ _ | exact impl_allWithin.mono _ _ _ _ | exact LeO.refl _ | exact LeO.none _ | refine LeO.ite ?_ ?_ | refine LeO.bind ?_ (fun _ => ?_)) | exact ih0 _ _ _ _ _ | exact ih1 _ _ _ _ _ _ _ | exact impl_GoodTable.mono _ _ _ _ | exact impl_Table_coins.mono _ _ _ _ _ | exact impl_allWithin.mono _ _ _ _ | exact LeO.none _ | refine LeO.ite ?_ ?_ | refine LeO.bind ?_ (fun _ => ?_))
theorem impl_TogetherSay.mono : ∀ a0 a1 a2 a3 k, LeO (impl_TogetherSay.f k a0 a1 a2 a3) (impl_TogetherSay.f (k + 1) a0 a1 a2 a3) := by
 intro a0 a1 a2 a3 k
 obtain ⟨ih0, ih1⟩ := impl_TogetherSay.mono_l k
 unfold impl_TogetherSay.f
 repeat' (first | (with_reducible first | exact ih0 _ _ _ _ _ | exact ih1 _ _ _ _ _ _ _ | exact impl_GoodTable.mono _ _ _ _ | exact impl_Table_coins.mono _ _ _ _ _ | exact impl_allWithin.mono _ _ _ _ | exact LeO.refl _ | exact LeO.none _ | refine LeO.ite ?_ ?_ | refine LeO.bind ?_ (fun _ => ?_)) | exact ih0 _ _ _ _ _ | exact ih1 _ _ _ _ _ _ _ | exact impl_GoodTable.mono _ _ _ _ | exact impl_Table_coins.mono _ _ _ _ _ | exact impl_allWithin.mono _ _ _ _ | exact LeO.none _ | refine LeO.ite ?_ ?_ | refine LeO.bind ?_ (fun _ => ?_))
set_option maxHeartbeats 8000000 in
set_option maxRecDepth 100000 in
theorem impl_TogetherSay.calls (k : Nat) (a0_0 : Int) (A0_1 : Option Addr) (c0_1 : Nat) (l0_1 : List (List Int)) (A0_2 : Option Addr) (c0_2 : Nat) (l0_2 : List Int) (A1 : Option Addr) (c1 : Nat) (l1 : List Int) (r1 : List Int) (r2 : Bool) (w : World) (hr0_1 : Kd.C (Kd.slice 3 (Kd.int .i64)) w A0_1 l0_1.length l0_1) (hc0_1 : l0_1.length ≤ c0_1) (hr0_2 : Kd.C (Kd.int .i64) w A0_2 l0_2.length l0_2) (hc0_2 : l0_2.length ≤ c0_2) (hr1 : Kd.C (Kd.int .i64) w A1 l1.length l1) (hc1 : l1.length ≤ c1) (h : impl_TogetherSay.f k a0_0 l0_1 l0_2 l1 = some (r1, r2)) :
  Calls Try.prog 68 #[.agg #[.int .i64 a0_0, .slice A0_1 l0_1.length c0_1, .slice A0_2 l0_2.length c0_2], .slice A1 l1.length c1] w fun e w' => ∃ v0_ : Value, e = .returned (.tuple #[v0_, .bool r2]) ∧ Kd.R (Kd.int .i64) 3 w' w.heap.size (fun _ => True) v0_ r1 ∧ Below w.heap.size w w' := by
 have hu38 := Try.underlying38
 have HR0_1 := Aside0.mk hr0_1; have HC0_1 := Aside0.mk hc0_1; clear hr0_1 hc0_1; have HR0_2 := Aside0.mk hr0_2; have HC0_2 := Aside0.mk hc0_2; clear hr0_2 hc0_2; have HR1 := Aside0.mk hr1; have HC1 := Aside0.mk hc1; clear hr1 hc1
 have HB := Aside0.mk (Below.refl w.heap.size w)
 have H : ((impl_GoodTable.f k a0_0 l0_1 l0_2).bind fun t384 => (if t384 = true then (if (l1.length : Int) = a0_0 then ((impl_allWithin.f k l1 0 255).bind fun t385 => (impl_TogetherSay.j0 k l1 (!t385) a0_0 l0_1 l0_2)) else (impl_TogetherSay.j0 k l1 true a0_0 l0_1 l0_2)) else (impl_TogetherSay.j0 k l1 true a0_0 l0_1 l0_2))) = some (r1, r2) := h
 clear h; have HC3 := Aside0.mk H; clear H
 go_enter Try.func68, Try.ntmps68
 go_upto_region 1 with (first | ((with_reducible refine gate_dst (N := 2) rfl ?_); (try (refine gate_guard (by rfl) ?_; dsimp only)); refine boxev 2 #[.int .i64 a0_0, .slice A0_1 l0_1.length c0_1, .slice A0_2 l0_2.length c0_2] 38 ?_; intro gb383 hg w4 hbox hb; have BK383 := ak (hbox); have GW383 := ak (hgl hg (belowd HB)); have GE383 := ak (hgl hg (belowd HB)); replace HB := ak (below_step (belowd HB) hb); clear hb hbox hg))
 (try simp only [Act.put, List.setIfInBounds_toArray, List.set_cons_zero, List.set_cons_succ])
 go_cut [23] (fun v23 wc => ∃ (kq : Nat) (x23_2 : Bool), v23 = .bool x23_2 ∧ Aside0 (impl_TogetherSay.j0 kq l1 x23_2 a0_0 l0_1 l0_2 = some (r1, r2)) ∧ Aside0 (kq ≤ k) ∧ Aside0 (wc.heap[gb383]? = some (.cells #[.int .i64 a0_0, (.slice A0_1 l0_1.length c0_1), (.slice A0_2 l0_2.length c0_2)] 38 (0, 0))) ∧ Aside0 (Below w.heap.size w wc))
 case first =>
  have H := HC3.out; clear HC3; replace H := bS H; obtain ⟨t384, A5, H⟩ := H
  replace H : (if t384 = true then (if (l1.length : Int) = a0_0 then ((impl_allWithin.f k l1 0 255).bind fun t385 => (impl_TogetherSay.j0 k l1 (!t385) a0_0 l0_1 l0_2)) else (impl_TogetherSay.j0 k l1 true a0_0 l0_1 l0_2)) else (impl_TogetherSay.j0 k l1 true a0_0 l0_1 l0_2)) = some (r1, r2) := H
  by_cases c6 : t384 = true
  ·subst c6
   have H1 : (if (l1.length : Int) = a0_0 then ((impl_allWithin.f k l1 0 255).bind fun t385 => (impl_TogetherSay.j0 k l1 (!t385) a0_0 l0_1 l0_2)) else (impl_TogetherSay.j0 k l1 true a0_0 l0_1 l0_2)) = some (r1, r2) := by rw [if_pos rfl] at H; exact H
   clear H
   have H := H1
   clear H1
   by_cases c7 : (l1.length : Int) = a0_0
   ·rw [if_pos c7] at H
    have c7b0 : ((l1.length : Int) == a0_0) = true := beq_iff_eq.mpr c7
    have c7b1 : ((l1.length : Int) != a0_0) = false := bne_eq_false_iff_eq.mpr c7
    clear c7
    (first | rw [c7b0] | (simp only [i64_w, i32_w]; rw [c7b0]) | skip)
    replace H := bS H; obtain ⟨t385, A8, H⟩ := H
    replace H : (impl_TogetherSay.j0 k l1 (!t385) a0_0 l0_1 l0_2) = some (r1, r2) := H
    have H' := Aside0.mk H
    clear H; obtain ⟨hcz9_0, hcz9_1, hcz9_2, hfz9_0, hfz9_1, hfz9_2⟩ := box3 BK383
    go_wp2_with (first | ((with_reducible refine gate_callee (f := 59) rfl ?_); refine goesLa (some 10) rfl Try.func59 #[.agg #[.int .i64 a0_0, .slice A0_1 l0_1.length c0_1, .slice A0_2 l0_2.length c0_2]] rfl ?_; (with_reducible refine (impl_GoodTable.calls k a0_0 _ _ l0_1 _ _ l0_2 true _ ?side1 ?side2 ?side3 ?side4 A5.out).mono ?_); (case side1 => exact cd (Kd.C_below HR0_1.out HB.out)); (case side2 => exact HC0_1.out); (case side3 => exact cd (Kd.C_below HR0_2.out HB.out)); (case side4 => exact HC0_2.out); rintro e w10 ⟨rfl, hb⟩; refine ⟨_, rfl, ?_⟩; replace BK383 := ak (blk_below (blkd BK383) hb); replace HB := ak (below_step (belowg1 HB GE383) hb); (try clear hb); obtain ⟨hcz11_0, hcz11_1, hcz11_2, hfz11_0, hfz11_1, hfz11_2⟩ := box3 BK383) | (go_at_call 124; (with_reducible refine (impl_allWithin.calls k _ _ l1 0 255 t385 _ ?side1 ?side2 A8.out).mono ?_); (case side1 => exact cd (Kd.C_below HR1.out HB.out)); (case side2 => exact HC1.out); rintro e w' ⟨rfl, ⟨nd, rfl⟩⟩))
    go_meet
    case rel => exact ⟨_, (!t385), er, H', ⟨by first | omega | exact Nat.le_refl _⟩, ⟨blkd BK383⟩, ⟨belowg1 HB GE383⟩⟩
   ·rw [if_neg c7] at H
    have c7b0 : ((l1.length : Int) == a0_0) = false := beq_eq_false_iff_ne.mpr c7
    have c7b1 : ((l1.length : Int) != a0_0) = true := bne_iff_ne.mpr c7
    (first | rw [c7b0] | (simp only [i64_w, i32_w]; rw [c7b0]) | skip)
    have H' := Aside0.mk H
    clear H; obtain ⟨hcz12_0, hcz12_1, hcz12_2, hfz12_0, hfz12_1, hfz12_2⟩ := box3 BK383
    go_wp2_with (first | ((with_reducible refine gate_callee (f := 59) rfl ?_); refine goesLa (some 10) rfl Try.func59 #[.agg #[.int .i64 a0_0, .slice A0_1 l0_1.length c0_1, .slice A0_2 l0_2.length c0_2]] rfl ?_; (with_reducible refine (impl_GoodTable.calls k a0_0 _ _ l0_1 _ _ l0_2 true _ ?side1 ?side2 ?side3 ?side4 A5.out).mono ?_); (case side1 => exact cd (Kd.C_below HR0_1.out HB.out)); (case side2 => exact HC0_1.out); (case side3 => exact cd (Kd.C_below HR0_2.out HB.out)); (case side4 => exact HC0_2.out); rintro e w13 ⟨rfl, hb⟩; refine ⟨_, rfl, ?_⟩; replace BK383 := ak (blk_below (blkd BK383) hb); replace HB := ak (below_step (belowg1 HB GE383) hb); (try clear hb); obtain ⟨hcz14_0, hcz14_1, hcz14_2, hfz14_0, hfz14_1, hfz14_2⟩ := box3 BK383))
    go_meet
    case rel => exact ⟨_, (true), er, H', ⟨by first | omega | exact Nat.le_refl _⟩, ⟨blkd BK383⟩, ⟨belowg1 HB GE383⟩⟩
  ·replace c6 := Bool.eq_false_iff.mpr c6
   subst c6
   have H1 : (impl_TogetherSay.j0 k l1 true a0_0 l0_1 l0_2) = some (r1, r2) := by rw [if_neg (show ¬ (false = true) by decide)] at H; exact H
   clear H
   have H := H1
   clear H1
   have H' := Aside0.mk H
   clear H; obtain ⟨hcz15_0, hcz15_1, hcz15_2, hfz15_0, hfz15_1, hfz15_2⟩ := box3 BK383
   go_wp2_with (first | ((with_reducible refine gate_callee (f := 59) rfl ?_); refine goesLa (some 10) rfl Try.func59 #[.agg #[.int .i64 a0_0, .slice A0_1 l0_1.length c0_1, .slice A0_2 l0_2.length c0_2]] rfl ?_; (with_reducible refine (impl_GoodTable.calls k a0_0 _ _ l0_1 _ _ l0_2 false _ ?side1 ?side2 ?side3 ?side4 A5.out).mono ?_); (case side1 => exact cd (Kd.C_below HR0_1.out HB.out)); (case side2 => exact HC0_1.out); (case side3 => exact cd (Kd.C_below HR0_2.out HB.out)); (case side4 => exact HC0_2.out); rintro e w16 ⟨rfl, hb⟩; refine ⟨_, rfl, ?_⟩; replace BK383 := ak (blk_below (blkd BK383) hb); replace HB := ak (below_step (belowg1 HB GE383) hb); (try clear hb)))
   go_meet
   case rel => exact ⟨_, (true), er, H', ⟨by first | omega | exact Nat.le_refl _⟩, ⟨blkd BK383⟩, ⟨belowg1 HB GE383⟩⟩
 case rest =>
  clear HC3; (try clear c1)
  obtain ⟨kq, x23_2, rfl, HA, HJ2, BK383, HB⟩ := hcut
  cases kq with
  | zero => exact absurd HA.out (by simp [impl_TogetherSay.j0])
  | succ kj2 =>
   have H := HA.out; clear HA
   simp only [impl_TogetherSay.j0] at H
   by_cases c17 : x23_2 = true
   ·subst c17
    have H1 : (some (([] : List Int), false)) = some (r1, r2) := by rw [if_pos rfl] at H; exact H
    clear H
    have H := H1
    clear H1
    simp only [Option.some.injEq, Prod.mk.injEq] at H
    obtain ⟨rfl, rfl⟩ := H; go_wp2
    go_ret2
    exact ⟨_, er2, by first | exact Kd.R_nil _ _ _ _ _ | exact Kd.N_nil _ _ _ _ _ | exact Kd.V_nil _ _ _ _ _ | exact Kd.Q_nil _ _ _ _ _ | exact Kd.S_nil _ _ _ _ _, belowg1 HB GE383⟩
   ·replace c17 := Bool.eq_false_iff.mpr c17
    subst c17
    have H1 : (impl_TogetherSay.l0 kj2 (([] : List Int)) l1 (l1.length : Int) 0 a0_0 l0_1 l0_2) = some (r1, r2) := by rw [if_neg (show ¬ (false = true) by decide)] at H; exact H
    clear H
    have H := H1
    clear H1
    obtain ⟨y386, hy_⟩ : ∃ y_ : List Int, y_ = (([] : List Int)) := ⟨_, rfl⟩
    replace H : (impl_TogetherSay.l0 kj2 y386 l1 (l1.length : Int) 0 a0_0 l0_1 l0_2) = some (r1, r2) := yH
    have Ny386 := ak hy_; clear hy_
    have H' := Aside0.mk H
    clear H
    go_wp2_with (first | ((with_reducible refine gate_dst (N := 24) rfl ?_); (try (refine gate_guard (by rfl) ?_; dsimp only)); refine Kd.R_lit (Kd.int .i64) _ 3 ?hg (N := 24) ?hd (xs := ([] : List Int)) (inner := []) (ok := fun _ => True) (okp := fun _ => True) ?hr ?hp (fun _ hk => hk) trivial (Below.refl _ _) (Nat.le_refl _) (by simp) ?_; (case hd => rfl); (case hg => rfl); (case hr => first | (go_simp; done) | (go_simp; rfl)); (case hp => exact (Reps.none _ _)); intro v387 w18 ho19 hb hg_ hnew_; clear hg_ hnew_; (first | rw [← Ny386.out] at ho19 | (simp only [Int.reduceToNat] at ho19; rw [← Ny386.out] at ho19)); have HO388 := ak (Kd.R_lower ho19 (below_size (belowg1 HB GE383))); replace BK383 := ak (blk_below (blkd BK383) hb); replace HB := ak (below_step (belowg1 HB GE383) hb); clear hb ho19))
    go_loopg [6, 27] kj2 (fun kq v6 v27 w' => ∃ (x6_2 : List Int) (x27_2 : Int), v27 = .int .i64 x27_2 ∧ Aside0 (impl_TogetherSay.l0 kq x6_2 l1 (l1.length : Int) x27_2 a0_0 l0_1 l0_2 = some (r1, r2)) ∧ Aside0 (kq ≤ kj2) ∧ Aside0 (Kd.R (Kd.int .i64) 3 w' w.heap.size (fun _ => True) v6 x6_2) ∧ Aside0 (w'.heap[gb383]? = some (.cells #[.int .i64 a0_0, (.slice A0_1 l0_1.length c0_1), (.slice A0_2 l0_2.length c0_2)] 38 (0, 0))) ∧ Aside0 (Below w.heap.size w w'))
    case atStart => exact ⟨(y386), (0), er, H', ⟨Nat.le_refl _⟩, ⟨rdl HO388⟩, ⟨blkd BK383⟩, ⟨belowg1 HB GE383⟩⟩
    case round =>
     clear H'
     (try clear c17)
     obtain ⟨x6_2, x27_2, rfl, HA, HK2, HO_6, BK383, HB⟩ := hrel
     cases gk with
     | zero => exact absurd HA.out (by simp [impl_TogetherSay.l0])
     | succ k2 =>
      have H := HA.out; clear HA
      simp only [impl_TogetherSay.l0] at H
      by_cases c20 : x27_2 < (l1.length : Int)
      ·rw [if_pos c20] at H
       have c20b0 : decide (x27_2 < (l1.length : Int)) = true := decide_eq_true c20
       clear c20; replace H := ifS H; obtain ⟨c21, H⟩ := H; have c21b0 := decide_eq_true c21; clear c21; replace H := ifS H; obtain ⟨c22, H⟩ := H; have c22b0 := decide_eq_true c22; clear c22; replace H := bS H; obtain ⟨t390, A23, H⟩ := H
       replace H : (if x6_2.length < 17592186044416 then (impl_TogetherSay.l0 k2 (x6_2 ++ [Go.bits .xor .i64 t390 (rd l1 x27_2)]) l1 (l1.length : Int) (wrap64 (x27_2 + 1)) a0_0 l0_1 l0_2) else (none)) = some (r1, r2) := H
       replace H := ifS H; obtain ⟨c24, H⟩ := H; have LMc24 := Aside0.mk c24; clear c24
       obtain ⟨y391, hy_⟩ : ∃ y_ : List Int, y_ = (x6_2 ++ [Go.bits .xor .i64 t390 (rd l1 x27_2)]) := ⟨_, rfl⟩
       replace H : (impl_TogetherSay.l0 k2 y391 l1 (l1.length : Int) (wrap64 (x27_2 + 1)) a0_0 l0_1 l0_2) = some (r1, r2) := yH
       have Ny391 := ak hy_; clear hy_
       have H' := Aside0.mk H
       clear H
       have p389 : 0 ≤ (x27_2 : Int) := da
       have q389 : x27_2 < (l1.length : Int) := da
       obtain ⟨ad389, e389, hx389_0⟩ := Kd.at_int HR1.out x27_2 p389 q389
       cases e389
       replace hx389_0 := (HB.out.cell (World.block_lt_of_cell? w _ hx389_0)).trans hx389_0
       replace p389 := eq_true p389; replace q389 := eq_true q389; obtain ⟨hcz25_0, hcz25_1, hcz25_2, hfz25_0, hfz25_1, hfz25_2⟩ := box3 BK383
       go_wp2_with (first | ((with_reducible refine gate_callee (f := 129) rfl ?_); refine goesLa (some 35) rfl Try.func129 #[.agg #[.int .i64 a0_0, .slice A0_1 l0_1.length c0_1, .slice A0_2 l0_2.length c0_2], .int .i64 x27_2] rfl ?_; (with_reducible refine (impl_Table_coins.calls k2 a0_0 _ _ l0_1 _ _ l0_2 x27_2 t390 _ ?side1 ?side2 ?side3 ?side4 A23.out).mono ?_); (case side1 => exact cd (Kd.C_below HR0_1.out HB.out)); (case side2 => exact HC0_1.out); (case side3 => exact cd (Kd.C_below HR0_2.out HB.out)); (case side4 => exact HC0_2.out); rintro e w26 ⟨rfl, hb⟩; refine ⟨_, rfl, ?_⟩; replace HO_6 := ak (Kd.R_below (rdl HO_6) hb); replace BK383 := ak (blk_below (blkd BK383) hb); replace HB := ak (below_step (belowg1 HB GE383) hb); (try clear hb)) | ((with_reducible refine gate_builtin (b := .append) (xs := #[.tmp 32, .tmp 38]) rfl ?_); (try (refine gate_guard (by rfl) ?_; dsimp only)); at_builtin; refine Kd.R_append (Kd.int .i64) (w0 := w) w.heap.size rfl (.tmp 32) (.tmp 38) 22 3 (.int .i64 0) 8 rfl Try.underlying22 info3 rfl (by decide) (by omega) u6 x6_2 (Go.bits .xor .i64 t390 (rd l1 x27_2)) [.int .i64 (Go.bits .xor .i64 t390 (rd l1 x27_2))] (fun _ => True) (fun _ => False) rfl rfl ?aP (fun _ hk => hk.elim) ?aF ?aO ?aB ?aS ?aL ?_; (case aP => exact rfl); (case aB => exact (belowg1 HB GE383)); (case aF => exact (fun _ _ => trivial)); (case aO => exact (rdl HO_6)); (case aS => exact (below_size (belowg1 HB GE383))); (case aL => have := LMc24.out; omega); intro v392 w27 ho hb hg hat; rw [← Ny391.out] at ho; replace BK383 := ak (blk_grown (blkd BK383) hg (Kd.R_ne HO_6.out BK383.out (by decide))); replace HB := ak (hb); have HO393 := ak (ho); clear HO_6; clear ho hb hg hat))
       go_roundg k2
       case measure => have := HJ2.out; have := HK2.out; omega
       case rel => exact ⟨(y391), (wrap64 (x27_2 + 1)), er, H', ⟨by have := HJ2.out; have := HK2.out; omega⟩, ⟨rdl HO393⟩, ⟨blkd BK383⟩, ⟨belowg1 HB GE383⟩⟩
      ·rw [if_neg c20] at H
       have c20b0 : decide (x27_2 < (l1.length : Int)) = false := decide_eq_false c20
       clear c20
       simp only [Option.some.injEq, Prod.mk.injEq] at H
       obtain ⟨rfl, rfl⟩ := H; go_wp2
       go_ret2
       exact ⟨_, er2, by (with_reducible repeat (first | apply Kd.R_alloc | apply Kd.R_drewN | apply Kd.R_drew)); exact HO_6.out, belowg1 HB GE383⟩

/-! ### spec_l15Coins: function 130 -/
def spec_l15Coins.l0 : Nat → Int → Int → List (List Int) → Int → Int → Int → List (List Int) → List Int → Option (Int)
  | 0, _, _, _, _, _, _, _, _ => none
  | k + 1, x1, x5, x9, x10, x11, x395000, x395001, x395002 => if x11 < x10 then (if 0 ≤ x11 then (if x11 < (x9.length : Int) then (if 0 < ((rd_L1 x9 x11).length : Int) then (if (rd (rd_L1 x9 x11) 0) = x1 then (if x11 < (x395002.length : Int) then (spec_l15Coins.l0 k x1 (Go.bits .xor .i64 x5 (rd x395002 x11)) x9 x10 (wrap64 (x11 + 1)) x395000 x395001 x395002) else (none)) else (if 1 < ((rd_L1 x9 x11).length : Int) then (if (rd (rd_L1 x9 x11) 1) = x1 then (if x11 < (x395002.length : Int) then (spec_l15Coins.l0 k x1 (Go.bits .xor .i64 x5 (rd x395002 x11)) x9 x10 (wrap64 (x11 + 1)) x395000 x395001 x395002) else (none)) else (spec_l15Coins.l0 k x1 x5 x9 x10 (wrap64 (x11 + 1)) x395000 x395001 x395002)) else (none))) else (none)) else (none)) else (none)) else (some x5)
def spec_l15Coins.f (k : Nat) (a0_0 : Int) (l0_1 : List (List Int)) (l0_2 : List Int) (a1 : Int) : Option (Int) := spec_l15Coins.l0 k a1 0 l0_1 (l0_1.length : Int) 0 a0_0 l0_1 l0_2
theorem spec_l15Coins.mono_l : ∀ k, (∀ y0 y1 y2 y3 y4 y5 y6 y7, LeO (spec_l15Coins.l0 k y0 y1 y2 y3 y4 y5 y6 y7) (spec_l15Coins.l0 (k + 1) y0 y1 y2 y3 y4 y5 y6 y7))
 | 0 => fun _ _ _ _ _ _ _ _ r h => by simp [spec_l15Coins.l0] at h
 | k + 1 => by
  have ih0 := spec_l15Coins.mono_l k
  ·intro y0 y1 y2 y3 y4 y5 y6 y7
   unfold spec_l15Coins.l0
   repeat' (first | (with_reducible first | exact ih0 _ _ _ _ _ _ _ _ | exact LeO.refl _ | exact LeO.none _ | refine LeO.ite ?_ ?_ | refine LeO.bind ?_ (fun _ => ?_)) | exact ih0 _ _ _ _ _ _ _ _ | exact LeO.none _ | refine LeO.ite ?_ ?_ | refine LeO.bind ?_ (fun _ => ?_))
theorem spec_l15Coins.mono : ∀ a0 a1 a2 a3 k, LeO (spec_l15Coins.f k a0 a1 a2 a3) (spec_l15Coins.f (k + 1) a0 a1 a2 a3) := by
 intro a0 a1 a2 a3 k
 have ih0 := spec_l15Coins.mono_l k
 unfold spec_l15Coins.f
 repeat' (first | (with_reducible first | exact ih0 _ _ _ _ _ _ _ _ | exact LeO.refl _ | exact LeO.none _ | refine LeO.ite ?_ ?_ | refine LeO.bind ?_ (fun _ => ?_)) | exact ih0 _ _ _ _ _ _ _ _ | exact LeO.none _ | refine LeO.ite ?_ ?_ | refine LeO.bind ?_ (fun _ => ?_))
set_option maxHeartbeats 8000000 in
set_option maxRecDepth 100000 in
theorem spec_l15Coins.calls (k : Nat) (a0_0 : Int) (A0_1 : Option Addr) (c0_1 : Nat) (l0_1 : List (List Int)) (A0_2 : Option Addr) (c0_2 : Nat) (l0_2 : List Int) (a1 : Int) (r : Int) (w : World) (hr0_1 : Kd.C (Kd.slice 3 (Kd.int .i64)) w A0_1 l0_1.length l0_1) (hc0_1 : l0_1.length ≤ c0_1) (hr0_2 : Kd.C (Kd.int .i64) w A0_2 l0_2.length l0_2) (hc0_2 : l0_2.length ≤ c0_2) (h : spec_l15Coins.f k a0_0 l0_1 l0_2 a1 = some r) :
  Calls Try.prog 130 #[.agg #[.int .i64 a0_0, .slice A0_1 l0_1.length c0_1, .slice A0_2 l0_2.length c0_2], .int .i64 a1] w fun e w' => e = .returned (.int .i64 r) ∧ Below w.heap.size w w' := by
 have hu38 := Try.underlying38
 have HR0_1 := Aside0.mk hr0_1; have HC0_1 := Aside0.mk hc0_1; clear hr0_1 hc0_1; have HR0_2 := Aside0.mk hr0_2; have HC0_2 := Aside0.mk hc0_2; clear hr0_2 hc0_2
 have HB := Aside0.mk (Below.refl w.heap.size w)
 have H : (spec_l15Coins.l0 k a1 0 l0_1 (l0_1.length : Int) 0 a0_0 l0_1 l0_2) = some r := h
 clear h
 have H' := Aside0.mk H
 clear H
 go_enter Try.func130, Try.ntmps130
 go_wp2_with (first | ((with_reducible refine gate_dst (N := 2) rfl ?_); refine boxev 2 #[.int .i64 a0_0, .slice A0_1 l0_1.length c0_1, .slice A0_2 l0_2.length c0_2] 38 ?_; intro gb394 hg w3 hbox hb; have BK394 := ak (hbox); have GW394 := ak (hgl hg (belowd HB)); have GE394 := ak (hgl hg (belowd HB)); replace HB := ak (below_step (belowd HB) hb); clear hb hbox hg; obtain ⟨hcz4_0, hcz4_1, hcz4_2, hfz4_0, hfz4_1, hfz4_2⟩ := box3 BK394))
 go_loopg [5, 11] k (fun kq v5 v11 w' => ∃ (x5_1 : Int) (x11_1 : Int), v5 = .int .i64 x5_1 ∧ v11 = .int .i64 x11_1 ∧ Aside0 (spec_l15Coins.l0 kq a1 x5_1 l0_1 (l0_1.length : Int) x11_1 a0_0 l0_1 l0_2 = some r) ∧ Aside0 (kq ≤ k) ∧ Aside0 (w'.heap[gb394]? = some (.cells #[.int .i64 a0_0, (.slice A0_1 l0_1.length c0_1), (.slice A0_2 l0_2.length c0_2)] 38 (0, 0))) ∧ Aside0 (Below w.heap.size w w'))
 case atStart => exact ⟨(0), (0), er, er, H', ⟨Nat.le_refl _⟩, ⟨blkd BK394⟩, ⟨belowg1 HB GE394⟩⟩
 case round =>
  clear H'
  (try clear hcz4_0); (try clear hcz4_1); (try clear hcz4_2); (try clear hfz4_0); (try clear hfz4_1); (try clear hfz4_2)
  obtain ⟨x5_1, x11_1, rfl, rfl, HA, HK1, BK394, HB⟩ := hrel
  cases gk with
  | zero => exact absurd HA.out (by simp [spec_l15Coins.l0])
  | succ k1 =>
   have H := HA.out; clear HA
   simp only [spec_l15Coins.l0] at H
   by_cases c5 : x11_1 < (l0_1.length : Int)
   ·rw [if_pos c5] at H
    have c5b0 : decide (x11_1 < (l0_1.length : Int)) = true := decide_eq_true c5
    clear c5; replace H := ifS H; obtain ⟨c6, H⟩ := H; have c6b0 := decide_eq_true c6; clear c6; replace H := ifS H; obtain ⟨c7, H⟩ := H; have c7b0 := decide_eq_true c7; clear c7; replace H := ifS H; obtain ⟨c8, H⟩ := H; have c8b0 := decide_eq_true c8
    have c8b1 : decide (0 < (rd_L1 l0_1 x11_1).length) = true := decide_eq_true (by omega)
    clear c8
    by_cases c9 : (rd (rd_L1 l0_1 x11_1) 0) = a1
    ·rw [if_pos c9] at H
     have c9b0 : ((rd (rd_L1 l0_1 x11_1) 0) == a1) = true := beq_iff_eq.mpr c9
     have c9b1 : ((rd (rd_L1 l0_1 x11_1) 0) != a1) = false := bne_eq_false_iff_eq.mpr c9
     clear c9; replace H := ifS H; obtain ⟨c10, H⟩ := H; have c10b0 := decide_eq_true c10; clear c10
     have H' := Aside0.mk H
     clear H
     have p395 : 0 ≤ (x11_1 : Int) := da
     have q395 : x11_1 < (l0_1.length : Int) := da
     obtain ⟨ad395, A395_0, c395_0, e395, hx395_0, hl395_0, hi395_0⟩ := at_L1 HR0_1.out x11_1 p395 q395
     cases e395
     replace hx395_0 := (HB.out.cell (World.block_lt_of_cell? w _ hx395_0)).trans hx395_0
     have HR395_0 := Aside0.mk hi395_0; have HC395_0 := Aside0.mk hl395_0; clear hi395_0 hl395_0; replace p395 := eq_true p395; replace q395 := eq_true q395
     have p396 : 0 ≤ (0 : Int) := (by omega)
     have q396 : 0 < ((rd_L1 l0_1 x11_1).length : Int) := da
     obtain ⟨ad396, e396, hx396_0⟩ := Kd.at_int HR395_0.out 0 p396 q396
     cases e396
     have qi396 : (0 < (rd_L1 l0_1 x11_1).length) = True := eq_true (by omega)
     (try rw [show ((0 : Int)).toNat = 0 from rfl] at hx396_0)
     (try rw [Addr.add_zero'] at hx396_0)
     replace hx396_0 := (HB.out.cell (World.block_lt_of_cell? w _ hx396_0)).trans hx396_0
     replace p396 := eq_true p396; replace q396 := eq_true q396; obtain ⟨hcz11_0, hcz11_1, hcz11_2, hfz11_0, hfz11_1, hfz11_2⟩ := box3 BK394
     have p397 : 0 ≤ (x11_1 : Int) := da
     have q397 : x11_1 < (l0_2.length : Int) := da
     obtain ⟨ad397, e397, hx397_0⟩ := Kd.at_int HR0_2.out x11_1 p397 q397
     cases e397
     replace hx397_0 := (HB.out.cell (World.block_lt_of_cell? w _ hx397_0)).trans hx397_0
     replace p397 := eq_true p397; replace q397 := eq_true q397; go_wp2
     go_roundg k1
     case measure => have := HK1.out; omega
     case rel => exact ⟨(Go.bits .xor .i64 x5_1 (rd l0_2 x11_1)), (wrap64 (x11_1 + 1)), er, er, H', ⟨by have := HK1.out; omega⟩, ⟨blkd BK394⟩, ⟨belowg1 HB GE394⟩⟩
    ·rw [if_neg c9] at H
     have c9b0 : ((rd (rd_L1 l0_1 x11_1) 0) == a1) = false := beq_eq_false_iff_ne.mpr c9
     have c9b1 : ((rd (rd_L1 l0_1 x11_1) 0) != a1) = true := bne_iff_ne.mpr c9
     replace H := ifS H; obtain ⟨c12, H⟩ := H; have c12b0 := decide_eq_true c12
     have c12b1 : decide (1 < (rd_L1 l0_1 x11_1).length) = true := decide_eq_true (by omega)
     clear c12
     by_cases c13 : (rd (rd_L1 l0_1 x11_1) 1) = a1
     ·rw [if_pos c13] at H
      have c13b0 : ((rd (rd_L1 l0_1 x11_1) 1) == a1) = true := beq_iff_eq.mpr c13
      have c13b1 : ((rd (rd_L1 l0_1 x11_1) 1) != a1) = false := bne_eq_false_iff_eq.mpr c13
      clear c13; replace H := ifS H; obtain ⟨c14, H⟩ := H; have c14b0 := decide_eq_true c14; clear c14
      have H' := Aside0.mk H
      clear H
      have p395 : 0 ≤ (x11_1 : Int) := da
      have q395 : x11_1 < (l0_1.length : Int) := da
      obtain ⟨ad395, A395_0, c395_0, e395, hx395_0, hl395_0, hi395_0⟩ := at_L1 HR0_1.out x11_1 p395 q395
      cases e395
      replace hx395_0 := (HB.out.cell (World.block_lt_of_cell? w _ hx395_0)).trans hx395_0
      have HR395_0 := Aside0.mk hi395_0; have HC395_0 := Aside0.mk hl395_0; clear hi395_0 hl395_0; replace p395 := eq_true p395; replace q395 := eq_true q395
      have p396 : 0 ≤ (0 : Int) := (by omega)
      have q396 : 0 < ((rd_L1 l0_1 x11_1).length : Int) := da
      obtain ⟨ad396, e396, hx396_0⟩ := Kd.at_int HR395_0.out 0 p396 q396
      cases e396
      have qi396 : (0 < (rd_L1 l0_1 x11_1).length) = True := eq_true (by omega)
      (try rw [show ((0 : Int)).toNat = 0 from rfl] at hx396_0)
      (try rw [Addr.add_zero'] at hx396_0)
      replace hx396_0 := (HB.out.cell (World.block_lt_of_cell? w _ hx396_0)).trans hx396_0
      replace p396 := eq_true p396; replace q396 := eq_true q396
      have p398 : 0 ≤ (1 : Int) := (by omega)
      have q398 : 1 < ((rd_L1 l0_1 x11_1).length : Int) := da
      obtain ⟨ad398, e398, hx398_0⟩ := Kd.at_int HR395_0.out 1 p398 q398
      obtain rfl : ad396 = ad398 := (by injection e398)
      (try simp only [show (1 : Int).toNat = 1 from rfl, Nat.reduceMul, Nat.reduceEqDiff, Go.Addr.add, ↓reduceIte] at hx398_0)
      have qi398 : (1 < (rd_L1 l0_1 x11_1).length) = True := eq_true (by omega)
      (try rw [show ((1 : Int)).toNat = 1 from rfl] at hx398_0)
      replace hx398_0 := (HB.out.cell (World.block_lt_of_cell? w _ hx398_0)).trans hx398_0
      replace p398 := eq_true p398; replace q398 := eq_true q398; obtain ⟨hcz15_0, hcz15_1, hcz15_2, hfz15_0, hfz15_1, hfz15_2⟩ := box3 BK394
      have p399 : 0 ≤ (x11_1 : Int) := da
      have q399 : x11_1 < (l0_2.length : Int) := da
      obtain ⟨ad399, e399, hx399_0⟩ := Kd.at_int HR0_2.out x11_1 p399 q399
      cases e399
      replace hx399_0 := (HB.out.cell (World.block_lt_of_cell? w _ hx399_0)).trans hx399_0
      replace p399 := eq_true p399; replace q399 := eq_true q399; go_wp2
      go_roundg k1
      case measure => have := HK1.out; omega
      case rel => exact ⟨(Go.bits .xor .i64 x5_1 (rd l0_2 x11_1)), (wrap64 (x11_1 + 1)), er, er, H', ⟨by have := HK1.out; omega⟩, ⟨blkd BK394⟩, ⟨belowg1 HB GE394⟩⟩
     ·rw [if_neg c13] at H
      have c13b0 : ((rd (rd_L1 l0_1 x11_1) 1) == a1) = false := beq_eq_false_iff_ne.mpr c13
      have c13b1 : ((rd (rd_L1 l0_1 x11_1) 1) != a1) = true := bne_iff_ne.mpr c13
      have H' := Aside0.mk H
      clear H
      have p395 : 0 ≤ (x11_1 : Int) := da
      have q395 : x11_1 < (l0_1.length : Int) := da
      obtain ⟨ad395, A395_0, c395_0, e395, hx395_0, hl395_0, hi395_0⟩ := at_L1 HR0_1.out x11_1 p395 q395
      cases e395
      replace hx395_0 := (HB.out.cell (World.block_lt_of_cell? w _ hx395_0)).trans hx395_0
      have HR395_0 := Aside0.mk hi395_0; have HC395_0 := Aside0.mk hl395_0; clear hi395_0 hl395_0; replace p395 := eq_true p395; replace q395 := eq_true q395
      have p396 : 0 ≤ (0 : Int) := (by omega)
      have q396 : 0 < ((rd_L1 l0_1 x11_1).length : Int) := da
      obtain ⟨ad396, e396, hx396_0⟩ := Kd.at_int HR395_0.out 0 p396 q396
      cases e396
      have qi396 : (0 < (rd_L1 l0_1 x11_1).length) = True := eq_true (by omega)
      (try rw [show ((0 : Int)).toNat = 0 from rfl] at hx396_0)
      (try rw [Addr.add_zero'] at hx396_0)
      replace hx396_0 := (HB.out.cell (World.block_lt_of_cell? w _ hx396_0)).trans hx396_0
      replace p396 := eq_true p396; replace q396 := eq_true q396
      have p398 : 0 ≤ (1 : Int) := (by omega)
      have q398 : 1 < ((rd_L1 l0_1 x11_1).length : Int) := da
      obtain ⟨ad398, e398, hx398_0⟩ := Kd.at_int HR395_0.out 1 p398 q398
      obtain rfl : ad396 = ad398 := (by injection e398)
      (try simp only [show (1 : Int).toNat = 1 from rfl, Nat.reduceMul, Nat.reduceEqDiff, Go.Addr.add, ↓reduceIte] at hx398_0)
      have qi398 : (1 < (rd_L1 l0_1 x11_1).length) = True := eq_true (by omega)
      (try rw [show ((1 : Int)).toNat = 1 from rfl] at hx398_0)
      replace hx398_0 := (HB.out.cell (World.block_lt_of_cell? w _ hx398_0)).trans hx398_0
      replace p398 := eq_true p398; replace q398 := eq_true q398; go_wp2
      go_roundg k1
      case measure => have := HK1.out; omega
      case rel => exact ⟨(x5_1), (wrap64 (x11_1 + 1)), er, er, H', ⟨by have := HK1.out; omega⟩, ⟨blkd BK394⟩, ⟨belowg1 HB GE394⟩⟩
   ·rw [if_neg c5] at H
    have c5b0 : decide (x11_1 < (l0_1.length : Int)) = false := decide_eq_false c5
    clear c5
    obtain rfl := Option.some.inj H
    go_wp2
    go_ret
    exact ⟨er2, belowg1 HB GE394⟩

/-! ### spec_TogetherSay: function 69 -/
mutual
def spec_TogetherSay.j0 : Nat → List Int → Bool → Int → List (List Int) → List Int → Option (List Int × Bool)
  | 0, _, _, _, _, _ => none
  | k + 1, x1, x23, x401000, x401001, x401002 => if x23 = true then (some (([] : List Int), false)) else (spec_TogetherSay.l0 k ([] : List Int) x1 (x1.length : Int) 0 x401000 x401001 x401002)
def spec_TogetherSay.l0 : Nat → List Int → List Int → Int → Int → Int → List (List Int) → List Int → Option (List Int × Bool)
  | 0, _, _, _, _, _, _, _ => none
  | k + 1, x6, x24, x25, x26, x401000, x401001, x401002 => if x26 < x25 then (if 0 ≤ x26 then (if x26 < (x24.length : Int) then ((spec_l15Coins.f k x401000 x401001 x401002 x26).bind fun t404 => (if x6.length < 17592186044416 then (spec_TogetherSay.l0 k (x6 ++ [Go.bits .xor .i64 t404 (rd x24 x26)]) x24 x25 (wrap64 (x26 + 1)) x401000 x401001 x401002) else (none))) else (none)) else (none)) else (some (x6, true))
end
def spec_TogetherSay.f (k : Nat) (a0_0 : Int) (l0_1 : List (List Int)) (l0_2 : List Int) (l1 : List Int) : Option (List Int × Bool) := (spec_GoodTable.f k a0_0 l0_1 l0_2).bind fun t401 => (if t401 = true then (if (l1.length : Int) = a0_0 then ((spec_l1All.f k l1 0 255).bind fun t402 => (spec_TogetherSay.j0 k l1 (!t402) a0_0 l0_1 l0_2)) else (spec_TogetherSay.j0 k l1 true a0_0 l0_1 l0_2)) else (spec_TogetherSay.j0 k l1 true a0_0 l0_1 l0_2))
theorem spec_TogetherSay.mono_l : ∀ k, (∀ y0 y1 y2 y3 y4, LeO (spec_TogetherSay.j0 k y0 y1 y2 y3 y4) (spec_TogetherSay.j0 (k + 1) y0 y1 y2 y3 y4)) ∧ (∀ y0 y1 y2 y3 y4 y5 y6, LeO (spec_TogetherSay.l0 k y0 y1 y2 y3 y4 y5 y6) (spec_TogetherSay.l0 (k + 1) y0 y1 y2 y3 y4 y5 y6))
 | 0 => ⟨fun _ _ _ _ _ r h => by simp [spec_TogetherSay.j0] at h, fun _ _ _ _ _ _ _ r h => by simp [spec_TogetherSay.l0] at h⟩
 | k + 1 => by
  obtain ⟨ih0, ih1⟩ := spec_TogetherSay.mono_l k
  refine ⟨?_, ?_⟩
  ·intro y0 y1 y2 y3 y4
   unfold spec_TogetherSay.j0
   repeat' (first | (with_reducible first | exact ih0 _ _ _ _ _ | exact ih1 _ _ _ _ _ _ _ | exact spec_GoodTable.mono _ _ _ _ | exact spec_l15Coins.mono _ _ _ _ _ | exact spec_l1All.mono _ _ _ _ | exact LeO.refl _ | exact LeO.none _ | refine LeO.ite ?_ ?_ | refine LeO.bind ?_ (fun _ => ?_)) | exact ih0 _ _ _ _ _ | exact ih1 _ _ _ _ _ _ _ | exact spec_GoodTable.mono _ _ _ _ | exact spec_l15Coins.mono _ _ _ _ _ | exact spec_l1All.mono _ _ _ _ | exact LeO.none _ | refine LeO.ite ?_ ?_ | refine LeO.bind ?_ (fun _ => ?_))
  ·intro y0 y1 y2 y3 y4 y5 y6
   unfold spec_TogetherSay.l0
   repeat' (first | (with_reducible first | exact ih0 _ _ _ _ _ | exact ih1 _ _ _ _ _ _ _ | exact spec_GoodTable.mono _ _ _ _ | exact spec_l15Coins.mono _ _ _ _ _ | exact spec_l1All.mono _ _ _ _ | exact LeO.refl _ | exact LeO.none _ | refine LeO.ite ?_ ?_ | refine LeO.bind ?_ (fun _ => ?_)) | exact ih0 _ _ _ _ _ | exact ih1 _ _ _ _ _ _ _ | exact spec_GoodTable.mono _ _ _ _ | exact spec_l15Coins.mono _ _ _ _ _ | exact spec_l1All.mono _ _ _ _ | exact LeO.none _ | refine LeO.ite ?_ ?_ | refine LeO.bind ?_ (fun _ => ?_))
theorem spec_TogetherSay.mono : ∀ a0 a1 a2 a3 k, LeO (spec_TogetherSay.f k a0 a1 a2 a3) (spec_TogetherSay.f (k + 1) a0 a1 a2 a3) := by
 intro a0 a1 a2 a3 k
 obtain ⟨ih0, ih1⟩ := spec_TogetherSay.mono_l k
 unfold spec_TogetherSay.f
 repeat' (first | (with_reducible first | exact ih0 _ _ _ _ _ | exact ih1 _ _ _ _ _ _ _ | exact spec_GoodTable.mono _ _ _ _ | exact spec_l15Coins.mono _ _ _ _ _ | exact spec_l1All.mono _ _ _ _ | exact LeO.refl _ | exact LeO.none _ | refine LeO.ite ?_ ?_ | refine LeO.bind ?_ (fun _ => ?_)) | exact ih0 _ _ _ _ _ | exact ih1 _ _ _ _ _ _ _ | exact spec_GoodTable.mono _ _ _ _ | exact spec_l15Coins.mono _ _ _ _ _ | exact spec_l1All.mono _ _ _ _ | exact LeO.none _ | refine LeO.ite ?_ ?_ | refine LeO.bind ?_ (fun _ => ?_))
set_option maxHeartbeats 8000000 in
set_option maxRecDepth 100000 in
theorem spec_TogetherSay.calls (k : Nat) (a0_0 : Int) (A0_1 : Option Addr) (c0_1 : Nat) (l0_1 : List (List Int)) (A0_2 : Option Addr) (c0_2 : Nat) (l0_2 : List Int) (A1 : Option Addr) (c1 : Nat) (l1 : List Int) (r1 : List Int) (r2 : Bool) (w : World) (hr0_1 : Kd.C (Kd.slice 3 (Kd.int .i64)) w A0_1 l0_1.length l0_1) (hc0_1 : l0_1.length ≤ c0_1) (hr0_2 : Kd.C (Kd.int .i64) w A0_2 l0_2.length l0_2) (hc0_2 : l0_2.length ≤ c0_2) (hr1 : Kd.C (Kd.int .i64) w A1 l1.length l1) (hc1 : l1.length ≤ c1) (h : spec_TogetherSay.f k a0_0 l0_1 l0_2 l1 = some (r1, r2)) :
  Calls Try.prog 69 #[.agg #[.int .i64 a0_0, .slice A0_1 l0_1.length c0_1, .slice A0_2 l0_2.length c0_2], .slice A1 l1.length c1] w fun e w' => ∃ v0_ : Value, e = .returned (.tuple #[v0_, .bool r2]) ∧ Kd.R (Kd.int .i64) 3 w' w.heap.size (fun _ => True) v0_ r1 ∧ Below w.heap.size w w' := by
 have hu38 := Try.underlying38
 have HR0_1 := Aside0.mk hr0_1; have HC0_1 := Aside0.mk hc0_1; clear hr0_1 hc0_1; have HR0_2 := Aside0.mk hr0_2; have HC0_2 := Aside0.mk hc0_2; clear hr0_2 hc0_2; have HR1 := Aside0.mk hr1; have HC1 := Aside0.mk hc1; clear hr1 hc1
 have HB := Aside0.mk (Below.refl w.heap.size w)
 have H : ((spec_GoodTable.f k a0_0 l0_1 l0_2).bind fun t401 => (if t401 = true then (if (l1.length : Int) = a0_0 then ((spec_l1All.f k l1 0 255).bind fun t402 => (spec_TogetherSay.j0 k l1 (!t402) a0_0 l0_1 l0_2)) else (spec_TogetherSay.j0 k l1 true a0_0 l0_1 l0_2)) else (spec_TogetherSay.j0 k l1 true a0_0 l0_1 l0_2))) = some (r1, r2) := h
 clear h; have HC3 := Aside0.mk H; clear H
 go_enter Try.func69, Try.ntmps69
 go_upto_region 1 with (first | ((with_reducible refine gate_dst (N := 2) rfl ?_); (try (refine gate_guard (by rfl) ?_; dsimp only)); refine boxev 2 #[.int .i64 a0_0, .slice A0_1 l0_1.length c0_1, .slice A0_2 l0_2.length c0_2] 38 ?_; intro gb400 hg w4 hbox hb; have BK400 := ak (hbox); have GW400 := ak (hgl hg (belowd HB)); have GE400 := ak (hgl hg (belowd HB)); replace HB := ak (below_step (belowd HB) hb); clear hb hbox hg))
 (try simp only [Act.put, List.setIfInBounds_toArray, List.set_cons_zero, List.set_cons_succ])
 go_cut [23] (fun v23 wc => ∃ (kq : Nat) (x23_2 : Bool), v23 = .bool x23_2 ∧ Aside0 (spec_TogetherSay.j0 kq l1 x23_2 a0_0 l0_1 l0_2 = some (r1, r2)) ∧ Aside0 (kq ≤ k) ∧ Aside0 (wc.heap[gb400]? = some (.cells #[.int .i64 a0_0, (.slice A0_1 l0_1.length c0_1), (.slice A0_2 l0_2.length c0_2)] 38 (0, 0))) ∧ Aside0 (Below w.heap.size w wc))
 case first =>
  have H := HC3.out; clear HC3; replace H := bS H; obtain ⟨t401, A5, H⟩ := H
  replace H : (if t401 = true then (if (l1.length : Int) = a0_0 then ((spec_l1All.f k l1 0 255).bind fun t402 => (spec_TogetherSay.j0 k l1 (!t402) a0_0 l0_1 l0_2)) else (spec_TogetherSay.j0 k l1 true a0_0 l0_1 l0_2)) else (spec_TogetherSay.j0 k l1 true a0_0 l0_1 l0_2)) = some (r1, r2) := H
  by_cases c6 : t401 = true
  ·subst c6
   have H1 : (if (l1.length : Int) = a0_0 then ((spec_l1All.f k l1 0 255).bind fun t402 => (spec_TogetherSay.j0 k l1 (!t402) a0_0 l0_1 l0_2)) else (spec_TogetherSay.j0 k l1 true a0_0 l0_1 l0_2)) = some (r1, r2) := by rw [if_pos rfl] at H; exact H
   clear H
   have H := H1
   clear H1
   by_cases c7 : (l1.length : Int) = a0_0
   ·rw [if_pos c7] at H
    have c7b0 : ((l1.length : Int) == a0_0) = true := beq_iff_eq.mpr c7
    have c7b1 : ((l1.length : Int) != a0_0) = false := bne_eq_false_iff_eq.mpr c7
    clear c7
    (first | rw [c7b0] | (simp only [i64_w, i32_w]; rw [c7b0]) | skip)
    replace H := bS H; obtain ⟨t402, A8, H⟩ := H
    replace H : (spec_TogetherSay.j0 k l1 (!t402) a0_0 l0_1 l0_2) = some (r1, r2) := H
    have H' := Aside0.mk H
    clear H; obtain ⟨hcz9_0, hcz9_1, hcz9_2, hfz9_0, hfz9_1, hfz9_2⟩ := box3 BK400
    go_wp2_with (first | ((with_reducible refine gate_callee (f := 60) rfl ?_); refine goesLa (some 10) rfl Try.func60 #[.agg #[.int .i64 a0_0, .slice A0_1 l0_1.length c0_1, .slice A0_2 l0_2.length c0_2]] rfl ?_; (with_reducible refine (spec_GoodTable.calls k a0_0 _ _ l0_1 _ _ l0_2 true _ ?side1 ?side2 ?side3 ?side4 A5.out).mono ?_); (case side1 => exact cd (Kd.C_below HR0_1.out HB.out)); (case side2 => exact HC0_1.out); (case side3 => exact cd (Kd.C_below HR0_2.out HB.out)); (case side4 => exact HC0_2.out); rintro e w10 ⟨rfl, hb⟩; refine ⟨_, rfl, ?_⟩; replace BK400 := ak (blk_below (blkd BK400) hb); replace HB := ak (below_step (belowg1 HB GE400) hb); (try clear hb); obtain ⟨hcz11_0, hcz11_1, hcz11_2, hfz11_0, hfz11_1, hfz11_2⟩ := box3 BK400) | (go_at_call 82; (with_reducible refine (spec_l1All.calls k _ _ l1 0 255 t402 _ ?side1 ?side2 A8.out).mono ?_); (case side1 => exact cd (Kd.C_below HR1.out HB.out)); (case side2 => exact HC1.out); rintro e w' ⟨rfl, ⟨nd, rfl⟩⟩))
    go_meet
    case rel => exact ⟨_, (!t402), er, H', ⟨by first | omega | exact Nat.le_refl _⟩, ⟨blkd BK400⟩, ⟨belowg1 HB GE400⟩⟩
   ·rw [if_neg c7] at H
    have c7b0 : ((l1.length : Int) == a0_0) = false := beq_eq_false_iff_ne.mpr c7
    have c7b1 : ((l1.length : Int) != a0_0) = true := bne_iff_ne.mpr c7
    (first | rw [c7b0] | (simp only [i64_w, i32_w]; rw [c7b0]) | skip)
    have H' := Aside0.mk H
    clear H; obtain ⟨hcz12_0, hcz12_1, hcz12_2, hfz12_0, hfz12_1, hfz12_2⟩ := box3 BK400
    go_wp2_with (first | ((with_reducible refine gate_callee (f := 60) rfl ?_); refine goesLa (some 10) rfl Try.func60 #[.agg #[.int .i64 a0_0, .slice A0_1 l0_1.length c0_1, .slice A0_2 l0_2.length c0_2]] rfl ?_; (with_reducible refine (spec_GoodTable.calls k a0_0 _ _ l0_1 _ _ l0_2 true _ ?side1 ?side2 ?side3 ?side4 A5.out).mono ?_); (case side1 => exact cd (Kd.C_below HR0_1.out HB.out)); (case side2 => exact HC0_1.out); (case side3 => exact cd (Kd.C_below HR0_2.out HB.out)); (case side4 => exact HC0_2.out); rintro e w13 ⟨rfl, hb⟩; refine ⟨_, rfl, ?_⟩; replace BK400 := ak (blk_below (blkd BK400) hb); replace HB := ak (below_step (belowg1 HB GE400) hb); (try clear hb); obtain ⟨hcz14_0, hcz14_1, hcz14_2, hfz14_0, hfz14_1, hfz14_2⟩ := box3 BK400))
    go_meet
    case rel => exact ⟨_, (true), er, H', ⟨by first | omega | exact Nat.le_refl _⟩, ⟨blkd BK400⟩, ⟨belowg1 HB GE400⟩⟩
  ·replace c6 := Bool.eq_false_iff.mpr c6
   subst c6
   have H1 : (spec_TogetherSay.j0 k l1 true a0_0 l0_1 l0_2) = some (r1, r2) := by rw [if_neg (show ¬ (false = true) by decide)] at H; exact H
   clear H
   have H := H1
   clear H1
   have H' := Aside0.mk H
   clear H; obtain ⟨hcz15_0, hcz15_1, hcz15_2, hfz15_0, hfz15_1, hfz15_2⟩ := box3 BK400
   go_wp2_with (first | ((with_reducible refine gate_callee (f := 60) rfl ?_); refine goesLa (some 10) rfl Try.func60 #[.agg #[.int .i64 a0_0, .slice A0_1 l0_1.length c0_1, .slice A0_2 l0_2.length c0_2]] rfl ?_; (with_reducible refine (spec_GoodTable.calls k a0_0 _ _ l0_1 _ _ l0_2 false _ ?side1 ?side2 ?side3 ?side4 A5.out).mono ?_); (case side1 => exact cd (Kd.C_below HR0_1.out HB.out)); (case side2 => exact HC0_1.out); (case side3 => exact cd (Kd.C_below HR0_2.out HB.out)); (case side4 => exact HC0_2.out); rintro e w16 ⟨rfl, hb⟩; refine ⟨_, rfl, ?_⟩; replace BK400 := ak (blk_below (blkd BK400) hb); replace HB := ak (below_step (belowg1 HB GE400) hb); (try clear hb)))
   go_meet
   case rel => exact ⟨_, (true), er, H', ⟨by first | omega | exact Nat.le_refl _⟩, ⟨blkd BK400⟩, ⟨belowg1 HB GE400⟩⟩
 case rest =>
  clear HC3; (try clear c1)
  obtain ⟨kq, x23_2, rfl, HA, HJ2, BK400, HB⟩ := hcut
  cases kq with
  | zero => exact absurd HA.out (by simp [spec_TogetherSay.j0])
  | succ kj2 =>
   have H := HA.out; clear HA
   simp only [spec_TogetherSay.j0] at H
   by_cases c17 : x23_2 = true
   ·subst c17
    have H1 : (some (([] : List Int), false)) = some (r1, r2) := by rw [if_pos rfl] at H; exact H
    clear H
    have H := H1
    clear H1
    simp only [Option.some.injEq, Prod.mk.injEq] at H
    obtain ⟨rfl, rfl⟩ := H; go_wp2
    go_ret2
    exact ⟨_, er2, by first | exact Kd.R_nil _ _ _ _ _ | exact Kd.N_nil _ _ _ _ _ | exact Kd.V_nil _ _ _ _ _ | exact Kd.Q_nil _ _ _ _ _ | exact Kd.S_nil _ _ _ _ _, belowg1 HB GE400⟩
   ·replace c17 := Bool.eq_false_iff.mpr c17
    subst c17
    have H1 : (spec_TogetherSay.l0 kj2 ([] : List Int) l1 (l1.length : Int) 0 a0_0 l0_1 l0_2) = some (r1, r2) := by rw [if_neg (show ¬ (false = true) by decide)] at H; exact H
    clear H
    have H := H1
    clear H1
    have H' := Aside0.mk H
    clear H; go_wp2
    go_loopg [6, 26] kj2 (fun kq v6 v26 w' => ∃ (x6_2 : List Int) (x26_2 : Int), v26 = .int .i64 x26_2 ∧ Aside0 (spec_TogetherSay.l0 kq x6_2 l1 (l1.length : Int) x26_2 a0_0 l0_1 l0_2 = some (r1, r2)) ∧ Aside0 (kq ≤ kj2) ∧ Aside0 (Kd.R (Kd.int .i64) 3 w' w.heap.size (fun _ => True) v6 x6_2) ∧ Aside0 (w'.heap[gb400]? = some (.cells #[.int .i64 a0_0, (.slice A0_1 l0_1.length c0_1), (.slice A0_2 l0_2.length c0_2)] 38 (0, 0))) ∧ Aside0 (Below w.heap.size w w'))
    case atStart => exact ⟨(([] : List Int)), (0), er, H', ⟨Nat.le_refl _⟩, ⟨by first | exact Kd.R_nil _ _ _ _ _ | exact Kd.N_nil _ _ _ _ _ | exact Kd.V_nil _ _ _ _ _ | exact Kd.Q_nil _ _ _ _ _ | exact Kd.S_nil _ _ _ _ _⟩, ⟨blkd BK400⟩, ⟨belowg1 HB GE400⟩⟩
    case round =>
     clear H'
     (try clear c17)
     obtain ⟨x6_2, x26_2, rfl, HA, HK2, HO_6, BK400, HB⟩ := hrel
     cases gk with
     | zero => exact absurd HA.out (by simp [spec_TogetherSay.l0])
     | succ k2 =>
      have H := HA.out; clear HA
      simp only [spec_TogetherSay.l0] at H
      by_cases c18 : x26_2 < (l1.length : Int)
      ·rw [if_pos c18] at H
       have c18b0 : decide (x26_2 < (l1.length : Int)) = true := decide_eq_true c18
       clear c18; replace H := ifS H; obtain ⟨c19, H⟩ := H; have c19b0 := decide_eq_true c19; clear c19; replace H := ifS H; obtain ⟨c20, H⟩ := H; have c20b0 := decide_eq_true c20; clear c20; replace H := bS H; obtain ⟨t404, A21, H⟩ := H
       replace H : (if x6_2.length < 17592186044416 then (spec_TogetherSay.l0 k2 (x6_2 ++ [Go.bits .xor .i64 t404 (rd l1 x26_2)]) l1 (l1.length : Int) (wrap64 (x26_2 + 1)) a0_0 l0_1 l0_2) else (none)) = some (r1, r2) := H
       replace H := ifS H; obtain ⟨c22, H⟩ := H; have LMc22 := Aside0.mk c22; clear c22
       obtain ⟨y405, hy_⟩ : ∃ y_ : List Int, y_ = (x6_2 ++ [Go.bits .xor .i64 t404 (rd l1 x26_2)]) := ⟨_, rfl⟩
       replace H : (spec_TogetherSay.l0 k2 y405 l1 (l1.length : Int) (wrap64 (x26_2 + 1)) a0_0 l0_1 l0_2) = some (r1, r2) := yH
       have Ny405 := ak hy_; clear hy_
       have H' := Aside0.mk H
       clear H
       have p403 : 0 ≤ (x26_2 : Int) := da
       have q403 : x26_2 < (l1.length : Int) := da
       obtain ⟨ad403, e403, hx403_0⟩ := Kd.at_int HR1.out x26_2 p403 q403
       cases e403
       replace hx403_0 := (HB.out.cell (World.block_lt_of_cell? w _ hx403_0)).trans hx403_0
       replace p403 := eq_true p403; replace q403 := eq_true q403; obtain ⟨hcz23_0, hcz23_1, hcz23_2, hfz23_0, hfz23_1, hfz23_2⟩ := box3 BK400
       go_wp2_with (first | ((with_reducible refine gate_callee (f := 130) rfl ?_); refine goesLa (some 34) rfl Try.func130 #[.agg #[.int .i64 a0_0, .slice A0_1 l0_1.length c0_1, .slice A0_2 l0_2.length c0_2], .int .i64 x26_2] rfl ?_; (with_reducible refine (spec_l15Coins.calls k2 a0_0 _ _ l0_1 _ _ l0_2 x26_2 t404 _ ?side1 ?side2 ?side3 ?side4 A21.out).mono ?_); (case side1 => exact cd (Kd.C_below HR0_1.out HB.out)); (case side2 => exact HC0_1.out); (case side3 => exact cd (Kd.C_below HR0_2.out HB.out)); (case side4 => exact HC0_2.out); rintro e w24 ⟨rfl, hb⟩; refine ⟨_, rfl, ?_⟩; replace HO_6 := ak (Kd.R_below (rdl HO_6) hb); replace BK400 := ak (blk_below (blkd BK400) hb); replace HB := ak (below_step (belowg1 HB GE400) hb); (try clear hb)) | ((with_reducible refine gate_builtin (b := .append) (xs := #[.tmp 31, .tmp 37]) rfl ?_); (try (refine gate_guard (by rfl) ?_; dsimp only)); at_builtin; refine Kd.R_append (Kd.int .i64) (w0 := w) w.heap.size rfl (.tmp 31) (.tmp 37) 22 3 (.int .i64 0) 8 rfl Try.underlying22 info3 rfl (by decide) (by omega) u6 x6_2 (Go.bits .xor .i64 t404 (rd l1 x26_2)) [.int .i64 (Go.bits .xor .i64 t404 (rd l1 x26_2))] (fun _ => True) (fun _ => False) rfl rfl ?aP (fun _ hk => hk.elim) ?aF ?aO ?aB ?aS ?aL ?_; (case aP => exact rfl); (case aB => exact (belowg1 HB GE400)); (case aF => exact (fun _ _ => trivial)); (case aO => exact (rdl HO_6)); (case aS => exact (below_size (belowg1 HB GE400))); (case aL => have := LMc22.out; omega); intro v406 w25 ho hb hg hat; rw [← Ny405.out] at ho; replace BK400 := ak (blk_grown (blkd BK400) hg (Kd.R_ne HO_6.out BK400.out (by decide))); replace HB := ak (hb); have HO407 := ak (ho); clear HO_6; clear ho hb hg hat))
       go_roundg k2
       case measure => have := HJ2.out; have := HK2.out; omega
       case rel => exact ⟨(y405), (wrap64 (x26_2 + 1)), er, H', ⟨by have := HJ2.out; have := HK2.out; omega⟩, ⟨rdl HO407⟩, ⟨blkd BK400⟩, ⟨belowg1 HB GE400⟩⟩
      ·rw [if_neg c18] at H
       have c18b0 : decide (x26_2 < (l1.length : Int)) = false := decide_eq_false c18
       clear c18
       simp only [Option.some.injEq, Prod.mk.injEq] at H
       obtain ⟨rfl, rfl⟩ := H; go_wp2
       go_ret2
       exact ⟨_, er2, by (with_reducible repeat (first | apply Kd.R_alloc | apply Kd.R_drewN | apply Kd.R_drew)); exact HO_6.out, belowg1 HB GE400⟩

/-! ### spec_DrawWayBetween: function 70 -/
def spec_DrawWayBetween.f (k : Nat) (l0 : List Int) : Option (Int × (List (List Int)) × List Int × Int × Int) := (spec_l1Cur_table.f k l0 0 0).bind fun bt410 => ((spec_l1Cur_pick.f l0 bt410.2.2.2.1 bt410.2.2.2.2 (wrap64 (bt410.1 + 1))).bind fun bt420 => ((spec_l1Cur_pick.f l0 bt420.2.1 bt420.2.2 9).bind fun bt423 => ((spec_l1Cur_pick.f l0 bt423.2.1 bt423.2.2 (wrap64 (bt410.1 + 1))).bind fun bt426 => (some (bt410.1, bt410.2.1, bt410.2.2.1, wrap64 (bt420.1 - (wrap64 (Int.tdiv bt423.1 8))), bt426.1)))))
theorem spec_DrawWayBetween.mono : ∀ a0 k, LeO (spec_DrawWayBetween.f k a0) (spec_DrawWayBetween.f (k + 1) a0) := by
 intro a0 k
 unfold spec_DrawWayBetween.f
 repeat' (first | (with_reducible first | exact spec_l1Cur_table.mono _ _ _ _ | exact LeO.refl _ | exact LeO.none _ | refine LeO.ite ?_ ?_ | refine LeO.bind ?_ (fun _ => ?_)) | exact spec_l1Cur_table.mono _ _ _ _ | exact LeO.none _ | refine LeO.ite ?_ ?_ | refine LeO.bind ?_ (fun _ => ?_))
def spec_DrawWayBetween.T3 : Bool × List (List Nat × List Nat) := (true, [([], []), ([], []), ([], []), ([2], [2]), ([3], [3]), ([1, 4], [1, 4]), ([], []), ([6, 5], [6]), ([7], [7]), ([5, 8], [5, 8]), ([], []), ([], []), ([11], [11]), ([12], [12]), ([10, 13, 7], [10, 13]), ([0, 14, 0], [0]), ([9, 15, 0, 1, 2, 3, 4, 5, 6, 7, 8, 9, 15], [9]), ([14, 16, 0, 1, 2, 3, 4, 5, 6, 7, 8, 9, 10, 11, 12, 13, 14, 15, 16], [14])])
def spec_DrawWayBetween.B3 : List Nat := [0, 0, 0, 4, 12, 30, 0, 126, 254, 510, 0, 0, 2048, 6144, 15614, 31999, 65535, 131071]
theorem spec_DrawWayBetween.tab3 : rtab .any (opsOf Try.f70 3) = spec_DrawWayBetween.T3 := by kernel_rfl
theorem spec_DrawWayBetween.bits3 : waitsOk spec_DrawWayBetween.T3.2 spec_DrawWayBetween.B3 = true := by kernel_rfl
set_option maxHeartbeats 8000000 in
set_option maxRecDepth 100000 in
theorem spec_DrawWayBetween.calls (k : Nat) (A0 : Option Addr) (c0 : Nat) (l0 : List Int) (r1 : Int) (r2 : List (List Int)) (r3 : List Int) (r4 : Int) (r5 : Int) (w : World) (hr0 : Kd.C (Kd.int .u8) w A0 l0.length l0) (hc0 : l0.length ≤ c0) (h : spec_DrawWayBetween.f k l0 = some (r1, r2, r3, r4, r5)) :
  Calls Try.prog 70 #[.slice A0 l0.length c0] w fun e w' => ∃ v1_ v2_ : Value, e = .returned (.tuple #[.agg #[.int .i64 r1, v1_, v2_], .int .i64 r4, .int .i64 r5]) ∧ Kd.S (Kd.slice 3 (Kd.int .i64)) 22 w' w.heap.size (fun k_ => some k_ ≠ (v2_ : Value).ownBlock) v1_ r2 ∧ Kd.R (Kd.int .i64) 3 w' w.heap.size (fun _ => True) v2_ r3 ∧ Below w.heap.size w w' := by
 have hu38 := Try.underlying38
 have hu123 := Try.underlying123
 have HR0 := Aside0.mk hr0; have HC0 := Aside0.mk hc0; clear hr0 hc0
 have HB := Aside0.mk (Below.refl w.heap.size w)
 have H : ((spec_l1Cur_table.f k l0 0 0).bind fun bt410 => ((spec_l1Cur_pick.f l0 bt410.2.2.2.1 bt410.2.2.2.2 (wrap64 (bt410.1 + 1))).bind fun bt420 => ((spec_l1Cur_pick.f l0 bt420.2.1 bt420.2.2 9).bind fun bt423 => ((spec_l1Cur_pick.f l0 bt423.2.1 bt423.2.2 (wrap64 (bt410.1 + 1))).bind fun bt426 => (some (bt410.1, bt410.2.1, bt410.2.2.1, wrap64 (bt420.1 - (wrap64 (Int.tdiv bt423.1 8))), bt426.1)))))) = some (r1, r2, r3, r4, r5) := h
 clear h; replace H := bS H; obtain ⟨⟨t410, t411, t414, t417, t418⟩, A2, H⟩ := H
 replace H : ((spec_l1Cur_pick.f l0 t417 t418 (wrap64 (t410 + 1))).bind fun bt420 => ((spec_l1Cur_pick.f l0 bt420.2.1 bt420.2.2 9).bind fun bt423 => ((spec_l1Cur_pick.f l0 bt423.2.1 bt423.2.2 (wrap64 (t410 + 1))).bind fun bt426 => (some (t410, t411, t414, wrap64 (bt420.1 - (wrap64 (Int.tdiv bt423.1 8))), bt426.1))))) = some (r1, r2, r3, r4, r5) := H
 replace H := bS H; obtain ⟨⟨t420, t421, t422⟩, A3, H⟩ := H
 replace H : ((spec_l1Cur_pick.f l0 t421 t422 9).bind fun bt423 => ((spec_l1Cur_pick.f l0 bt423.2.1 bt423.2.2 (wrap64 (t410 + 1))).bind fun bt426 => (some (t410, t411, t414, wrap64 (t420 - (wrap64 (Int.tdiv bt423.1 8))), bt426.1)))) = some (r1, r2, r3, r4, r5) := H
 replace H := bS H; obtain ⟨⟨t423, t424, t425⟩, A4, H⟩ := H
 replace H : ((spec_l1Cur_pick.f l0 t424 t425 (wrap64 (t410 + 1))).bind fun bt426 => (some (t410, t411, t414, wrap64 (t420 - (wrap64 (Int.tdiv t423 8))), bt426.1))) = some (r1, r2, r3, r4, r5) := H
 replace H := bS H; obtain ⟨⟨t426, t427, t428⟩, A5, H⟩ := H
 replace H : (some (t410, t411, t414, wrap64 (t420 - (wrap64 (Int.tdiv t423 8))), t426)) = some (r1, r2, r3, r4, r5) := H
 simp only [Option.some.injEq, Prod.mk.injEq] at H
 obtain ⟨rfl, rfl, rfl, rfl, rfl⟩ := H
 go_enter Try.func70, Try.ntmps70
 try go_wp2_with (first | ((with_reducible refine gate_dst (N := 2) rfl ?_); refine boxev 2 #[.int .i64 0, .slice none 0 0, .slice none 0 0] 38 ?_; intro gb408 hg w6 hbox hb; have BK408 := ak (hbox); have GW408 := ak (hgl hg (belowd HB)); have GE408 := ak (hgl hg (belowd HB)); replace HB := ak (below_step (belowd HB) hb); clear hb hbox hg) | ((with_reducible refine gate_dst (N := 9) rfl ?_); refine boxev 9 #[.slice A0 l0.length c0, .int .i64 0, .int .u64 0] 123 ?_; intro gb409 hg w7 hbox hb; have HI409 := ak ((show IsS123 w w7 gb409 l0 0 0 from IsS123.of_blk hbox (by rw [hg]; exact (below_size (belowg1 HB GE408))) HR0.out)); replace HB := ak (below_step (belowg1 HB GE408) hb); have NB408_409 := ak ((by rw [hg]; exact Nat.ne_of_lt (blk_lt (blkd BK408)) : gb408 ≠ gb409)); have NB409_408 := ak ((by rw [hg]; exact Nat.ne_of_gt (blk_lt (blkd BK408)) : gb409 ≠ gb408)); replace BK408 := ak (blk_below (blkd BK408) hb); clear hb hbox hg) | ((with_reducible refine gate_callee (f := 122) rfl ?_); refine goesLa (some 11) rfl Try.func122 #[.pointer (some ⟨gb409, 0, none⟩)] rfl ?_; (with_reducible refine (spec_l1Cur_table.calls k gb409 l0 0 0 t410 t411 t414 t417 t418 w _ ?side1 ?side2 A2.out).mono ?_); (case side1 => repeat (first | (with_reducible first | exact HI409.out | apply IsS123.alloc | apply IsS123.drewN | apply IsS123.drew | apply IsS123.set_1 | apply IsS123.set_2 | refine IsS123.far ?_ NB409_408.out _) | exact HI409.out)); (case side2 => repeat (first | (with_reducible first | exact HB.out | apply below_alloc | apply pw_below_drewN | apply below_drew1 | refine below_set ?_ (IsS123.ge HI409.out) | refine below_set ?_ GE408.out) | exact HB.out)); rintro e w8 ⟨v412, v415, rfl, ho0, ho1, hi, hb, hk⟩; refine ⟨_, rfl, ?_⟩; replace BK408 := ak (KeepBut.blk hk (g' := gb408) (blkd BK408) NB408_409.out (by simp)); have HO413 := ak (Kd.S_lower ho0 (below_size (by repeat (first | (with_reducible first | exact HB.out | apply below_alloc | apply pw_below_drewN | apply below_drew1 | refine below_set ?_ (IsS123.ge HI409.out) | refine below_set ?_ GE408.out) | exact HB.out)))); have HO416 := ak (Kd.R_lower ho1 (below_size (by repeat (first | (with_reducible first | exact HB.out | apply below_alloc | apply pw_below_drewN | apply below_drew1 | refine below_set ?_ (IsS123.ge HI409.out) | refine below_set ?_ GE408.out) | exact HB.out)))); replace HB := ak (hb); replace HI409 := ak (hi); (try clear hb); (try clear hk); (try clear hi); (try clear ho0); (try clear ho1)) | ((with_reducible refine gate_dst (N := 6) rfl ?_); refine boxev 6 #[.int .i64 0, .slice none 0 0, .slice none 0 0] 38 ?_; intro gb419 hg w9 hbox hb; replace HO413 := ak (Kd.S_below (sd HO413) hb); replace HO416 := ak (Kd.R_below (rdl HO416) hb); have BK419 := ak (hbox); have GW419 := ak ((by rw [hg]; exact (below_size (by repeat (first | (with_reducible first | exact HB.out | apply below_alloc | apply pw_below_drewN | apply below_drew1 | refine below_set ?_ (IsS123.ge HI409.out) | refine below_set ?_ GE408.out) | exact HB.out))) : w.heap.size ≤ gb419)); have GE419 := ak ((by rw [hg]; exact (below_size (by repeat (first | (with_reducible first | exact HB.out | apply below_alloc | apply pw_below_drewN | apply below_drew1 | refine below_set ?_ (IsS123.ge HI409.out) | refine below_set ?_ GE408.out) | exact HB.out))) : w.heap.size ≤ gb419)); replace HB := ak (below_step (by repeat (first | (with_reducible first | exact HB.out | apply below_alloc | apply pw_below_drewN | apply below_drew1 | refine below_set ?_ (IsS123.ge HI409.out) | refine below_set ?_ GE408.out) | exact HB.out)) hb); have NB408_419 := ak ((by rw [hg]; exact Nat.ne_of_lt (blk_lt (blkd BK408)) : gb408 ≠ gb419)); have NB419_408 := ak ((by rw [hg]; exact Nat.ne_of_gt (blk_lt (blkd BK408)) : gb419 ≠ gb408)); replace BK408 := ak (blk_below (blkd BK408) hb); have NB409_419 := ak ((by rw [hg]; exact Nat.ne_of_lt (IsS123.lt (show IsS123 w _ gb409 l0 t417 t418 from by repeat (first | (with_reducible first | exact HI409.out | apply IsS123.alloc | apply IsS123.drewN | apply IsS123.drew | apply IsS123.set_1 | apply IsS123.set_2 | refine IsS123.far ?_ NB409_408.out _) | exact HI409.out))) : gb409 ≠ gb419)); have NB419_409 := ak ((by rw [hg]; exact Nat.ne_of_gt (IsS123.lt (show IsS123 w _ gb409 l0 t417 t418 from by repeat (first | (with_reducible first | exact HI409.out | apply IsS123.alloc | apply IsS123.drewN | apply IsS123.drew | apply IsS123.set_1 | apply IsS123.set_2 | refine IsS123.far ?_ NB409_408.out _) | exact HI409.out))) : gb419 ≠ gb409)); replace HI409 := ak (IsS123.below (by repeat (first | (with_reducible first | exact HI409.out | apply IsS123.alloc | apply IsS123.drewN | apply IsS123.drew | apply IsS123.set_1 | apply IsS123.set_2 | refine IsS123.far ?_ NB409_408.out _) | exact HI409.out)) hb); clear hb hbox hg; have hnb10 := NB419_408.out; have hnc10 := NB408_419.out; have hnb11 := NB419_409.out; have hnc11 := NB409_419.out; obtain ⟨hcz12_0, hcz12_1, hcz12_2, hfz12_0, hfz12_1, hfz12_2⟩ := box3 BK419; obtain ⟨Ao13, co13, eo13⟩ := Kd.S_slice HO413.out; subst eo13; obtain ⟨Ao14, co14, eo14⟩ := Kd.R_slice HO416.out; subst eo14))
 have n0_ : Aside0 (Kd.S (Kd.slice 3 (Kd.int .i64)) 22 (((w9.setCell ⟨gb419, 0, none⟩ (.int .i64 t410)).setCell ⟨gb419, 1, none⟩ (.slice Ao13 t411.length co13)).setCell ⟨gb419, 2, none⟩ (.slice Ao14 t414.length co14)) w.heap.size (fun k_ => some k_ ≠ (.slice Ao14 t414.length co14 : Value).ownBlock) (.slice Ao13 t411.length co13) t411) := ⟨by (with_reducible repeat (first | apply Kd.S_alloc | apply Kd.S_drewN | apply Kd.S_drew)); exact Kd.S_mono (Kd.S_far (p := ⟨gb419, 2, none⟩) (Kd.S_far (p := ⟨gb419, 1, none⟩) (Kd.S_far (p := ⟨gb419, 0, none⟩) (Kd.S_types HO413.out BK419.out (by decide)) (fun _ hk => hk.2) (.int .i64 t410)) (fun _ hk => hk.2) (.slice Ao13 t411.length co13)) (fun _ hk => hk.2) (.slice Ao14 t414.length co14)) (fun _ hk => hk.1)⟩
 have n1_ : Aside0 (Kd.R (Kd.int .i64) 3 (((w9.setCell ⟨gb419, 0, none⟩ (.int .i64 t410)).setCell ⟨gb419, 1, none⟩ (.slice Ao13 t411.length co13)).setCell ⟨gb419, 2, none⟩ (.slice Ao14 t414.length co14)) w.heap.size (fun _ => True) (.slice Ao14 t414.length co14) t414) := ⟨by (with_reducible repeat (first | apply Kd.R_alloc | apply Kd.R_drewN | apply Kd.R_drew)); exact Kd.R_mono (Kd.R_far (p := ⟨gb419, 2, none⟩) (Kd.R_far (p := ⟨gb419, 1, none⟩) (Kd.R_far (p := ⟨gb419, 0, none⟩) (Kd.R_types HO416.out BK419.out (by decide)) (fun _ hk => hk.2) (.int .i64 t410)) (fun _ hk => hk.2) (.slice Ao13 t411.length co13)) (fun _ hk => hk.2) (.slice Ao14 t414.length co14)) (fun _ hk => trivial)⟩
 have n2_ : Aside0 ((((w9.setCell ⟨gb419, 0, none⟩ (.int .i64 t410)).setCell ⟨gb419, 1, none⟩ (.slice Ao13 t411.length co13)).setCell ⟨gb419, 2, none⟩ (.slice Ao14 t414.length co14)).heap[gb408]? = some (.cells #[.int .i64 0, .slice none 0 0, .slice none 0 0] 38 (0, 0))) := ⟨by (with_reducible repeat (first | refine blk_drewN ?_ _ | refine blk_drew ?_ | refine blk_alloc ?_ _)); refine blk_far ?_ NB408_419.out _; (with_reducible repeat (first | refine blk_drewN ?_ _ | refine blk_drew ?_ | refine blk_alloc ?_ _)); refine blk_far ?_ NB408_419.out _; (with_reducible repeat (first | refine blk_drewN ?_ _ | refine blk_drew ?_ | refine blk_alloc ?_ _)); refine blk_far ?_ NB408_419.out _; (with_reducible repeat (first | refine blk_drewN ?_ _ | refine blk_drew ?_ | refine blk_alloc ?_ _)); exact BK408.out⟩
 have n3_ : Aside0 ((((w9.setCell ⟨gb419, 0, none⟩ (.int .i64 t410)).setCell ⟨gb419, 1, none⟩ (.slice Ao13 t411.length co13)).setCell ⟨gb419, 2, none⟩ (.slice Ao14 t414.length co14)).heap[gb419]? = some (.cells #[.int .i64 t410, .slice Ao13 t411.length co13, .slice Ao14 t414.length co14] 38 (0, 0))) := ⟨by (with_reducible repeat (first | refine blk_drewN ?_ _ | refine blk_drew ?_ | refine blk_alloc ?_ _)); refine blk_put (cs := #[.int .i64 t410, .slice Ao13 t411.length co13, .slice none 0 0]) ?_ 2 _ rfl; (with_reducible repeat (first | refine blk_drewN ?_ _ | refine blk_drew ?_ | refine blk_alloc ?_ _)); refine blk_put (cs := #[.int .i64 t410, .slice none 0 0, .slice none 0 0]) ?_ 1 _ rfl; (with_reducible repeat (first | refine blk_drewN ?_ _ | refine blk_drew ?_ | refine blk_alloc ?_ _)); refine blk_put (cs := #[.int .i64 0, .slice none 0 0, .slice none 0 0]) ?_ 0 _ rfl; (with_reducible repeat (first | refine blk_drewN ?_ _ | refine blk_drew ?_ | refine blk_alloc ?_ _)); exact BK419.out⟩
 have n4_ : Aside0 (IsS123 w (((w9.setCell ⟨gb419, 0, none⟩ (.int .i64 t410)).setCell ⟨gb419, 1, none⟩ (.slice Ao13 t411.length co13)).setCell ⟨gb419, 2, none⟩ (.slice Ao14 t414.length co14)) gb409 l0 t417 t418) := ⟨by repeat (first | (with_reducible first | exact HI409.out | apply IsS123.alloc | apply IsS123.drewN | apply IsS123.drew | apply IsS123.set_1 | apply IsS123.set_2 | refine IsS123.far ?_ NB409_408.out _ | refine IsS123.far ?_ NB409_419.out _) | exact HI409.out)⟩
 have n5_ : Aside0 (Below w.heap.size w (((w9.setCell ⟨gb419, 0, none⟩ (.int .i64 t410)).setCell ⟨gb419, 1, none⟩ (.slice Ao13 t411.length co13)).setCell ⟨gb419, 2, none⟩ (.slice Ao14 t414.length co14))) := ⟨by repeat (first | (with_reducible first | exact HB.out | apply below_alloc | apply pw_below_drewN | apply below_drew1 | refine below_set ?_ (IsS123.ge HI409.out) | refine below_set ?_ GE408.out | refine below_set ?_ GE419.out) | exact HB.out)⟩
 (try clear HO413); (try clear HO416); (try clear BK408); (try clear BK419); (try clear HI409); (try clear HB)
 generalize (((w9.setCell ⟨gb419, 0, none⟩ (.int .i64 t410)).setCell ⟨gb419, 1, none⟩ (.slice Ao13 t411.length co13)).setCell ⟨gb419, 2, none⟩ (.slice Ao14 t414.length co14)) = w15 at n0_ n1_ n2_ n3_ n4_ n5_ ⊢
 have HO413 := n0_
 have HO416 := n1_
 have BK408 := n2_
 have BK419 := n3_
 have HI409 := n4_
 have HB := n5_
 clear n0_ n1_ n2_ n3_ n4_ n5_
 replace HO413 := ak (Kd.S_drew HO413.out)
 replace HO416 := ak (Kd.R_drew HO416.out)
 replace BK408 := ak (blk_drew BK408.out)
 replace BK419 := ak (blk_drew BK419.out)
 replace HI409 := ak (IsS123.drew HI409.out)
 replace HB := ak (below_drew1 HB.out)
 refine start_ (n := 18) (S := fun w' => w'.cell? ⟨gb419, 0, none⟩ = some (.int .i64 t410) ∧ w'.cell? ⟨gb419, 1, none⟩ = some (.slice Ao13 t411.length co13) ∧ w'.cell? ⟨gb419, 2, none⟩ = some (.slice Ao14 t414.length co14)) (ds := []) (bl 18 0) (by kernel_rfl) rfl rfl ⟨bq BK419 0, bq BK419 1, bq BK419 2⟩ (fun hHeld => ?_); refine with_tabW spec_DrawWayBetween.tab3 spec_DrawWayBetween.bits3 (fun HT_ HW_ => ?_)
 generalize w15.drew = w16 at HO413 HO416 BK408 BK419 HI409 HB hHeld ⊢
 refine pureA 1 (some 13) 18 2 HT_ ?_
 refine pureA 2 (some 14) 18 6 HT_ ?_
 refine pureA 6 (some 18) 18 70 HT_ ?_
 refine pureA 10 (some 22) 18 1094 HT_ ?_
 refine pureA 11 (some 23) 18 3142 HT_ ?_
 refine takeA 0 (some 12) 18 3143 HT_ HW_ hHeld ?_ (hy := by rintro w' ⟨s0, s1, s2⟩; go_simp; with_reducible rfl)
 refine takeA 3 (some 15) 18 3151 HT_ HW_ hHeld ?_ (hy := by rintro w' ⟨s0, s1, s2⟩; go_simp; with_reducible rfl)
 refine pureA 4 (some 16) 18 3167 HT_ ?_
 refine takeA 12 (some 24) 18 7263 HT_ HW_ hHeld ?_ (hy := by rintro w' ⟨s0, s1, s2⟩; go_simp; with_reducible rfl)
 refine pureA 13 (some 25) 18 15455 HT_ ?_
 refine oneA 5 (some 17) 18 15487 HT_ (fun K hK => ?_)
 refine goes_ Try.func113 (by kernel_rfl) rfl #[.pointer (some ⟨gb409, 0, none⟩), .int .i64 (wrap64 (t410 + 1))] (by rfl) rfl rfl (by (try simp only [List.map_toArray, List.map_cons, List.map_nil]); first | done | rfl | (simp only [List.length_drop, List.length_take]; rfl)) ?_
 with_reducible refine (spec_l1Cur_pick.calls gb409 l0 t417 t418 (wrap64 (t410 + 1)) t420 t421 t422 w _ ?side1 ?side2 A3.out).mono ?_
 (case side1 => repeat (first | (with_reducible first | exact HI409.out | apply IsS123.alloc | apply IsS123.drewN | apply IsS123.drew | apply IsS123.set_1 | apply IsS123.set_2 | refine IsS123.far ?_ NB409_408.out _ | refine IsS123.far ?_ NB409_419.out _) | exact HI409.out))
 (case side2 => repeat (first | (with_reducible first | exact HB.out | apply below_alloc | apply pw_below_drewN | apply below_drew1 | refine below_set ?_ (IsS123.ge HI409.out) | refine below_set ?_ GE408.out | refine below_set ?_ GE419.out) | exact HB.out))
 rintro e w17 ⟨rfl, hi, hb, hk⟩
 refine ⟨_, rfl, ?_⟩
 replace BK408 := ak (KeepBut.blk hk (g' := gb408) (blkd BK408) NB408_409.out (by simp))
 replace HO413 := ak (Kd.S_mono (Kd.S_keep (IsS123.apartS (show IsS123 w _ gb409 l0 t417 t418 from by repeat (first | (with_reducible first | exact HI409.out | apply IsS123.alloc | apply IsS123.drewN | apply IsS123.drew | apply IsS123.set_1 | apply IsS123.set_2 | refine IsS123.far ?_ NB409_408.out _ | refine IsS123.far ?_ NB409_419.out _) | exact HI409.out)) (sd HO413) (by decide)) hk (fun _ h => h.2)) (fun _ h => h.1))
 replace HO416 := ak (Kd.R_mono (Kd.R_keep (IsS123.apart (show IsS123 w _ gb409 l0 t417 t418 from by repeat (first | (with_reducible first | exact HI409.out | apply IsS123.alloc | apply IsS123.drewN | apply IsS123.drew | apply IsS123.set_1 | apply IsS123.set_2 | refine IsS123.far ?_ NB409_408.out _ | refine IsS123.far ?_ NB409_419.out _) | exact HI409.out)) (rdl HO416) (by decide)) hk (fun _ h => h.2)) (fun _ h => h.1))
 replace BK419 := ak (KeepBut.blk hk (g' := gb419) (blkd BK419) NB419_409.out (by simp))
 replace HB := ak (hb)
 replace HI409 := ak (hi)
 (try clear hb); (try clear hb2); (try clear hk); (try clear hi)
 refine hK.out _ _ ⟨bq BK419 0, bq BK419 1, bq BK419 2⟩ (fun hHeld => ?_)
 clear hK K
 refine norm_ (a' := ?_) ?_ ?_
 rotate_left
 ·show Act.put _ (some 17) _ = _
  simp only [Act.put, List.setIfInBounds_toArray, List.set_cons_zero, List.set_cons_succ, i64_w, i32_w]
  rfl
 refine oneA 7 (some 19) 18 15615 HT_ (fun K hK => ?_)
 refine goes_ Try.func113 (by kernel_rfl) rfl #[.pointer (some ⟨gb409, 0, none⟩), .int .i64 9] (by rfl) rfl rfl (by (try simp only [List.map_toArray, List.map_cons, List.map_nil]); first | done | rfl | (simp only [List.length_drop, List.length_take]; rfl)) ?_
 with_reducible refine (spec_l1Cur_pick.calls gb409 l0 t421 t422 9 t423 t424 t425 w _ ?side1 ?side2 A4.out).mono ?_
 (case side1 => repeat (first | (with_reducible first | exact HI409.out | apply IsS123.alloc | apply IsS123.drewN | apply IsS123.drew | apply IsS123.set_1 | apply IsS123.set_2 | refine IsS123.far ?_ NB409_408.out _ | refine IsS123.far ?_ NB409_419.out _) | exact HI409.out))
 (case side2 => repeat (first | (with_reducible first | exact HB.out | apply below_alloc | apply pw_below_drewN | apply below_drew1 | refine below_set ?_ (IsS123.ge HI409.out) | refine below_set ?_ GE408.out | refine below_set ?_ GE419.out) | exact HB.out))
 rintro e w18 ⟨rfl, hi, hb, hk⟩
 refine ⟨_, rfl, ?_⟩
 replace BK408 := ak (KeepBut.blk hk (g' := gb408) (blkd BK408) NB408_409.out (by simp))
 replace HO413 := ak (Kd.S_mono (Kd.S_keep (IsS123.apartS (show IsS123 w _ gb409 l0 t421 t422 from by repeat (first | (with_reducible first | exact HI409.out | apply IsS123.alloc | apply IsS123.drewN | apply IsS123.drew | apply IsS123.set_1 | apply IsS123.set_2 | refine IsS123.far ?_ NB409_408.out _ | refine IsS123.far ?_ NB409_419.out _) | exact HI409.out)) (sd HO413) (by decide)) hk (fun _ h => h.2)) (fun _ h => h.1))
 replace HO416 := ak (Kd.R_mono (Kd.R_keep (IsS123.apart (show IsS123 w _ gb409 l0 t421 t422 from by repeat (first | (with_reducible first | exact HI409.out | apply IsS123.alloc | apply IsS123.drewN | apply IsS123.drew | apply IsS123.set_1 | apply IsS123.set_2 | refine IsS123.far ?_ NB409_408.out _ | refine IsS123.far ?_ NB409_419.out _) | exact HI409.out)) (rdl HO416) (by decide)) hk (fun _ h => h.2)) (fun _ h => h.1))
 replace BK419 := ak (KeepBut.blk hk (g' := gb419) (blkd BK419) NB419_409.out (by simp))
 replace HB := ak (hb)
 replace HI409 := ak (hi)
 (try clear hb); (try clear hb2); (try clear hk); (try clear hi)
 refine hK.out _ _ ⟨bq BK419 0, bq BK419 1, bq BK419 2⟩ (fun hHeld => ?_)
 clear hK K
 refine norm_ (a' := ?_) ?_ ?_
 rotate_left
 ·show Act.put _ (some 19) _ = _
  simp only [Act.put, List.setIfInBounds_toArray, List.set_cons_zero, List.set_cons_succ, i64_w, i32_w]
  rfl
 refine pureA 8 (some 20) 18 15871 HT_ ?_
 refine pureA 9 (some 21) 18 16383 HT_ ?_
 refine oneA 14 (some 26) 18 32767 HT_ (fun K hK => ?_)
 refine goes_ Try.func113 (by kernel_rfl) rfl #[.pointer (some ⟨gb409, 0, none⟩), .int .i64 (wrap64 (t410 + 1))] (by rfl) rfl rfl (by (try simp only [List.map_toArray, List.map_cons, List.map_nil]); first | done | rfl | (simp only [List.length_drop, List.length_take]; rfl)) ?_
 with_reducible refine (spec_l1Cur_pick.calls gb409 l0 t424 t425 (wrap64 (t410 + 1)) t426 t427 t428 w _ ?side1 ?side2 A5.out).mono ?_
 (case side1 => repeat (first | (with_reducible first | exact HI409.out | apply IsS123.alloc | apply IsS123.drewN | apply IsS123.drew | apply IsS123.set_1 | apply IsS123.set_2 | refine IsS123.far ?_ NB409_408.out _ | refine IsS123.far ?_ NB409_419.out _) | exact HI409.out))
 (case side2 => repeat (first | (with_reducible first | exact HB.out | apply below_alloc | apply pw_below_drewN | apply below_drew1 | refine below_set ?_ (IsS123.ge HI409.out) | refine below_set ?_ GE408.out | refine below_set ?_ GE419.out) | exact HB.out))
 rintro e w19 ⟨rfl, hi, hb, hk⟩
 refine ⟨_, rfl, ?_⟩
 replace BK408 := ak (KeepBut.blk hk (g' := gb408) (blkd BK408) NB408_409.out (by simp))
 replace HO413 := ak (Kd.S_mono (Kd.S_keep (IsS123.apartS (show IsS123 w _ gb409 l0 t424 t425 from by repeat (first | (with_reducible first | exact HI409.out | apply IsS123.alloc | apply IsS123.drewN | apply IsS123.drew | apply IsS123.set_1 | apply IsS123.set_2 | refine IsS123.far ?_ NB409_408.out _ | refine IsS123.far ?_ NB409_419.out _) | exact HI409.out)) (sd HO413) (by decide)) hk (fun _ h => h.2)) (fun _ h => h.1))
 replace HO416 := ak (Kd.R_mono (Kd.R_keep (IsS123.apart (show IsS123 w _ gb409 l0 t424 t425 from by repeat (first | (with_reducible first | exact HI409.out | apply IsS123.alloc | apply IsS123.drewN | apply IsS123.drew | apply IsS123.set_1 | apply IsS123.set_2 | refine IsS123.far ?_ NB409_408.out _ | refine IsS123.far ?_ NB409_419.out _) | exact HI409.out)) (rdl HO416) (by decide)) hk (fun _ h => h.2)) (fun _ h => h.1))
 replace BK419 := ak (KeepBut.blk hk (g' := gb419) (blkd BK419) NB419_409.out (by simp))
 replace HB := ak (hb)
 replace HI409 := ak (hi)
 (try clear hb); (try clear hb2); (try clear hk); (try clear hi)
 refine hK.out _ _ ⟨bq BK419 0, bq BK419 1, bq BK419 2⟩ (fun hHeld => ?_)
 clear hK K
 refine norm_ (a' := ?_) ?_ ?_
 rotate_left
 ·show Act.put _ (some 26) _ = _
  simp only [Act.put, List.setIfInBounds_toArray, List.set_cons_zero, List.set_cons_succ, i64_w, i32_w]
  rfl
 refine oneA 15 none 18 65535 HT_ (fun K hK => ?_)
 have hs20 : w19.cell? ⟨gb408, 0, none⟩ = some (.int .i64 0) := bq BK408 0
 have hfs20 := blk_frozen BK408.out 0
 have hns20_1 := NB419_408.out; have hms20_1 := NB408_419.out
 have hs21 : w19.cell? ⟨gb408, 1, none⟩ = some (.slice none 0 0) := bq BK408 1
 have hfs21 := blk_frozen BK408.out 1
 have hns21_1 := NB419_408.out; have hms21_1 := NB408_419.out
 have hs22 : w19.cell? ⟨gb408, 2, none⟩ = some (.slice none 0 0) := bq BK408 2
 have hfs22 := blk_frozen BK408.out 2
 have hns22_1 := NB419_408.out; have hms22_1 := NB408_419.out
 refine skip_ (w1 := ?_) (by rfl) rfl ?_ ?_
 rotate_left
 ·go_simp
  rfl
 refine hK.out _ _ ⟨((cell_far (p := ⟨gb408, _, none⟩) NB419_408.out _).trans (((cell_far (p := ⟨gb408, _, none⟩) NB419_408.out _).trans (((cell_far (p := ⟨gb408, _, none⟩) NB419_408.out _).trans (hHeld.1)))))), ((cell_far (p := ⟨gb408, _, none⟩) NB419_408.out _).trans (((cell_far (p := ⟨gb408, _, none⟩) NB419_408.out _).trans (((cell_far (p := ⟨gb408, _, none⟩) NB419_408.out _).trans (hHeld.2.1)))))), ((cell_far (p := ⟨gb408, _, none⟩) NB419_408.out _).trans (((cell_far (p := ⟨gb408, _, none⟩) NB419_408.out _).trans (((cell_far (p := ⟨gb408, _, none⟩) NB419_408.out _).trans (hHeld.2.2))))))⟩ (fun hHeld => ?_)
 clear hK K
 refine pureA 16 (some 3) 18 131071 HT_ ?_
 refine pureA 17 (some 4) 18 262143 HT_ ?_
 refine done_ (done_of HT_.out (by kernel_rfl)) ?_
 try go_wp2
 refine bodyPost_ret (results_ctt rfl _ _ gb408 38 #[.int .i64 t410, .slice Ao13 t411.length co13, .slice Ao14 t414.length co14] (0, 0) _ rfl (by (with_reducible repeat (first | refine blk_drewN ?_ _ | refine blk_drew ?_ | refine blk_alloc ?_ _)); refine blk_put (cs := #[.int .i64 t410, .slice Ao13 t411.length co13, .slice none 0 0]) ?_ 2 _ rfl; (with_reducible repeat (first | refine blk_drewN ?_ _ | refine blk_drew ?_ | refine blk_alloc ?_ _)); refine blk_put (cs := #[.int .i64 t410, .slice none 0 0, .slice none 0 0]) ?_ 1 _ rfl; (with_reducible repeat (first | refine blk_drewN ?_ _ | refine blk_drew ?_ | refine blk_alloc ?_ _)); refine blk_put (cs := #[.int .i64 0, .slice none 0 0, .slice none 0 0]) ?_ 0 _ rfl; (with_reducible repeat (first | refine blk_drewN ?_ _ | refine blk_drew ?_ | refine blk_alloc ?_ _)); exact BK408.out) Try.underlying38 rfl (by kernel_rfl)) rfl ?_
 exact ⟨_, _, er2, by (with_reducible repeat (first | apply Kd.S_alloc | apply Kd.S_drewN | apply Kd.S_drew)); exact Kd.S_mono (Kd.S_far (p := ⟨gb408, 2, none⟩) (Kd.S_far (p := ⟨gb408, 1, none⟩) (Kd.S_far (p := ⟨gb408, 0, none⟩) (Kd.S_types HO413.out BK408.out (by decide)) (fun _ hk => hk.2) (.int .i64 t410)) (fun _ hk => hk.2) (.slice Ao13 t411.length co13)) (fun _ hk => hk.2) (.slice Ao14 t414.length co14)) (fun _ hk => hk.1), by (with_reducible repeat (first | apply Kd.R_alloc | apply Kd.R_drewN | apply Kd.R_drew)); exact Kd.R_mono (Kd.R_far (p := ⟨gb408, 2, none⟩) (Kd.R_far (p := ⟨gb408, 1, none⟩) (Kd.R_far (p := ⟨gb408, 0, none⟩) (Kd.R_types HO416.out BK408.out (by decide)) (fun _ hk => hk.2) (.int .i64 t410)) (fun _ hk => hk.2) (.slice Ao13 t411.length co13)) (fun _ hk => hk.2) (.slice Ao14 t414.length co14)) (fun _ hk => trivial), by repeat (first | (with_reducible first | exact HB.out | apply below_alloc | apply pw_below_drewN | apply below_drew1 | refine below_set ?_ (IsS123.ge HI409.out) | refine below_set ?_ GE408.out | refine below_set ?_ GE419.out) | exact HB.out)⟩

/-! ### spec_DrawSumOf: function 71 -/
def spec_DrawSumOf.l0 : Nat → List Int → Int → List Int → Int → Int → Option (List Int)
  | 0, _, _, _, _, _ => none
  | k + 1, x4, x5, x430000, x430001, x430002 => if x5 > 0 then ((spec_l1Cur_pick.f x430000 x430001 x430002 256).bind fun bt433 => (if x4.length < 17592186044416 then (spec_DrawSumOf.l0 k (x4 ++ [bt433.1]) (wrap64 (x5 - 1)) x430000 bt433.2.1 bt433.2.2) else (none))) else (if (x4.length : Int) > 0 then ((spec_l1Cur_one.f x430000 x430001 x430002 12).bind fun bt439 => (if bt439.1 = true then ((spec_l1Cur_among.f x430000 bt439.2.1 bt439.2.2 (([(-1), 256] : List Int))).bind fun bt445 => (if 0 < (x4.length : Int) then (some (x4.set (0 : Int).toNat bt445.1)) else (none))) else (some x4))) else (some x4))
def spec_DrawSumOf.f (k : Nat) (l0 : List Int) : Option (List Int) := (spec_l1Cur_pick.f l0 0 0 8).bind fun bt430 => (spec_DrawSumOf.l0 k ([] : List Int) bt430.1 l0 bt430.2.1 bt430.2.2)
theorem spec_DrawSumOf.mono_l : ∀ k, (∀ y0 y1 y2 y3 y4, LeO (spec_DrawSumOf.l0 k y0 y1 y2 y3 y4) (spec_DrawSumOf.l0 (k + 1) y0 y1 y2 y3 y4))
 | 0 => fun _ _ _ _ _ r h => by simp [spec_DrawSumOf.l0] at h
 | k + 1 => by
  have ih0 := spec_DrawSumOf.mono_l k
  ·intro y0 y1 y2 y3 y4
   unfold spec_DrawSumOf.l0
   repeat' (first | (with_reducible first | exact ih0 _ _ _ _ _ | exact LeO.refl _ | exact LeO.none _ | refine LeO.ite ?_ ?_ | refine LeO.bind ?_ (fun _ => ?_)) | exact ih0 _ _ _ _ _ | exact LeO.none _ | refine LeO.ite ?_ ?_ | refine LeO.bind ?_ (fun _ => ?_))
theorem spec_DrawSumOf.mono : ∀ a0 k, LeO (spec_DrawSumOf.f k a0) (spec_DrawSumOf.f (k + 1) a0) := by
 intro a0 k
 have ih0 := spec_DrawSumOf.mono_l k
 unfold spec_DrawSumOf.f
 repeat' (first | (with_reducible first | exact ih0 _ _ _ _ _ | exact LeO.refl _ | exact LeO.none _ | refine LeO.ite ?_ ?_ | refine LeO.bind ?_ (fun _ => ?_)) | exact ih0 _ _ _ _ _ | exact LeO.none _ | refine LeO.ite ?_ ?_ | refine LeO.bind ?_ (fun _ => ?_))
set_option maxHeartbeats 8000000 in
set_option maxRecDepth 100000 in
theorem spec_DrawSumOf.calls (k : Nat) (A0 : Option Addr) (c0 : Nat) (l0 : List Int) (r : List Int) (w : World) (hr0 : Kd.C (Kd.int .u8) w A0 l0.length l0) (hc0 : l0.length ≤ c0) (h : spec_DrawSumOf.f k l0 = some r) :
  Calls Try.prog 71 #[.slice A0 l0.length c0] w fun e w' => ∃ v0_ : Value, e = .returned (v0_) ∧ Kd.R (Kd.int .i64) 3 w' w.heap.size (fun _ => True) v0_ r ∧ Below w.heap.size w w' := by
 have hu123 := Try.underlying123
 have HR0 := Aside0.mk hr0; have HC0 := Aside0.mk hc0; clear hr0 hc0
 have HB := Aside0.mk (Below.refl w.heap.size w)
 have H : ((spec_l1Cur_pick.f l0 0 0 8).bind fun bt430 => (spec_DrawSumOf.l0 k ([] : List Int) bt430.1 l0 bt430.2.1 bt430.2.2)) = some r := h
 clear h; replace H := bS H; obtain ⟨⟨t430, t431, t432⟩, A2, H⟩ := H
 replace H : (spec_DrawSumOf.l0 k ([] : List Int) t430 l0 t431 t432) = some r := H
 have H' := Aside0.mk H
 clear H
 go_enter Try.func71, Try.ntmps71
 go_wp2_with (first | ((with_reducible refine gate_dst (N := 8) rfl ?_); refine boxev 8 #[.slice A0 l0.length c0, .int .i64 0, .int .u64 0] 123 ?_; intro gb429 hg w3 hbox hb; have HI429 := ak ((show IsS123 w w3 gb429 l0 0 0 from IsS123.of_blk hbox (by rw [hg]; exact (below_size (belowd HB))) HR0.out)); replace HB := ak (below_step (belowd HB) hb); clear hb hbox hg) | ((with_reducible refine gate_callee (f := 113) rfl ?_); refine goesLa (some 10) rfl Try.func113 #[.pointer (some ⟨gb429, 0, none⟩), .int .i64 8] rfl ?_; (with_reducible refine (spec_l1Cur_pick.calls gb429 l0 0 0 8 t430 t431 t432 w _ ?side1 ?side2 A2.out).mono ?_); (case side1 => repeat (first | (with_reducible first | exact HI429.out | apply IsS123.alloc | apply IsS123.drewN | apply IsS123.drew | apply IsS123.set_1 | apply IsS123.set_2) | exact HI429.out)); (case side2 => repeat (first | (with_reducible first | exact HB.out | apply below_alloc | apply pw_below_drewN | apply below_drew1 | refine below_set ?_ (IsS123.ge HI429.out)) | exact HB.out)); rintro e w4 ⟨rfl, hi, hb, hk⟩; refine ⟨_, rfl, ?_⟩; replace HB := ak (hb); replace HI429 := ak (hi); (try clear hb); (try clear hk); (try clear hi)))
 go_loopg [4, 5] k (fun kq v4 v5 w' => ∃ (x4_1 : List Int) (x5_1 : Int) (x430001_1 : Int) (x430002_1 : Int), v5 = .int .i64 x5_1 ∧ Aside0 (spec_DrawSumOf.l0 kq x4_1 x5_1 l0 x430001_1 x430002_1 = some r) ∧ Aside0 (kq ≤ k) ∧ Aside0 (Kd.R (Kd.int .i64) 3 w' w.heap.size (fun _ => True) v4 x4_1) ∧ Aside0 (IsS123 w w' gb429 l0 x430001_1 x430002_1) ∧ Aside0 (Below w.heap.size w w'))
 case atStart => exact ⟨(([] : List Int)), (t430), (t431), (t432), er, H', ⟨Nat.le_refl _⟩, ⟨by first | exact Kd.R_nil _ _ _ _ _ | exact Kd.N_nil _ _ _ _ _ | exact Kd.V_nil _ _ _ _ _ | exact Kd.Q_nil _ _ _ _ _ | exact Kd.S_nil _ _ _ _ _⟩, ⟨by repeat (first | (with_reducible first | exact HI429.out | apply IsS123.alloc | apply IsS123.drewN | apply IsS123.drew | apply IsS123.set_1 | apply IsS123.set_2) | exact HI429.out)⟩, ⟨by repeat (first | (with_reducible first | exact HB.out | apply below_alloc | apply pw_below_drewN | apply below_drew1 | refine below_set ?_ (IsS123.ge HI429.out)) | exact HB.out)⟩⟩
 case round =>
  clear H'
  obtain ⟨x4_1, x5_1, x430001_1, x430002_1, rfl, HA, HK1, HO_4, HI429, HB⟩ := hrel
  cases gk with
  | zero => exact absurd HA.out (by simp [spec_DrawSumOf.l0])
  | succ k1 =>
   have H := HA.out; clear HA
   simp only [spec_DrawSumOf.l0] at H
   by_cases c5 : x5_1 > 0
   ·rw [if_pos c5] at H
    have c5b0 : decide (0 < x5_1) = true := decide_eq_true c5
    clear c5; replace H := bS H; obtain ⟨⟨t433, t434, t435⟩, A6, H⟩ := H
    replace H : (if x4_1.length < 17592186044416 then (spec_DrawSumOf.l0 k1 (x4_1 ++ [t433]) (wrap64 (x5_1 - 1)) l0 t434 t435) else (none)) = some r := H
    replace H := ifS H; obtain ⟨c7, H⟩ := H; have LMc7 := Aside0.mk c7; clear c7
    obtain ⟨y436, hy_⟩ : ∃ y_ : List Int, y_ = (x4_1 ++ [t433]) := ⟨_, rfl⟩
    replace H : (spec_DrawSumOf.l0 k1 y436 (wrap64 (x5_1 - 1)) l0 t434 t435) = some r := yH
    have Ny436 := ak hy_; clear hy_
    have H' := Aside0.mk H
    clear H
    go_wp2_with (first | ((with_reducible refine gate_callee (f := 113) rfl ?_); refine goesLa (some 17) rfl Try.func113 #[.pointer (some ⟨gb429, 0, none⟩), .int .i64 256] rfl ?_; (with_reducible refine (spec_l1Cur_pick.calls gb429 l0 x430001_1 x430002_1 256 t433 t434 t435 w _ ?side1 ?side2 A6.out).mono ?_); (case side1 => repeat (first | (with_reducible first | exact HI429.out | apply IsS123.alloc | apply IsS123.drewN | apply IsS123.drew | apply IsS123.set_1 | apply IsS123.set_2) | exact HI429.out)); (case side2 => repeat (first | (with_reducible first | exact HB.out | apply below_alloc | apply pw_below_drewN | apply below_drew1 | refine below_set ?_ (IsS123.ge HI429.out)) | exact HB.out)); rintro e w8 ⟨rfl, hi, hb, hk⟩; refine ⟨_, rfl, ?_⟩; replace HO_4 := ak (Kd.R_mono (Kd.R_keep (IsS123.apart (show IsS123 w _ gb429 l0 x430001_1 x430002_1 from by repeat (first | (with_reducible first | exact HI429.out | apply IsS123.alloc | apply IsS123.drewN | apply IsS123.drew | apply IsS123.set_1 | apply IsS123.set_2) | exact HI429.out)) (rdl HO_4) (by decide)) hk (fun _ h => h.2)) (fun _ h => h.1)); replace HB := ak (hb); replace HI429 := ak (hi); (try clear hb); (try clear hk); (try clear hi)) | ((with_reducible refine gate_builtin (b := .append) (xs := #[.tmp 15, .tmp 18]) rfl ?_); at_builtin; refine Kd.R_append (Kd.int .i64) (w0 := w) w.heap.size rfl (.tmp 15) (.tmp 18) 22 3 (.int .i64 0) 8 rfl Try.underlying22 info3 rfl (by decide) (by omega) u4 x4_1 t433 [.int .i64 t433] (fun _ => True) (fun _ => False) rfl rfl ?aP (fun _ hk => hk.elim) ?aF ?aO ?aB ?aS ?aL ?_; (case aP => exact rfl); (case aB => exact (by repeat (first | (with_reducible first | exact HB.out | apply below_alloc | apply pw_below_drewN | apply below_drew1 | refine below_set ?_ (IsS123.ge HI429.out)) | exact HB.out))); (case aF => exact (fun _ _ => trivial)); (case aO => exact (rdl HO_4)); (case aS => exact (below_size (by repeat (first | (with_reducible first | exact HB.out | apply below_alloc | apply pw_below_drewN | apply below_drew1 | refine below_set ?_ (IsS123.ge HI429.out)) | exact HB.out)))); (case aL => have := LMc7.out; omega); intro v437 w9 ho hb hg hat; rw [← Ny436.out] at ho; replace HI429 := ak (IsS123.grown (by repeat (first | (with_reducible first | exact HI429.out | apply IsS123.alloc | apply IsS123.drewN | apply IsS123.drew | apply IsS123.set_1 | apply IsS123.set_2) | exact HI429.out)) hg (IsS123.own_ne HI429.out HO_4.out (by decide))); replace HB := ak (hb); have HO438 := ak (ho); clear HO_4; clear ho hb hg hat))
    go_roundg k1
    case measure => have := HK1.out; omega
    case rel => exact ⟨(y436), (wrap64 (x5_1 - 1)), (t434), (t435), er, H', ⟨by have := HK1.out; omega⟩, ⟨rdl HO438⟩, ⟨by repeat (first | (with_reducible first | exact HI429.out | apply IsS123.alloc | apply IsS123.drewN | apply IsS123.drew | apply IsS123.set_1 | apply IsS123.set_2) | exact HI429.out)⟩, ⟨by repeat (first | (with_reducible first | exact HB.out | apply below_alloc | apply pw_below_drewN | apply below_drew1 | refine below_set ?_ (IsS123.ge HI429.out)) | exact HB.out)⟩⟩
   ·rw [if_neg c5] at H
    have c5b0 : decide (0 < x5_1) = false := decide_eq_false c5
    clear c5
    by_cases c10 : (x4_1.length : Int) > 0
    ·rw [if_pos c10] at H
     have c10b0 : decide (0 < (x4_1.length : Int)) = true := decide_eq_true c10
     have c10b1 : decide (0 < x4_1.length) = true := decide_eq_true (by omega)
     clear c10; replace H := bS H; obtain ⟨⟨t439, t440, t441⟩, A11, H⟩ := H
     replace H : (if t439 = true then ((spec_l1Cur_among.f l0 t440 t441 (([(-1), 256] : List Int))).bind fun bt445 => (if 0 < (x4_1.length : Int) then (some (x4_1.set (0 : Int).toNat bt445.1)) else (none))) else (some x4_1)) = some r := H
     by_cases c12 : t439 = true
     ·subst c12
      have H1 : ((spec_l1Cur_among.f l0 t440 t441 (([(-1), 256] : List Int))).bind fun bt445 => (if 0 < (x4_1.length : Int) then (some (x4_1.set (0 : Int).toNat bt445.1)) else (none))) = some r := by rw [if_pos rfl] at H; exact H
      clear H
      have H := H1
      clear H1
      obtain ⟨y442, hy_⟩ : ∃ y_ : List Int, y_ = (([(-1), 256] : List Int)) := ⟨_, rfl⟩
      replace H : ((spec_l1Cur_among.f l0 t440 t441 y442).bind fun bt445 => (if 0 < (x4_1.length : Int) then (some (x4_1.set (0 : Int).toNat bt445.1)) else (none))) = some r := yH
      have Ny442 := ak hy_; clear hy_; replace H := bS H; obtain ⟨⟨t445, t446, t447⟩, A13, H⟩ := H
      replace H : (if 0 < (x4_1.length : Int) then (some (x4_1.set (0 : Int).toNat t445)) else (none)) = some r := H
      replace H := ifS H; obtain ⟨c14, H⟩ := H; have c14b0 := decide_eq_true c14
      have c14b1 : decide (0 < x4_1.length) = true := decide_eq_true (by omega)
      clear c14
      obtain ⟨y448, hy_⟩ : ∃ y_ : List Int, y_ = (x4_1.set (0 : Int).toNat t445) := ⟨_, rfl⟩
      replace H : (some y448) = some r := yH
      have Ny448 := ak hy_; clear hy_
      obtain rfl := Option.some.inj H
      obtain ⟨Ao16, co16, eo16⟩ := Kd.R_slice HO_4.out
      subst eo16
      go_wp2_with (first | (go_at_call 131; (with_reducible refine (spec_l1Cur_one.calls gb429 l0 x430001_1 x430002_1 12 true t440 t441 w _ ?side1 ?side2 A11.out).mono ?_); (case side1 => repeat (first | (with_reducible first | exact HI429.out | apply IsS123.alloc | apply IsS123.drewN | apply IsS123.drew | apply IsS123.set_1 | apply IsS123.set_2) | exact HI429.out)); (case side2 => repeat (first | (with_reducible first | exact HB.out | apply below_alloc | apply pw_below_drewN | apply below_drew1 | refine below_set ?_ (IsS123.ge HI429.out)) | exact HB.out)); rintro e w17 ⟨rfl, hi, hb, hk⟩; replace HO_4 := ak (Kd.R_mono (Kd.R_keep (IsS123.apart (show IsS123 w _ gb429 l0 x430001_1 x430002_1 from by repeat (first | (with_reducible first | exact HI429.out | apply IsS123.alloc | apply IsS123.drewN | apply IsS123.drew | apply IsS123.set_1 | apply IsS123.set_2) | exact HI429.out)) (rdl HO_4) (by decide)) hk (fun _ h => h.2)) (fun _ h => h.1)); replace HB := ak (hb); replace HI429 := ak (hi); (try clear hb); (try clear hk); (try clear hi)) | ((with_reducible refine gate_dst (N := 29) rfl ?_); refine Kd.R_lit (Kd.int .i64) _ 3 ?hg (N := 29) ?hd (xs := ([(-1), 256] : List Int)) (inner := [.int .i64 (-1), .int .i64 256]) (ok := fun _ => True) (okp := fun _ => True) ?hr ?hp (fun _ hk => hk) trivial (Below.refl _ _) (Nat.le_refl _) (by simp) ?_; (case hd => rfl); (case hg => rfl); (case hr => first | (go_simp; done) | (go_simp; rfl)); (case hp => exact (Reps.one (show Kd.M (Kd.int .i64) _ _ _ (-1) [.int .i64 (-1)] from rfl) (Reps.one (show Kd.M (Kd.int .i64) _ _ _ 256 [.int .i64 256] from rfl) (Reps.none _ _)))); intro v443 w18 ho19 hb hg_ hnew_; clear hg_ hnew_; (first | rw [← Ny442.out] at ho19 | (simp only [Int.reduceToNat] at ho19; rw [← Ny442.out] at ho19)); have HO444 := ak (Kd.R_lower (Kd.R_new' ho19 (Kd.R_lt (rdl HO_4))) (below_size (by repeat (first | (with_reducible first | exact HB.out | apply below_alloc | apply pw_below_drewN | apply below_drew1 | refine below_set ?_ (IsS123.ge HI429.out)) | exact HB.out)))); replace HO_4 := ak (Kd.R_elder' (rdl HO_4) (Kd.R_base ho19) hb); replace HB := ak (below_step (by repeat (first | (with_reducible first | exact HB.out | apply below_alloc | apply pw_below_drewN | apply below_drew1 | refine below_set ?_ (IsS123.ge HI429.out)) | exact HB.out)) hb); replace HI429 := ak (IsS123.below (by repeat (first | (with_reducible first | exact HI429.out | apply IsS123.alloc | apply IsS123.drewN | apply IsS123.drew | apply IsS123.set_1 | apply IsS123.set_2) | exact HI429.out)) hb); clear hb ho19; obtain ⟨Ao20, co20, eo20⟩ := Kd.R_slice HO444.out; subst eo20) | ((with_reducible refine gate_callee (f := 132) rfl ?_); refine goesLa (some 30) rfl Try.func132 #[.pointer (some ⟨gb429, 0, none⟩), .slice Ao20 y442.length co20] rfl ?_; (with_reducible refine (spec_l1Cur_among.calls gb429 l0 t440 t441 _ _ y442 t445 t446 t447 w _ ?side1 ?side2 ?side3 ?side4 ?side5 A13.out).mono ?_); (case side1 => repeat (first | (with_reducible first | exact HI429.out | apply IsS123.alloc | apply IsS123.drewN | apply IsS123.drew | apply IsS123.set_1 | apply IsS123.set_2) | exact HI429.out)); (case side2 => repeat (first | (with_reducible first | exact HB.out | apply below_alloc | apply pw_below_drewN | apply below_drew1 | refine below_set ?_ (IsS123.ge HI429.out)) | exact HB.out)); (case side3 => exact cd (Kd.R_reads' HO444.out).2.2); (case side4 => exact (Kd.R_reads' HO444.out).2.1); (case side5 => exact far_slice (IsS123.own_ne HI429.out HO444.out (by decide))); rintro e w21 ⟨rfl, hi, hb, hk⟩; refine ⟨_, rfl, ?_⟩; replace HO_4 := ak (Kd.R_mono (Kd.R_keep (IsS123.apart (show IsS123 w _ gb429 l0 t440 t441 from by repeat (first | (with_reducible first | exact HI429.out | apply IsS123.alloc | apply IsS123.drewN | apply IsS123.drew | apply IsS123.set_1 | apply IsS123.set_2) | exact HI429.out)) (rdl HO_4) (by decide)) hk (fun _ h => h.2)) (fun _ h => h.1)); replace HO444 := ak (Kd.R_mono (Kd.R_keep (IsS123.apart (show IsS123 w _ gb429 l0 t440 t441 from by repeat (first | (with_reducible first | exact HI429.out | apply IsS123.alloc | apply IsS123.drewN | apply IsS123.drew | apply IsS123.set_1 | apply IsS123.set_2) | exact HI429.out)) (rdl HO444) (by decide)) hk (fun _ h => h.2)) (fun _ h => h.1)); replace HB := ak (hb); replace HI429 := ak (hi); (try clear hb); (try clear hk); (try clear hi); have p15 : 0 ≤ (0 : Int) := (by omega); have q15 : (0 : Int) < ((x4_1.length : Int) : Int) := da; have qi15 : (0 < x4_1.length) = True := eq_true (by omega); obtain ⟨go15, co15, eo15, gb15, gl15, cl15, HG15⟩ := Kd.R_form HO_4.out (by omega); (first | cases eo15 | (injection eo15 with ea_ en_ ec_; (first | subst ea_ | (injection ea_ with ea_; subst ea_)); subst ec_; clear en_)); have GB15 := Aside0.mk gb15; have GG15 := Aside0.mk HG15; clear gb15 gl15 HG15; obtain ⟨hx15_0, hf15_0⟩ := Kd.R_celln 0 HO_4.out (0 : Int) p15 q15; (try rw [show ((0 : Int)).toNat = 0 from rfl] at hx15_0); (try simp only [Nat.reduceMul, Nat.zero_mul, Nat.zero_add, Nat.reduceAdd] at hx15_0); (try rw [show ((0 : Int)).toNat = 0 from rfl] at hf15_0); (try simp only [Nat.reduceMul, Nat.zero_mul, Nat.zero_add, Nat.reduceAdd] at hf15_0); replace p15 := eq_true p15; replace q15 := eq_true q15; have n_ := Aside0.mk (Kd.R_mono (ok' := (fun k_ => some k_ ≠ (.slice Ao20 y442.length co20 : Value).ownBlock)) HO_4.out (fun k_ hk => hk.2)); clear HO_4; have HO_4 := n_; clear n_; obtain ⟨hy22_, hz22_⟩ := Kd.R_celln 0 HO_4.out (0 : Int) (by omega) (da); (try simp only [Int.reduceToNat, Int.toNat_zero, Int.toNat_ofNat, Nat.reduceMul, Nat.zero_mul, Nat.zero_add] at hy22_ hz22_); (try rw [show ((0 : Int)).toNat = 0 from rfl] at hy22_); (try rw [show ((0 : Int)).toNat = 0 from rfl] at hz22_); have HP22 := Kd.R_putg HO_4.out (0 : Int) t445) | ((with_reducible refine gate_store (t := 3) (p := 31) rfl ?_); refine store_event (t := 3) (p := 31) (v := ?vo_w23) (w1 := (w21.setCell ⟨go15, (0 : Int).toNat, none⟩ (.int .i64 t445))) ?hg ?ho ?hn ?hr ?_; (case ho => rfl); (case hg => rfl); (case hn => rfl); (case hr => first | (go_simp; done) | (go_simp; rfl)); intro w23 hw; have hg : w21.grownBy w23 (some go15) := (by rw [hw]; exact HP22.2); have hp_ : Kd.R (Kd.int .i64) 3 w23 w.heap.size (fun k_ => some k_ ≠ (.slice Ao20 y442.length co20 : Value).ownBlock) (.slice (some ⟨go15, 0, none⟩) x4_1.length co16) y448 := (by rw [hw, Ny448.out]; exact HP22.1); clear HP22; replace HI429 := ak (IsS123.grown (by repeat (first | (with_reducible first | exact HI429.out | apply IsS123.alloc | apply IsS123.drewN | apply IsS123.drew | apply IsS123.set_1 | apply IsS123.set_2) | exact HI429.out)) hg (IsS123.own_ne HI429.out HO_4.out (by decide))); replace HO_4 := ak (hp_); replace HO444 := ak (Kd.R_after (v := (.slice (some ⟨go15, 0, none⟩) x4_1.length co16)) (v1 := (.slice (some ⟨go15, 0, none⟩) x4_1.length co16)) (ok := (fun _ => True)) (rdl HO444) hg (.inl rfl)); replace HB := ak ((by rw [hw]; exact below_set (HB.out) GB15.out : Below w.heap.size w w23)); clear hg hw hp_))
      go_ret
      exact ⟨_, er2, by (with_reducible repeat (first | apply Kd.R_alloc | apply Kd.R_drewN | apply Kd.R_drew)); exact Kd.R_mono HO_4.out (fun _ hk => trivial), by repeat (first | (with_reducible first | exact HB.out | apply below_alloc | apply pw_below_drewN | apply below_drew1 | refine below_set ?_ (IsS123.ge HI429.out)) | exact HB.out)⟩
     ·replace c12 := Bool.eq_false_iff.mpr c12
      subst c12
      have H1 : (some x4_1) = some r := by rw [if_neg (show ¬ (false = true) by decide)] at H; exact H
      clear H
      have H := H1
      clear H1
      obtain rfl := Option.some.inj H
      obtain ⟨Ao24, co24, eo24⟩ := Kd.R_slice HO_4.out
      subst eo24
      go_wp2_with (first | (go_at_call 131; (with_reducible refine (spec_l1Cur_one.calls gb429 l0 x430001_1 x430002_1 12 false t440 t441 w _ ?side1 ?side2 A11.out).mono ?_); (case side1 => repeat (first | (with_reducible first | exact HI429.out | apply IsS123.alloc | apply IsS123.drewN | apply IsS123.drew | apply IsS123.set_1 | apply IsS123.set_2) | exact HI429.out)); (case side2 => repeat (first | (with_reducible first | exact HB.out | apply below_alloc | apply pw_below_drewN | apply below_drew1 | refine below_set ?_ (IsS123.ge HI429.out)) | exact HB.out)); rintro e w25 ⟨rfl, hi, hb, hk⟩; replace HO_4 := ak (Kd.R_mono (Kd.R_keep (IsS123.apart (show IsS123 w _ gb429 l0 x430001_1 x430002_1 from by repeat (first | (with_reducible first | exact HI429.out | apply IsS123.alloc | apply IsS123.drewN | apply IsS123.drew | apply IsS123.set_1 | apply IsS123.set_2) | exact HI429.out)) (rdl HO_4) (by decide)) hk (fun _ h => h.2)) (fun _ h => h.1)); replace HB := ak (hb); replace HI429 := ak (hi); (try clear hb); (try clear hk); (try clear hi)))
      go_ret
      exact ⟨_, er2, by (with_reducible repeat (first | apply Kd.R_alloc | apply Kd.R_drewN | apply Kd.R_drew)); exact HO_4.out, by repeat (first | (with_reducible first | exact HB.out | apply below_alloc | apply pw_below_drewN | apply below_drew1 | refine below_set ?_ (IsS123.ge HI429.out)) | exact HB.out)⟩
    ·rw [if_neg c10] at H
     have c10b0 : decide (0 < (x4_1.length : Int)) = false := decide_eq_false c10
     have c10b1 : decide (0 < x4_1.length) = false := decide_eq_false (by omega)
     clear c10
     obtain rfl := Option.some.inj H
     obtain ⟨Ao26, co26, eo26⟩ := Kd.R_slice HO_4.out
     subst eo26; go_wp2
     go_ret
     exact ⟨_, er2, by (with_reducible repeat (first | apply Kd.R_alloc | apply Kd.R_drewN | apply Kd.R_drew)); exact HO_4.out, by repeat (first | (with_reducible first | exact HB.out | apply below_alloc | apply pw_below_drewN | apply below_drew1 | refine below_set ?_ (IsS123.ge HI429.out)) | exact HB.out)⟩

/-! ### spec_SumOf: function 72 -/
mutual
def spec_SumOf.j0 : Nat → List Int → Bool → Option (Int × Bool)
  | 0, _, _ => none
  | k + 1, x0, x14 => if x14 = true then (some (0, false)) else (spec_SumOf.l0 k 0 x0 (x0.length : Int) 0)
def spec_SumOf.l0 : Nat → Int → List Int → Int → Int → Option (Int × Bool)
  | 0, _, _, _, _ => none
  | k + 1, x4, x15, x16, x17 => if x17 < x16 then (if 0 ≤ x17 then (if x17 < (x15.length : Int) then (spec_SumOf.l0 k (Go.bits .xor .i64 x4 (rd x15 x17)) x15 x16 (wrap64 (x17 + 1))) else (none)) else (none)) else (some (x4, true))
end
def spec_SumOf.f (k : Nat) (l0 : List Int) : Option (Int × Bool) := if (l0.length : Int) > 6 then (spec_SumOf.j0 k l0 true) else ((spec_l1All.f k l0 0 255).bind fun t449 => (spec_SumOf.j0 k l0 (!t449)))
theorem spec_SumOf.mono_l : ∀ k, (∀ y0 y1, LeO (spec_SumOf.j0 k y0 y1) (spec_SumOf.j0 (k + 1) y0 y1)) ∧ (∀ y0 y1 y2 y3, LeO (spec_SumOf.l0 k y0 y1 y2 y3) (spec_SumOf.l0 (k + 1) y0 y1 y2 y3))
 | 0 => ⟨fun _ _ r h => by simp [spec_SumOf.j0] at h, fun _ _ _ _ r h => by simp [spec_SumOf.l0] at h⟩
 | k + 1 => by
  obtain ⟨ih0, ih1⟩ := spec_SumOf.mono_l k
  refine ⟨?_, ?_⟩
  ·intro y0 y1
   unfold spec_SumOf.j0
   repeat' (first | (with_reducible first | exact ih0 _ _ | exact ih1 _ _ _ _ | exact spec_l1All.mono _ _ _ _ | exact LeO.refl _ | exact LeO.none _ | refine LeO.ite ?_ ?_ | refine LeO.bind ?_ (fun _ => ?_)) | exact ih0 _ _ | exact ih1 _ _ _ _ | exact spec_l1All.mono _ _ _ _ | exact LeO.none _ | refine LeO.ite ?_ ?_ | refine LeO.bind ?_ (fun _ => ?_))
  ·intro y0 y1 y2 y3
   unfold spec_SumOf.l0
   repeat' (first | (with_reducible first | exact ih0 _ _ | exact ih1 _ _ _ _ | exact spec_l1All.mono _ _ _ _ | exact LeO.refl _ | exact LeO.none _ | refine LeO.ite ?_ ?_ | refine LeO.bind ?_ (fun _ => ?_)) | exact ih0 _ _ | exact ih1 _ _ _ _ | exact spec_l1All.mono _ _ _ _ | exact LeO.none _ | refine LeO.ite ?_ ?_ | refine LeO.bind ?_ (fun _ => ?_))
theorem spec_SumOf.mono : ∀ a0 k, LeO (spec_SumOf.f k a0) (spec_SumOf.f (k + 1) a0) := by
 intro a0 k
 obtain ⟨ih0, ih1⟩ := spec_SumOf.mono_l k
 unfold spec_SumOf.f
 repeat' (first | (with_reducible first | exact ih0 _ _ | exact ih1 _ _ _ _ | exact spec_l1All.mono _ _ _ _ | exact LeO.refl _ | exact LeO.none _ | refine LeO.ite ?_ ?_ | refine LeO.bind ?_ (fun _ => ?_)) | exact ih0 _ _ | exact ih1 _ _ _ _ | exact spec_l1All.mono _ _ _ _ | exact LeO.none _ | refine LeO.ite ?_ ?_ | refine LeO.bind ?_ (fun _ => ?_))
set_option maxHeartbeats 8000000 in
set_option maxRecDepth 100000 in
theorem spec_SumOf.calls (k : Nat) (A0 : Option Addr) (c0 : Nat) (l0 : List Int) (r1 : Int) (r2 : Bool) (w : World) (hr0 : Kd.C (Kd.int .i64) w A0 l0.length l0) (hc0 : l0.length ≤ c0) (h : spec_SumOf.f k l0 = some (r1, r2)) :
  Calls Try.prog 72 #[.slice A0 l0.length c0] w fun e w' => e = .returned (.tuple #[.int .i64 r1, .bool r2]) ∧ Drawn0 w w' := by
 have HR0 := Aside0.mk hr0; have HC0 := Aside0.mk hc0; clear hr0 hc0
 have H : (if (l0.length : Int) > 6 then (spec_SumOf.j0 k l0 true) else ((spec_l1All.f k l0 0 255).bind fun t449 => (spec_SumOf.j0 k l0 (!t449)))) = some (r1, r2) := h
 clear h; have HC2 := Aside0.mk H; clear H
 go_enter Try.func72, Try.ntmps72
 go_upto_region 1 with (fail)
 go_cut [14] (fun v14 wc => ∃ (kq : Nat) (x14_1 : Bool), v14 = .bool x14_1 ∧ Aside0 (spec_SumOf.j0 kq l0 x14_1 = some (r1, r2)) ∧ Aside0 (kq ≤ k) ∧ Drawn0 w wc)
 case first =>
  have H := HC2.out; clear HC2
  by_cases c3 : (l0.length : Int) > 6
  ·rw [if_pos c3] at H
   have c3b0 : decide (6 < (l0.length : Int)) = true := decide_eq_true c3
   have c3b1 : decide (6 < l0.length) = true := decide_eq_true (by omega)
   clear c3
   (first | rw [c3b0] | (simp only [i64_w, i32_w]; rw [c3b0]) | skip)
   have H' := Aside0.mk H
   clear H; go_wp2
   go_meet
   case rel => exact ⟨_, (true), er, H', ⟨by first | omega | exact Nat.le_refl _⟩, drw⟩
  ·rw [if_neg c3] at H
   have c3b0 : decide (6 < (l0.length : Int)) = false := decide_eq_false c3
   have c3b1 : decide (6 < l0.length) = false := decide_eq_false (by omega)
   clear c3
   (first | rw [c3b0] | (simp only [i64_w, i32_w]; rw [c3b0]) | skip)
   replace H := bS H; obtain ⟨t449, A4, H⟩ := H
   replace H : (spec_SumOf.j0 k l0 (!t449)) = some (r1, r2) := H
   have H' := Aside0.mk H
   clear H
   go_wp2_with (first | (go_at_call 82; (with_reducible refine (spec_l1All.calls k _ _ l0 0 255 t449 _ ?side1 ?side2 A4.out).mono ?_); (case side1 => exact cd HR0.out); (case side2 => exact HC0.out); rintro e w' ⟨rfl, ⟨nd, rfl⟩⟩))
   go_meet
   case rel => exact ⟨_, (!t449), er, H', ⟨by first | omega | exact Nat.le_refl _⟩, drw⟩
 case rest =>
  clear HC2
  obtain ⟨kq, x14_1, rfl, HA, HJ1, ⟨mc1, rfl⟩⟩ := hcut
  cases kq with
  | zero => exact absurd HA.out (by simp [spec_SumOf.j0])
  | succ kj1 =>
   have H := HA.out; clear HA
   simp only [spec_SumOf.j0] at H
   by_cases c5 : x14_1 = true
   ·subst c5
    have H1 : (some (0, false)) = some (r1, r2) := by rw [if_pos rfl] at H; exact H
    clear H
    have H := H1
    clear H1
    simp only [Option.some.injEq, Prod.mk.injEq] at H
    obtain ⟨rfl, rfl⟩ := H; go_wp2
    go_ret2
    exact ⟨er, drw⟩
   ·replace c5 := Bool.eq_false_iff.mpr c5
    subst c5
    have H1 : (spec_SumOf.l0 kj1 0 l0 (l0.length : Int) 0) = some (r1, r2) := by rw [if_neg (show ¬ (false = true) by decide)] at H; exact H
    clear H
    have H := H1
    clear H1
    have H' := Aside0.mk H
    clear H; go_wp2
    go_loopg [4, 17] kj1 (fun kq v4 v17 w' => ∃ (x4_2 : Int) (x17_2 : Int), v4 = .int .i64 x4_2 ∧ v17 = .int .i64 x17_2 ∧ Aside0 (spec_SumOf.l0 kq x4_2 l0 (l0.length : Int) x17_2 = some (r1, r2)) ∧ Aside0 (kq ≤ kj1) ∧ Drawn0 w w')
    case atStart => exact ⟨(0), (0), er, er, H', ⟨Nat.le_refl _⟩, drw⟩
    case round =>
     clear H'
     (try clear c5)
     obtain ⟨x4_2, x17_2, rfl, rfl, HA, HK2, ⟨m2, rfl⟩⟩ := hrel
     cases gk with
     | zero => exact absurd HA.out (by simp [spec_SumOf.l0])
     | succ k2 =>
      have H := HA.out; clear HA
      simp only [spec_SumOf.l0] at H
      by_cases c6 : x17_2 < (l0.length : Int)
      ·rw [if_pos c6] at H
       have c6b0 : decide (x17_2 < (l0.length : Int)) = true := decide_eq_true c6
       clear c6; replace H := ifS H; obtain ⟨c7, H⟩ := H; have c7b0 := decide_eq_true c7; clear c7; replace H := ifS H; obtain ⟨c8, H⟩ := H; have c8b0 := decide_eq_true c8; clear c8
       have H' := Aside0.mk H
       clear H
       have p450 : 0 ≤ (x17_2 : Int) := da
       have q450 : x17_2 < (l0.length : Int) := da
       obtain ⟨ad450, e450, hx450_0⟩ := Kd.at_int HR0.out x17_2 p450 q450
       cases e450
       replace p450 := eq_true p450; replace q450 := eq_true q450; go_wp2
       go_roundg k2
       case measure => have := HJ1.out; have := HK2.out; omega
       case rel => exact ⟨(Go.bits .xor .i64 x4_2 (rd l0 x17_2)), (wrap64 (x17_2 + 1)), er, er, H', ⟨by have := HJ1.out; have := HK2.out; omega⟩, drw⟩
      ·rw [if_neg c6] at H
       have c6b0 : decide (x17_2 < (l0.length : Int)) = false := decide_eq_false c6
       clear c6
       simp only [Option.some.injEq, Prod.mk.injEq] at H
       obtain ⟨rfl, rfl⟩ := H; go_wp2
       go_ret2
       exact ⟨er, drw⟩

end Go.Proofs.Ytpibdgknmjjolaa.QFnGroups
