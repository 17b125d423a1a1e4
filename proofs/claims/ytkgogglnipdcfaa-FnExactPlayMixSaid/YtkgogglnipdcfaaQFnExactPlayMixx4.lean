-- printed by this session's own program (wip/tools/pp.py: the kit's print.py with changes); Lean checks it
import Derived.Test.YtkgogglnipdcfaaQFnExactPlayMixx0
import Derived.Test.YtkgogglnipdcfaaQFnExactPlayMixx3
namespace Go.Proofs.Ytkgogglnipdcfaa.QFnExactPlayMix
open Go.RowKit Go.Proofs.YtkgogglnipdcfaaW.PrintWords Go.Proofs.YtkgogglnipdcfaaW.PrintLast Go.Proofs.YtkgogglnipdcfaaW.PrintMore
attribute [local go_sem] max2_int min2_int max_two min_two max_three min_three max_four min_four strLss strGtr strLeq strGeq   -- for this text's walks alone
set_option linter.unusedVariables false
set_option linter.unusedSimpArgs false

/-! ### impl_GoodMix: function 99 -/
mutual
def impl_GoodMix.j0 : Nat → Bool → List ByteArray → Int → Int → Int → List Int → Option (Bool)
  | 0, _, _, _, _, _, _ => none
  | k + 1, x45, x273000, x273001, x273002, x273003, x273004 => if x45 = true then (some false) else (if (x273004.length : Int) > 100 then (impl_GoodMix.j1 k true x273000 x273001 x273002 x273003 x273004) else ((impl_isRising.f k x273004 0 4092).bind fun t278 => (impl_GoodMix.j1 k (!t278) x273000 x273001 x273002 x273003 x273004)))
def impl_GoodMix.j1 : Nat → Bool → List ByteArray → Int → Int → Int → List Int → Option (Bool)
  | 0, _, _, _, _, _, _ => none
  | k + 1, x55, x273000, x273001, x273002, x273003, x273004 => if x55 = true then (some false) else (impl_GoodMix.l0 k (([] : List Int)) x273000 (x273000.length : Int) 0 x273000 x273001 x273002 x273003 x273004)
def impl_GoodMix.l0 : Nat → List Int → List ByteArray → Int → Int → List ByteArray → Int → Int → Int → List Int → Option (Bool)
  | 0, _, _, _, _, _, _, _, _, _ => none
  | k + 1, x3, x58, x59, x60, x273000, x273001, x273002, x273003, x273004 => if x60 < x59 then (if 0 ≤ x60 then (if x60 < (x58.length : Int) then ((impl_tag.f k (rdOf ByteArray.empty x58 x60)).bind fun t283 => ((slices_Contains_int_int.f k x273004 t283).bind fun t284 => (if t284 = true then ((slices_Contains_int_int.f k x3 t283).bind fun t285 => (if t285 = true then (some false) else (if x3.length < 17592186044416 then (impl_GoodMix.l0 k (x3 ++ [t283]) x58 x59 (wrap64 (x60 + 1)) x273000 x273001 x273002 x273003 x273004) else (none)))) else (some false)))) else (none)) else (none)) else (some true)
end
def impl_GoodMix.f (k : Nat) (l0_0 : List ByteArray) (a0_1 : Int) (a0_2 : Int) (a0_3 : Int) (l0_4 : List Int) : Option (Bool) := (impl_areLetters.f k l0_0).bind fun t273 => (if t273 = true then ((slices_IsSorted_string_string.f k l0_0).bind fun t274 => (if t274 = true then ((impl_within.f a0_1 1 12).bind fun t275 => (if t275 = true then ((impl_within.f a0_2 1 10).bind fun t276 => (if t276 = true then ((impl_within.f a0_3 0 10).bind fun t277 => (if t277 = true then (if (l0_0.length : Int) = 0 then (impl_GoodMix.j0 k (a0_3 != 0) l0_0 a0_1 a0_2 a0_3 l0_4) else (impl_GoodMix.j0 k false l0_0 a0_1 a0_2 a0_3 l0_4)) else (impl_GoodMix.j0 k true l0_0 a0_1 a0_2 a0_3 l0_4))) else (impl_GoodMix.j0 k true l0_0 a0_1 a0_2 a0_3 l0_4))) else (impl_GoodMix.j0 k true l0_0 a0_1 a0_2 a0_3 l0_4))) else (impl_GoodMix.j0 k true l0_0 a0_1 a0_2 a0_3 l0_4))) else (impl_GoodMix.j0 k true l0_0 a0_1 a0_2 a0_3 l0_4))
theorem impl_GoodMix.mono_l : ∀ k, (∀ y0 y1 y2 y3 y4 y5, LeO (impl_GoodMix.j0 k y0 y1 y2 y3 y4 y5) (impl_GoodMix.j0 (k + 1) y0 y1 y2 y3 y4 y5)) ∧ (∀ y0 y1 y2 y3 y4 y5, LeO (impl_GoodMix.j1 k y0 y1 y2 y3 y4 y5) (impl_GoodMix.j1 (k + 1) y0 y1 y2 y3 y4 y5)) ∧ (∀ y0 y1 y2 y3 y4 y5 y6 y7 y8, LeO (impl_GoodMix.l0 k y0 y1 y2 y3 y4 y5 y6 y7 y8) (impl_GoodMix.l0 (k + 1) y0 y1 y2 y3 y4 y5 y6 y7 y8))
 | 0 => ⟨fun _ _ _ _ _ _ r h => by simp [impl_GoodMix.j0] at h, fun _ _ _ _ _ _ r h => by simp [impl_GoodMix.j1] at h, fun _ _ _ _ _ _ _ _ _ r h => by simp [impl_GoodMix.l0] at h⟩
 | k + 1 => by
  obtain ⟨ih0, ih1, ih2⟩ := impl_GoodMix.mono_l k
  refine ⟨?_, ?_, ?_⟩
  ·intro y0 y1 y2 y3 y4 y5
   unfold impl_GoodMix.j0
   repeat' (first | (with_reducible first | exact ih0 _ _ _ _ _ _ | exact ih1 _ _ _ _ _ _ | exact ih2 _ _ _ _ _ _ _ _ _ | exact impl_areLetters.mono _ _ | exact impl_isRising.mono _ _ _ _ | exact impl_tag.mono _ _ | exact slices_Contains_int_int.mono _ _ _ | exact slices_IsSorted_string_string.mono _ _ | exact LeO.refl _ | exact LeO.none _ | refine LeO.ite ?_ ?_ | refine LeO.bind ?_ (fun _ => ?_)) | exact ih0 _ _ _ _ _ _ | exact ih1 _ _ _ _ _ _ | exact ih2 _ _ _ _ _ _ _ _ _ | exact impl_areLetters.mono _ _ | exact impl_isRising.mono _ _ _ _ | exact impl_tag.mono _ _ | exact slices_Contains_int_int.mono _ _ _ | exact slices_IsSorted_string_string.mono _ _ | exact LeO.none _ | refine LeO.ite ?_ ?_ | refine LeO.bind ?_ (fun _ => ?_))
  ·intro y0 y1 y2 y3 y4 y5
   unfold impl_GoodMix.j1
   repeat' (first | (with_reducible first | exact ih0 _ _ _ _ _ _ | exact ih1 _ _ _ _ _ _ | exact ih2 _ _ _ _ _ _ _ _ _ | exact impl_areLetters.mono _ _ | exact impl_isRising.mono _ _ _ _ | exact impl_tag.mono _ _ | exact slices_Contains_int_int.mono _ _ _ | exact slices_IsSorted_string_string.mono _ _ | exact LeO.refl _ | exact LeO.none _ | refine LeO.ite ?_ ?_ | refine LeO.bind ?_ (fun _ => ?_)) | exact ih0 _ _ _ _ _ _ | exact ih1 _ _ _ _ _ _ | exact ih2 _ _ _ _ _ _ _ _ _ | exact impl_areLetters.mono _ _ | exact impl_isRising.mono _ _ _ _ | exact impl_tag.mono _ _ | exact slices_Contains_int_int.mono _ _ _ | exact slices_IsSorted_string_string.mono _ _ | exact LeO.none _ | refine LeO.ite ?_ ?_ | refine LeO.bind ?_ (fun _ => ?_))
  ·intro y0 y1 y2 y3 y4 y5 y6 y7 y8
   unfold impl_GoodMix.l0
   repeat' (first | (with_reducible first | exact ih0 _ _ _ _ _ _ | exact ih1 _ _ _ _ _ _ | exact ih2 _ _ _ _ _ _ _ _ _ | exact impl_areLetters.mono _ _ | exact impl_isRising.mono _ _ _ _ | exact impl_tag.mono _ _ | exact slices_Contains_int_int.mono _ _ _ | exact slices_IsSorted_string_string.mono _ _ | exact LeO.refl _ | exact LeO.none _ | refine LeO.ite ?_ ?_ | refine LeO.bind ?_ (fun _ => ?_)) | exact ih0 _ _ _ _ _ _ | exact ih1 _ _ _ _ _ _ | exact ih2 _ _ _ _ _ _ _ _ _ | exact impl_areLetters.mono _ _ | exact impl_isRising.mono _ _ _ _ | exact impl_tag.mono _ _ | exact slices_Contains_int_int.mono _ _ _ | exact slices_IsSorted_string_string.mono _ _ | exact LeO.none _ | refine LeO.ite ?_ ?_ | refine LeO.bind ?_ (fun _ => ?_))
theorem impl_GoodMix.mono : ∀ a0 a1 a2 a3 a4 k, LeO (impl_GoodMix.f k a0 a1 a2 a3 a4) (impl_GoodMix.f (k + 1) a0 a1 a2 a3 a4) := by
 intro a0 a1 a2 a3 a4 k
 obtain ⟨ih0, ih1, ih2⟩ := impl_GoodMix.mono_l k
 unfold impl_GoodMix.f
 repeat' (first | (with_reducible first | exact ih0 _ _ _ _ _ _ | exact ih1 _ _ _ _ _ _ | exact ih2 _ _ _ _ _ _ _ _ _ | exact impl_areLetters.mono _ _ | exact impl_isRising.mono _ _ _ _ | exact impl_tag.mono _ _ | exact slices_Contains_int_int.mono _ _ _ | exact slices_IsSorted_string_string.mono _ _ | exact LeO.refl _ | exact LeO.none _ | refine LeO.ite ?_ ?_ | refine LeO.bind ?_ (fun _ => ?_)) | exact ih0 _ _ _ _ _ _ | exact ih1 _ _ _ _ _ _ | exact ih2 _ _ _ _ _ _ _ _ _ | exact impl_areLetters.mono _ _ | exact impl_isRising.mono _ _ _ _ | exact impl_tag.mono _ _ | exact slices_Contains_int_int.mono _ _ _ | exact slices_IsSorted_string_string.mono _ _ | exact LeO.none _ | refine LeO.ite ?_ ?_ | refine LeO.bind ?_ (fun _ => ?_))
set_option maxHeartbeats 8000000 in
set_option maxRecDepth 100000 in
theorem impl_GoodMix.calls (k : Nat) (A0_0 : Option Addr) (c0_0 : Nat) (l0_0 : List ByteArray) (a0_1 : Int) (a0_2 : Int) (a0_3 : Int) (A0_4 : Option Addr) (c0_4 : Nat) (l0_4 : List Int) (r : Bool) (w : World) (hr0_0 : Kd.C Kd.string w A0_0 l0_0.length l0_0) (hc0_0 : l0_0.length ≤ c0_0) (hr0_4 : Kd.C (Kd.int .i64) w A0_4 l0_4.length l0_4) (hc0_4 : l0_4.length ≤ c0_4) (h : impl_GoodMix.f k l0_0 a0_1 a0_2 a0_3 l0_4 = some r) :
  Calls Try.prog 99 #[.agg #[.slice A0_0 l0_0.length c0_0, .int .i64 a0_1, .int .i64 a0_2, .int .i64 a0_3, .slice A0_4 l0_4.length c0_4]] w fun e w' => e = .returned (.bool r) ∧ Below w.heap.size w w' := by
 have hu27 := Try.underlying27
 have HR0_0 := Aside0.mk hr0_0; have HC0_0 := Aside0.mk hc0_0; clear hr0_0 hc0_0; have HR0_4 := Aside0.mk hr0_4; have HC0_4 := Aside0.mk hc0_4; clear hr0_4 hc0_4
 have HB := Aside0.mk (Below.refl w.heap.size w)
 have H : ((impl_areLetters.f k l0_0).bind fun t273 => (if t273 = true then ((slices_IsSorted_string_string.f k l0_0).bind fun t274 => (if t274 = true then ((impl_within.f a0_1 1 12).bind fun t275 => (if t275 = true then ((impl_within.f a0_2 1 10).bind fun t276 => (if t276 = true then ((impl_within.f a0_3 0 10).bind fun t277 => (if t277 = true then (if (l0_0.length : Int) = 0 then (impl_GoodMix.j0 k (a0_3 != 0) l0_0 a0_1 a0_2 a0_3 l0_4) else (impl_GoodMix.j0 k false l0_0 a0_1 a0_2 a0_3 l0_4)) else (impl_GoodMix.j0 k true l0_0 a0_1 a0_2 a0_3 l0_4))) else (impl_GoodMix.j0 k true l0_0 a0_1 a0_2 a0_3 l0_4))) else (impl_GoodMix.j0 k true l0_0 a0_1 a0_2 a0_3 l0_4))) else (impl_GoodMix.j0 k true l0_0 a0_1 a0_2 a0_3 l0_4))) else (impl_GoodMix.j0 k true l0_0 a0_1 a0_2 a0_3 l0_4))) = some r := h
 clear h; have HC2 := Aside0.mk H; clear H
 go_enter Try.func99, Try.ntmps99
 go_upto_region 1 with (first | ((with_reducible refine gate_dst (N := 1) rfl ?_); (try (refine gate_guard (by rfl) ?_; dsimp only)); refine boxev 1 #[.slice A0_0 l0_0.length c0_0, .int .i64 a0_1, .int .i64 a0_2, .int .i64 a0_3, .slice A0_4 l0_4.length c0_4] 27 ?_; intro gb272 hg w3 hbox hb; have BK272 := ak (hbox); have GW272 := ak (hgl hg (belowd HB)); have GE272 := ak (hgl hg (belowd HB)); replace HB := ak (below_step (belowd HB) hb); clear hb hbox hg))
 (try simp only [Act.put, List.setIfInBounds_toArray, List.set_cons_zero, List.set_cons_succ])
 go_cut [45] (fun v45 wc => ∃ (kq : Nat) (x45_1 : Bool), v45 = .bool x45_1 ∧ Aside0 (impl_GoodMix.j0 kq x45_1 l0_0 a0_1 a0_2 a0_3 l0_4 = some r) ∧ Aside0 (kq ≤ k) ∧ Aside0 (wc.heap[gb272]? = some (.cells #[(.slice A0_0 l0_0.length c0_0), .int .i64 a0_1, .int .i64 a0_2, .int .i64 a0_3, (.slice A0_4 l0_4.length c0_4)] 27 (0, 0))) ∧ Aside0 (Below w.heap.size w wc))
 case first =>
  have H := HC2.out; clear HC2; replace H := bS H; obtain ⟨t273, A4, H⟩ := H
  replace H : (if t273 = true then ((slices_IsSorted_string_string.f k l0_0).bind fun t274 => (if t274 = true then ((impl_within.f a0_1 1 12).bind fun t275 => (if t275 = true then ((impl_within.f a0_2 1 10).bind fun t276 => (if t276 = true then ((impl_within.f a0_3 0 10).bind fun t277 => (if t277 = true then (if (l0_0.length : Int) = 0 then (impl_GoodMix.j0 k (a0_3 != 0) l0_0 a0_1 a0_2 a0_3 l0_4) else (impl_GoodMix.j0 k false l0_0 a0_1 a0_2 a0_3 l0_4)) else (impl_GoodMix.j0 k true l0_0 a0_1 a0_2 a0_3 l0_4))) else (impl_GoodMix.j0 k true l0_0 a0_1 a0_2 a0_3 l0_4))) else (impl_GoodMix.j0 k true l0_0 a0_1 a0_2 a0_3 l0_4))) else (impl_GoodMix.j0 k true l0_0 a0_1 a0_2 a0_3 l0_4))) else (impl_GoodMix.j0 k true l0_0 a0_1 a0_2 a0_3 l0_4)) = some r := H
  by_cases c5 : t273 = true
  ·subst c5
   have H1 : ((slices_IsSorted_string_string.f k l0_0).bind fun t274 => (if t274 = true then ((impl_within.f a0_1 1 12).bind fun t275 => (if t275 = true then ((impl_within.f a0_2 1 10).bind fun t276 => (if t276 = true then ((impl_within.f a0_3 0 10).bind fun t277 => (if t277 = true then (if (l0_0.length : Int) = 0 then (impl_GoodMix.j0 k (a0_3 != 0) l0_0 a0_1 a0_2 a0_3 l0_4) else (impl_GoodMix.j0 k false l0_0 a0_1 a0_2 a0_3 l0_4)) else (impl_GoodMix.j0 k true l0_0 a0_1 a0_2 a0_3 l0_4))) else (impl_GoodMix.j0 k true l0_0 a0_1 a0_2 a0_3 l0_4))) else (impl_GoodMix.j0 k true l0_0 a0_1 a0_2 a0_3 l0_4))) else (impl_GoodMix.j0 k true l0_0 a0_1 a0_2 a0_3 l0_4))) = some r := by rw [if_pos rfl] at H; exact H
   clear H
   have H := H1
   clear H1; replace H := bS H; obtain ⟨t274, A6, H⟩ := H
   replace H : (if t274 = true then ((impl_within.f a0_1 1 12).bind fun t275 => (if t275 = true then ((impl_within.f a0_2 1 10).bind fun t276 => (if t276 = true then ((impl_within.f a0_3 0 10).bind fun t277 => (if t277 = true then (if (l0_0.length : Int) = 0 then (impl_GoodMix.j0 k (a0_3 != 0) l0_0 a0_1 a0_2 a0_3 l0_4) else (impl_GoodMix.j0 k false l0_0 a0_1 a0_2 a0_3 l0_4)) else (impl_GoodMix.j0 k true l0_0 a0_1 a0_2 a0_3 l0_4))) else (impl_GoodMix.j0 k true l0_0 a0_1 a0_2 a0_3 l0_4))) else (impl_GoodMix.j0 k true l0_0 a0_1 a0_2 a0_3 l0_4))) else (impl_GoodMix.j0 k true l0_0 a0_1 a0_2 a0_3 l0_4)) = some r := H
   by_cases c7 : t274 = true
   ·subst c7
    have H1 : ((impl_within.f a0_1 1 12).bind fun t275 => (if t275 = true then ((impl_within.f a0_2 1 10).bind fun t276 => (if t276 = true then ((impl_within.f a0_3 0 10).bind fun t277 => (if t277 = true then (if (l0_0.length : Int) = 0 then (impl_GoodMix.j0 k (a0_3 != 0) l0_0 a0_1 a0_2 a0_3 l0_4) else (impl_GoodMix.j0 k false l0_0 a0_1 a0_2 a0_3 l0_4)) else (impl_GoodMix.j0 k true l0_0 a0_1 a0_2 a0_3 l0_4))) else (impl_GoodMix.j0 k true l0_0 a0_1 a0_2 a0_3 l0_4))) else (impl_GoodMix.j0 k true l0_0 a0_1 a0_2 a0_3 l0_4))) = some r := by rw [if_pos rfl] at H; exact H
    clear H
    have H := H1
    clear H1; replace H := bS H; obtain ⟨t275, A8, H⟩ := H
    replace H : (if t275 = true then ((impl_within.f a0_2 1 10).bind fun t276 => (if t276 = true then ((impl_within.f a0_3 0 10).bind fun t277 => (if t277 = true then (if (l0_0.length : Int) = 0 then (impl_GoodMix.j0 k (a0_3 != 0) l0_0 a0_1 a0_2 a0_3 l0_4) else (impl_GoodMix.j0 k false l0_0 a0_1 a0_2 a0_3 l0_4)) else (impl_GoodMix.j0 k true l0_0 a0_1 a0_2 a0_3 l0_4))) else (impl_GoodMix.j0 k true l0_0 a0_1 a0_2 a0_3 l0_4))) else (impl_GoodMix.j0 k true l0_0 a0_1 a0_2 a0_3 l0_4)) = some r := H
    by_cases c9 : t275 = true
    ·subst c9
     have H1 : ((impl_within.f a0_2 1 10).bind fun t276 => (if t276 = true then ((impl_within.f a0_3 0 10).bind fun t277 => (if t277 = true then (if (l0_0.length : Int) = 0 then (impl_GoodMix.j0 k (a0_3 != 0) l0_0 a0_1 a0_2 a0_3 l0_4) else (impl_GoodMix.j0 k false l0_0 a0_1 a0_2 a0_3 l0_4)) else (impl_GoodMix.j0 k true l0_0 a0_1 a0_2 a0_3 l0_4))) else (impl_GoodMix.j0 k true l0_0 a0_1 a0_2 a0_3 l0_4))) = some r := by rw [if_pos rfl] at H; exact H
     clear H
     have H := H1
     clear H1; replace H := bS H; obtain ⟨t276, A10, H⟩ := H
     replace H : (if t276 = true then ((impl_within.f a0_3 0 10).bind fun t277 => (if t277 = true then (if (l0_0.length : Int) = 0 then (impl_GoodMix.j0 k (a0_3 != 0) l0_0 a0_1 a0_2 a0_3 l0_4) else (impl_GoodMix.j0 k false l0_0 a0_1 a0_2 a0_3 l0_4)) else (impl_GoodMix.j0 k true l0_0 a0_1 a0_2 a0_3 l0_4))) else (impl_GoodMix.j0 k true l0_0 a0_1 a0_2 a0_3 l0_4)) = some r := H
     by_cases c11 : t276 = true
     ·subst c11
      have H1 : ((impl_within.f a0_3 0 10).bind fun t277 => (if t277 = true then (if (l0_0.length : Int) = 0 then (impl_GoodMix.j0 k (a0_3 != 0) l0_0 a0_1 a0_2 a0_3 l0_4) else (impl_GoodMix.j0 k false l0_0 a0_1 a0_2 a0_3 l0_4)) else (impl_GoodMix.j0 k true l0_0 a0_1 a0_2 a0_3 l0_4))) = some r := by rw [if_pos rfl] at H; exact H
      clear H
      have H := H1
      clear H1; replace H := bS H; obtain ⟨t277, A12, H⟩ := H
      replace H : (if t277 = true then (if (l0_0.length : Int) = 0 then (impl_GoodMix.j0 k (a0_3 != 0) l0_0 a0_1 a0_2 a0_3 l0_4) else (impl_GoodMix.j0 k false l0_0 a0_1 a0_2 a0_3 l0_4)) else (impl_GoodMix.j0 k true l0_0 a0_1 a0_2 a0_3 l0_4)) = some r := H
      by_cases c13 : t277 = true
      ·subst c13
       have H1 : (if (l0_0.length : Int) = 0 then (impl_GoodMix.j0 k (a0_3 != 0) l0_0 a0_1 a0_2 a0_3 l0_4) else (impl_GoodMix.j0 k false l0_0 a0_1 a0_2 a0_3 l0_4)) = some r := by rw [if_pos rfl] at H; exact H
       clear H
       have H := H1
       clear H1
       by_cases c14 : (l0_0.length : Int) = 0
       ·rw [if_pos c14] at H
        have c14b0 : ((l0_0.length : Int) == 0) = true := beq_iff_eq.mpr c14
        have c14b1 : ((l0_0.length : Int) != 0) = false := bne_eq_false_iff_eq.mpr c14
        clear c14
        (first | rw [c14b0] | (simp only [i64_w, i32_w]; rw [c14b0]) | skip)
        have H' := Aside0.mk H
        clear H; obtain ⟨hcz15_0, hcz15_1, hcz15_2, hcz15_3, hcz15_4, hfz15_0, hfz15_1, hfz15_2, hfz15_3, hfz15_4⟩ := box5 BK272
        go_wp2_with (first | ((with_reducible refine gate_callee (f := 114) rfl ?_); refine goesLa (some 9) rfl Try.func114 #[.slice A0_0 l0_0.length c0_0] rfl ?_; (with_reducible refine (impl_areLetters.calls k _ _ l0_0 true _ ?side1 ?side2 A4.out).mono ?_); (case side1 => exact cd (Kd.C_below HR0_0.out HB.out)); (case side2 => exact HC0_0.out); rintro e w' ⟨rfl, ⟨nd, rfl⟩⟩; refine ⟨_, rfl, ?_⟩) | (go_at_call 177; (with_reducible refine (slices_IsSorted_string_string.calls k _ _ l0_0 true _ ?side1 ?side2 A6.out).mono ?_); (case side1 => exact cd (Kd.C_below HR0_0.out (belowg1 HB GE272))); (case side2 => exact HC0_0.out); rintro e w' ⟨rfl, ⟨nd, rfl⟩⟩) | (go_at_call 125; (with_reducible refine (impl_within.calls a0_1 1 12 true _ A8.out).mono ?_); rintro e w' ⟨rfl, ⟨nd, rfl⟩⟩) | (go_at_call 125; (with_reducible refine (impl_within.calls a0_2 1 10 true _ A10.out).mono ?_); rintro e w' ⟨rfl, ⟨nd, rfl⟩⟩) | (go_at_call 125; (with_reducible refine (impl_within.calls a0_3 0 10 true _ A12.out).mono ?_); rintro e w' ⟨rfl, ⟨nd, rfl⟩⟩))
        go_meet
        case rel => exact ⟨_, ((a0_3 != 0)), er, H', ⟨by first | omega | exact Nat.le_refl _⟩, ⟨blkd BK272⟩, ⟨belowg1 HB GE272⟩⟩
       ·rw [if_neg c14] at H
        have c14b0 : ((l0_0.length : Int) == 0) = false := beq_eq_false_iff_ne.mpr c14
        have c14b1 : ((l0_0.length : Int) != 0) = true := bne_iff_ne.mpr c14
        have c14b2 : ¬ (l0_0 = []) := fun h_ => c14 (by rw [h_]; rfl)
        (first | rw [c14b0] | (simp only [i64_w, i32_w]; rw [c14b0]) | skip)
        have H' := Aside0.mk H
        clear H; obtain ⟨hcz16_0, hcz16_1, hcz16_2, hcz16_3, hcz16_4, hfz16_0, hfz16_1, hfz16_2, hfz16_3, hfz16_4⟩ := box5 BK272
        go_wp2_with (first | ((with_reducible refine gate_callee (f := 114) rfl ?_); refine goesLa (some 9) rfl Try.func114 #[.slice A0_0 l0_0.length c0_0] rfl ?_; (with_reducible refine (impl_areLetters.calls k _ _ l0_0 true _ ?side1 ?side2 A4.out).mono ?_); (case side1 => exact cd (Kd.C_below HR0_0.out HB.out)); (case side2 => exact HC0_0.out); rintro e w' ⟨rfl, ⟨nd, rfl⟩⟩; refine ⟨_, rfl, ?_⟩) | (go_at_call 177; (with_reducible refine (slices_IsSorted_string_string.calls k _ _ l0_0 true _ ?side1 ?side2 A6.out).mono ?_); (case side1 => exact cd (Kd.C_below HR0_0.out (belowg1 HB GE272))); (case side2 => exact HC0_0.out); rintro e w' ⟨rfl, ⟨nd, rfl⟩⟩) | (go_at_call 125; (with_reducible refine (impl_within.calls a0_1 1 12 true _ A8.out).mono ?_); rintro e w' ⟨rfl, ⟨nd, rfl⟩⟩) | (go_at_call 125; (with_reducible refine (impl_within.calls a0_2 1 10 true _ A10.out).mono ?_); rintro e w' ⟨rfl, ⟨nd, rfl⟩⟩) | (go_at_call 125; (with_reducible refine (impl_within.calls a0_3 0 10 true _ A12.out).mono ?_); rintro e w' ⟨rfl, ⟨nd, rfl⟩⟩))
        go_meet
        case rel => exact ⟨_, (false), er, H', ⟨by first | omega | exact Nat.le_refl _⟩, ⟨blkd BK272⟩, ⟨belowg1 HB GE272⟩⟩
      ·replace c13 := Bool.eq_false_iff.mpr c13
       subst c13
       have H1 : (impl_GoodMix.j0 k true l0_0 a0_1 a0_2 a0_3 l0_4) = some r := by rw [if_neg (show ¬ (false = true) by decide)] at H; exact H
       clear H
       have H := H1
       clear H1
       have H' := Aside0.mk H
       clear H; obtain ⟨hcz17_0, hcz17_1, hcz17_2, hcz17_3, hcz17_4, hfz17_0, hfz17_1, hfz17_2, hfz17_3, hfz17_4⟩ := box5 BK272
       go_wp2_with (first | ((with_reducible refine gate_callee (f := 114) rfl ?_); refine goesLa (some 9) rfl Try.func114 #[.slice A0_0 l0_0.length c0_0] rfl ?_; (with_reducible refine (impl_areLetters.calls k _ _ l0_0 true _ ?side1 ?side2 A4.out).mono ?_); (case side1 => exact cd (Kd.C_below HR0_0.out HB.out)); (case side2 => exact HC0_0.out); rintro e w' ⟨rfl, ⟨nd, rfl⟩⟩; refine ⟨_, rfl, ?_⟩) | (go_at_call 177; (with_reducible refine (slices_IsSorted_string_string.calls k _ _ l0_0 true _ ?side1 ?side2 A6.out).mono ?_); (case side1 => exact cd (Kd.C_below HR0_0.out (belowg1 HB GE272))); (case side2 => exact HC0_0.out); rintro e w' ⟨rfl, ⟨nd, rfl⟩⟩) | (go_at_call 125; (with_reducible refine (impl_within.calls a0_1 1 12 true _ A8.out).mono ?_); rintro e w' ⟨rfl, ⟨nd, rfl⟩⟩) | (go_at_call 125; (with_reducible refine (impl_within.calls a0_2 1 10 true _ A10.out).mono ?_); rintro e w' ⟨rfl, ⟨nd, rfl⟩⟩) | (go_at_call 125; (with_reducible refine (impl_within.calls a0_3 0 10 false _ A12.out).mono ?_); rintro e w' ⟨rfl, ⟨nd, rfl⟩⟩))
       go_meet
       case rel => exact ⟨_, (true), er, H', ⟨by first | omega | exact Nat.le_refl _⟩, ⟨blkd BK272⟩, ⟨belowg1 HB GE272⟩⟩
     ·replace c11 := Bool.eq_false_iff.mpr c11
      subst c11
      have H1 : (impl_GoodMix.j0 k true l0_0 a0_1 a0_2 a0_3 l0_4) = some r := by rw [if_neg (show ¬ (false = true) by decide)] at H; exact H
      clear H
      have H := H1
      clear H1
      have H' := Aside0.mk H
      clear H; obtain ⟨hcz18_0, hcz18_1, hcz18_2, hcz18_3, hcz18_4, hfz18_0, hfz18_1, hfz18_2, hfz18_3, hfz18_4⟩ := box5 BK272
      go_wp2_with (first | ((with_reducible refine gate_callee (f := 114) rfl ?_); refine goesLa (some 9) rfl Try.func114 #[.slice A0_0 l0_0.length c0_0] rfl ?_; (with_reducible refine (impl_areLetters.calls k _ _ l0_0 true _ ?side1 ?side2 A4.out).mono ?_); (case side1 => exact cd (Kd.C_below HR0_0.out HB.out)); (case side2 => exact HC0_0.out); rintro e w' ⟨rfl, ⟨nd, rfl⟩⟩; refine ⟨_, rfl, ?_⟩) | (go_at_call 177; (with_reducible refine (slices_IsSorted_string_string.calls k _ _ l0_0 true _ ?side1 ?side2 A6.out).mono ?_); (case side1 => exact cd (Kd.C_below HR0_0.out (belowg1 HB GE272))); (case side2 => exact HC0_0.out); rintro e w' ⟨rfl, ⟨nd, rfl⟩⟩) | (go_at_call 125; (with_reducible refine (impl_within.calls a0_1 1 12 true _ A8.out).mono ?_); rintro e w' ⟨rfl, ⟨nd, rfl⟩⟩) | (go_at_call 125; (with_reducible refine (impl_within.calls a0_2 1 10 false _ A10.out).mono ?_); rintro e w' ⟨rfl, ⟨nd, rfl⟩⟩))
      go_meet
      case rel => exact ⟨_, (true), er, H', ⟨by first | omega | exact Nat.le_refl _⟩, ⟨blkd BK272⟩, ⟨belowg1 HB GE272⟩⟩
    ·replace c9 := Bool.eq_false_iff.mpr c9
     subst c9
     have H1 : (impl_GoodMix.j0 k true l0_0 a0_1 a0_2 a0_3 l0_4) = some r := by rw [if_neg (show ¬ (false = true) by decide)] at H; exact H
     clear H
     have H := H1
     clear H1
     have H' := Aside0.mk H
     clear H; obtain ⟨hcz19_0, hcz19_1, hcz19_2, hcz19_3, hcz19_4, hfz19_0, hfz19_1, hfz19_2, hfz19_3, hfz19_4⟩ := box5 BK272
     go_wp2_with (first | ((with_reducible refine gate_callee (f := 114) rfl ?_); refine goesLa (some 9) rfl Try.func114 #[.slice A0_0 l0_0.length c0_0] rfl ?_; (with_reducible refine (impl_areLetters.calls k _ _ l0_0 true _ ?side1 ?side2 A4.out).mono ?_); (case side1 => exact cd (Kd.C_below HR0_0.out HB.out)); (case side2 => exact HC0_0.out); rintro e w' ⟨rfl, ⟨nd, rfl⟩⟩; refine ⟨_, rfl, ?_⟩) | (go_at_call 177; (with_reducible refine (slices_IsSorted_string_string.calls k _ _ l0_0 true _ ?side1 ?side2 A6.out).mono ?_); (case side1 => exact cd (Kd.C_below HR0_0.out (belowg1 HB GE272))); (case side2 => exact HC0_0.out); rintro e w' ⟨rfl, ⟨nd, rfl⟩⟩) | (go_at_call 125; (with_reducible refine (impl_within.calls a0_1 1 12 false _ A8.out).mono ?_); rintro e w' ⟨rfl, ⟨nd, rfl⟩⟩))
     go_meet
     case rel => exact ⟨_, (true), er, H', ⟨by first | omega | exact Nat.le_refl _⟩, ⟨blkd BK272⟩, ⟨belowg1 HB GE272⟩⟩
   ·replace c7 := Bool.eq_false_iff.mpr c7
    subst c7
    have H1 : (impl_GoodMix.j0 k true l0_0 a0_1 a0_2 a0_3 l0_4) = some r := by rw [if_neg (show ¬ (false = true) by decide)] at H; exact H
    clear H
    have H := H1
    clear H1
    have H' := Aside0.mk H
    clear H; obtain ⟨hcz20_0, hcz20_1, hcz20_2, hcz20_3, hcz20_4, hfz20_0, hfz20_1, hfz20_2, hfz20_3, hfz20_4⟩ := box5 BK272
    go_wp2_with (first | ((with_reducible refine gate_callee (f := 114) rfl ?_); refine goesLa (some 9) rfl Try.func114 #[.slice A0_0 l0_0.length c0_0] rfl ?_; (with_reducible refine (impl_areLetters.calls k _ _ l0_0 true _ ?side1 ?side2 A4.out).mono ?_); (case side1 => exact cd (Kd.C_below HR0_0.out HB.out)); (case side2 => exact HC0_0.out); rintro e w' ⟨rfl, ⟨nd, rfl⟩⟩; refine ⟨_, rfl, ?_⟩) | (go_at_call 177; (with_reducible refine (slices_IsSorted_string_string.calls k _ _ l0_0 false _ ?side1 ?side2 A6.out).mono ?_); (case side1 => exact cd (Kd.C_below HR0_0.out (belowg1 HB GE272))); (case side2 => exact HC0_0.out); rintro e w' ⟨rfl, ⟨nd, rfl⟩⟩))
    go_meet
    case rel => exact ⟨_, (true), er, H', ⟨by first | omega | exact Nat.le_refl _⟩, ⟨blkd BK272⟩, ⟨belowg1 HB GE272⟩⟩
  ·replace c5 := Bool.eq_false_iff.mpr c5
   subst c5
   have H1 : (impl_GoodMix.j0 k true l0_0 a0_1 a0_2 a0_3 l0_4) = some r := by rw [if_neg (show ¬ (false = true) by decide)] at H; exact H
   clear H
   have H := H1
   clear H1
   have H' := Aside0.mk H
   clear H; obtain ⟨hcz21_0, hcz21_1, hcz21_2, hcz21_3, hcz21_4, hfz21_0, hfz21_1, hfz21_2, hfz21_3, hfz21_4⟩ := box5 BK272
   go_wp2_with (first | ((with_reducible refine gate_callee (f := 114) rfl ?_); refine goesLa (some 9) rfl Try.func114 #[.slice A0_0 l0_0.length c0_0] rfl ?_; (with_reducible refine (impl_areLetters.calls k _ _ l0_0 false _ ?side1 ?side2 A4.out).mono ?_); (case side1 => exact cd (Kd.C_below HR0_0.out HB.out)); (case side2 => exact HC0_0.out); rintro e w' ⟨rfl, ⟨nd, rfl⟩⟩; refine ⟨_, rfl, ?_⟩))
   go_meet
   case rel => exact ⟨_, (true), er, H', ⟨by first | omega | exact Nat.le_refl _⟩, ⟨blkd BK272⟩, ⟨belowg1 HB GE272⟩⟩
 case rest =>
  clear HC2
  obtain ⟨kq, x45_1, rfl, HA, HJ1, BK272, HB⟩ := hcut
  cases kq with
  | zero => exact absurd HA.out (by simp [impl_GoodMix.j0])
  | succ kj1 =>
   have H := HA.out; clear HA
   simp only [impl_GoodMix.j0] at H
   by_cases c22 : x45_1 = true
   ·subst c22
    have H1 : (some false) = some r := by rw [if_pos rfl] at H; exact H
    clear H
    have H := H1
    clear H1
    obtain rfl := Option.some.inj H
    go_wp2
    go_ret
    exact ⟨er2, belowg1 HB GE272⟩
   ·replace c22 := Bool.eq_false_iff.mpr c22
    subst c22
    have H1 : (if (l0_4.length : Int) > 100 then (impl_GoodMix.j1 kj1 true l0_0 a0_1 a0_2 a0_3 l0_4) else ((impl_isRising.f kj1 l0_4 0 4092).bind fun t278 => (impl_GoodMix.j1 kj1 (!t278) l0_0 a0_1 a0_2 a0_3 l0_4))) = some r := by rw [if_neg (show ¬ (false = true) by decide)] at H; exact H
    clear H
    have H := H1
    clear H1; have HC23 := Aside0.mk H; clear H
    go_upto_region 3 with (fail)
    go_cut [55] (fun v55 wc => ∃ (kq : Nat) (x55_22 : Bool), v55 = .bool x55_22 ∧ Aside0 (impl_GoodMix.j1 kq x55_22 l0_0 a0_1 a0_2 a0_3 l0_4 = some r) ∧ Aside0 (kq ≤ kj1) ∧ Aside0 (wc.heap[gb272]? = some (.cells #[(.slice A0_0 l0_0.length c0_0), .int .i64 a0_1, .int .i64 a0_2, .int .i64 a0_3, (.slice A0_4 l0_4.length c0_4)] 27 (0, 0))) ∧ Aside0 (Below w.heap.size w wc))
    case first =>
     have H := HC23.out; clear HC23
     by_cases c24 : (l0_4.length : Int) > 100
     ·rw [if_pos c24] at H
      have c24b0 : decide (100 < (l0_4.length : Int)) = true := decide_eq_true c24
      have c24b1 : decide (100 < l0_4.length) = true := decide_eq_true (by omega)
      clear c24
      (first | rw [c24b0] | (simp only [i64_w, i32_w]; rw [c24b0]) | skip)
      have H' := Aside0.mk H
      clear H; obtain ⟨hcz25_0, hcz25_1, hcz25_2, hcz25_3, hcz25_4, hfz25_0, hfz25_1, hfz25_2, hfz25_3, hfz25_4⟩ := box5 BK272; go_wp2
      go_meet
      case rel => exact ⟨_, (true), er, H', ⟨by have := HJ1.out; first | omega | exact Nat.le_refl _⟩, ⟨blkd BK272⟩, ⟨belowg1 HB GE272⟩⟩
     ·rw [if_neg c24] at H
      have c24b0 : decide (100 < (l0_4.length : Int)) = false := decide_eq_false c24
      have c24b1 : decide (100 < l0_4.length) = false := decide_eq_false (by omega)
      clear c24
      (first | rw [c24b0] | (simp only [i64_w, i32_w]; rw [c24b0]) | skip)
      replace H := bS H; obtain ⟨t278, A26, H⟩ := H
      replace H : (impl_GoodMix.j1 kj1 (!t278) l0_0 a0_1 a0_2 a0_3 l0_4) = some r := H
      have H' := Aside0.mk H
      clear H; obtain ⟨hcz27_0, hcz27_1, hcz27_2, hcz27_3, hcz27_4, hfz27_0, hfz27_1, hfz27_2, hfz27_3, hfz27_4⟩ := box5 BK272
      go_wp2_with (first | (go_at_call 126; (with_reducible refine (impl_isRising.calls kj1 _ _ l0_4 0 4092 t278 _ ?side1 ?side2 A26.out).mono ?_); (case side1 => exact cd (Kd.C_below HR0_4.out HB.out)); (case side2 => exact HC0_4.out); rintro e w' ⟨rfl, ⟨nd, rfl⟩⟩))
      go_meet
      case rel => exact ⟨_, (!t278), er, H', ⟨by have := HJ1.out; first | omega | exact Nat.le_refl _⟩, ⟨blkd BK272⟩, ⟨belowg1 HB GE272⟩⟩
    case rest =>
     clear HC23; (try clear c22)
     obtain ⟨kq, x55_22, rfl, HA, HJ22, BK272, HB⟩ := hcut
     cases kq with
     | zero => exact absurd HA.out (by simp [impl_GoodMix.j1])
     | succ kj22 =>
      have H := HA.out; clear HA
      simp only [impl_GoodMix.j1] at H
      by_cases c28 : x55_22 = true
      ·subst c28
       have H1 : (some false) = some r := by rw [if_pos rfl] at H; exact H
       clear H
       have H := H1
       clear H1
       obtain rfl := Option.some.inj H
       go_wp2
       go_ret
       exact ⟨er2, belowg1 HB GE272⟩
      ·replace c28 := Bool.eq_false_iff.mpr c28
       subst c28
       have H1 : (impl_GoodMix.l0 kj22 (([] : List Int)) l0_0 (l0_0.length : Int) 0 l0_0 a0_1 a0_2 a0_3 l0_4) = some r := by rw [if_neg (show ¬ (false = true) by decide)] at H; exact H
       clear H
       have H := H1
       clear H1
       obtain ⟨y279, hy_⟩ : ∃ y_ : List Int, y_ = (([] : List Int)) := ⟨_, rfl⟩
       replace H : (impl_GoodMix.l0 kj22 y279 l0_0 (l0_0.length : Int) 0 l0_0 a0_1 a0_2 a0_3 l0_4) = some r := yH
       have Ny279 := ak hy_; clear hy_
       have H' := Aside0.mk H
       clear H
       go_wp2_with (first | ((with_reducible refine gate_dst (N := 56) rfl ?_); (try (refine gate_guard (by rfl) ?_; dsimp only)); refine Kd.R_lit (Kd.int .i64) _ 3 ?hg (N := 56) ?hd (xs := ([] : List Int)) (inner := []) (ok := fun _ => True) (okp := fun _ => True) ?hr ?hp (fun _ hk => hk) trivial (Below.refl _ _) (Nat.le_refl _) (by simp) ?_; (case hd => rfl); (case hg => rfl); (case hr => first | (go_simp; done) | (go_simp; rfl)); (case hp => exact (Reps.none _ _)); intro v280 w29 ho30 hb hg_ hnew_; clear hg_ hnew_; (first | rw [← Ny279.out] at ho30 | (simp only [Int.reduceToNat] at ho30; rw [← Ny279.out] at ho30)); have HO281 := ak (Kd.R_lower ho30 (below_size (belowg1 HB GE272))); replace BK272 := ak (blk_below (blkd BK272) hb); replace HB := ak (below_step (belowg1 HB GE272) hb); clear hb ho30; obtain ⟨hcz31_0, hcz31_1, hcz31_2, hcz31_3, hcz31_4, hfz31_0, hfz31_1, hfz31_2, hfz31_3, hfz31_4⟩ := box5 BK272))
       go_loopg [3, 60] kj22 (fun kq v3 v60 w' => ∃ (x3_3 : List Int) (x60_3 : Int), v60 = .int .i64 x60_3 ∧ Aside0 (impl_GoodMix.l0 kq x3_3 l0_0 (l0_0.length : Int) x60_3 l0_0 a0_1 a0_2 a0_3 l0_4 = some r) ∧ Aside0 (kq ≤ kj22) ∧ Aside0 (Kd.R (Kd.int .i64) 3 w' w.heap.size (fun _ => True) v3 x3_3) ∧ Aside0 (w'.heap[gb272]? = some (.cells #[(.slice A0_0 l0_0.length c0_0), .int .i64 a0_1, .int .i64 a0_2, .int .i64 a0_3, (.slice A0_4 l0_4.length c0_4)] 27 (0, 0))) ∧ Aside0 (Below w.heap.size w w'))
       case atStart => exact ⟨(y279), (0), er, H', ⟨Nat.le_refl _⟩, ⟨rdl HO281⟩, ⟨blkd BK272⟩, ⟨belowg1 HB GE272⟩⟩
       case round =>
        clear H'
        (try clear c28); (try clear hcz31_0); (try clear hcz31_1); (try clear hcz31_2); (try clear hcz31_3); (try clear hcz31_4); (try clear hfz31_0); (try clear hfz31_1); (try clear hfz31_2); (try clear hfz31_3); (try clear hfz31_4)
        obtain ⟨x3_3, x60_3, rfl, HA, HK3, HO_3, BK272, HB⟩ := hrel
        cases gk with
        | zero => exact absurd HA.out (by simp [impl_GoodMix.l0])
        | succ k3 =>
         have H := HA.out; clear HA
         simp only [impl_GoodMix.l0] at H
         by_cases c32 : x60_3 < (l0_0.length : Int)
         ·rw [if_pos c32] at H
          have c32b0 : decide (x60_3 < (l0_0.length : Int)) = true := decide_eq_true c32
          clear c32; replace H := ifS H; obtain ⟨c33, H⟩ := H; have c33b0 := decide_eq_true c33; clear c33; replace H := ifS H; obtain ⟨c34, H⟩ := H; have c34b0 := decide_eq_true c34; clear c34; replace H := bS H; obtain ⟨t283, A35, H⟩ := H
          replace H : ((slices_Contains_int_int.f k3 l0_4 t283).bind fun t284 => (if t284 = true then ((slices_Contains_int_int.f k3 x3_3 t283).bind fun t285 => (if t285 = true then (some false) else (if x3_3.length < 17592186044416 then (impl_GoodMix.l0 k3 (x3_3 ++ [t283]) l0_0 (l0_0.length : Int) (wrap64 (x60_3 + 1)) l0_0 a0_1 a0_2 a0_3 l0_4) else (none)))) else (some false))) = some r := H
          replace H := bS H; obtain ⟨t284, A36, H⟩ := H
          replace H : (if t284 = true then ((slices_Contains_int_int.f k3 x3_3 t283).bind fun t285 => (if t285 = true then (some false) else (if x3_3.length < 17592186044416 then (impl_GoodMix.l0 k3 (x3_3 ++ [t283]) l0_0 (l0_0.length : Int) (wrap64 (x60_3 + 1)) l0_0 a0_1 a0_2 a0_3 l0_4) else (none)))) else (some false)) = some r := H
          by_cases c37 : t284 = true
          ·subst c37
           have H1 : ((slices_Contains_int_int.f k3 x3_3 t283).bind fun t285 => (if t285 = true then (some false) else (if x3_3.length < 17592186044416 then (impl_GoodMix.l0 k3 (x3_3 ++ [t283]) l0_0 (l0_0.length : Int) (wrap64 (x60_3 + 1)) l0_0 a0_1 a0_2 a0_3 l0_4) else (none)))) = some r := by rw [if_pos rfl] at H; exact H
           clear H
           have H := H1
           clear H1; replace H := bS H; obtain ⟨t285, A38, H⟩ := H
           replace H : (if t285 = true then (some false) else (if x3_3.length < 17592186044416 then (impl_GoodMix.l0 k3 (x3_3 ++ [t283]) l0_0 (l0_0.length : Int) (wrap64 (x60_3 + 1)) l0_0 a0_1 a0_2 a0_3 l0_4) else (none))) = some r := H
           by_cases c39 : t285 = true
           ·subst c39
            have H1 : (some false) = some r := by rw [if_pos rfl] at H; exact H
            clear H
            have H := H1
            clear H1
            obtain rfl := Option.some.inj H
            have p282 : 0 ≤ (x60_3 : Int) := da
            have q282 : x60_3 < (l0_0.length : Int) := da
            obtain ⟨ad282, e282, hx282_0⟩ := Kd.at_string HR0_0.out x60_3 p282 q282
            cases e282
            replace hx282_0 := (HB.out.cell (World.block_lt_of_cell? w _ hx282_0)).trans hx282_0
            replace p282 := eq_true p282; replace q282 := eq_true q282
            go_wp2_with (first | ((with_reducible refine gate_callee (f := 102) rfl ?_); refine goesLa (some 65) rfl Try.func102 #[.string (rdOf ByteArray.empty l0_0 x60_3)] rfl ?_; (with_reducible refine (impl_tag.calls k3 (rdOf ByteArray.empty l0_0 x60_3) t283 _ A35.out).mono ?_); rintro e w' ⟨rfl, ⟨nd, rfl⟩⟩; refine ⟨_, rfl, ?_⟩; obtain ⟨hcz40_0, hcz40_1, hcz40_2, hcz40_3, hcz40_4, hfz40_0, hfz40_1, hfz40_2, hfz40_3, hfz40_4⟩ := box5 BK272) | ((with_reducible refine gate_callee (f := 103) rfl ?_); refine goesLa (some 69) rfl Try.func103 #[.slice A0_4 l0_4.length c0_4, .int .i64 t283] rfl ?_; (with_reducible refine (slices_Contains_int_int.calls k3 _ _ l0_4 t283 true _ ?side1 ?side2 A36.out).mono ?_); (case side1 => exact cd (Kd.C_below HR0_4.out (belowg1 HB GE272))); (case side2 => exact HC0_4.out); rintro e w' ⟨rfl, ⟨nd, rfl⟩⟩; refine ⟨_, rfl, ?_⟩; obtain ⟨Ao41, co41, eo41⟩ := Kd.R_slice HO_3.out; subst eo41) | (go_at_call 103; (with_reducible refine (slices_Contains_int_int.calls k3 _ _ x3_3 t283 true _ ?side1 ?side2 A38.out).mono ?_); (case side1 => exact cd (Kd.R_reads' HO_3.out).2.2); (case side2 => exact (Kd.R_reads' HO_3.out).2.1); rintro e w' ⟨rfl, ⟨nd, rfl⟩⟩))
            go_ret
            exact ⟨er2, belowg1 HB GE272⟩
           ·replace c39 := Bool.eq_false_iff.mpr c39
            subst c39
            have H1 : (if x3_3.length < 17592186044416 then (impl_GoodMix.l0 k3 (x3_3 ++ [t283]) l0_0 (l0_0.length : Int) (wrap64 (x60_3 + 1)) l0_0 a0_1 a0_2 a0_3 l0_4) else (none)) = some r := by rw [if_neg (show ¬ (false = true) by decide)] at H; exact H
            clear H
            have H := H1
            clear H1; replace H := ifS H; obtain ⟨c42, H⟩ := H; have LMc42 := Aside0.mk c42; clear c42
            obtain ⟨y286, hy_⟩ : ∃ y_ : List Int, y_ = (x3_3 ++ [t283]) := ⟨_, rfl⟩
            replace H : (impl_GoodMix.l0 k3 y286 l0_0 (l0_0.length : Int) (wrap64 (x60_3 + 1)) l0_0 a0_1 a0_2 a0_3 l0_4) = some r := yH
            have Ny286 := ak hy_; clear hy_
            have H' := Aside0.mk H
            clear H
            have p282 : 0 ≤ (x60_3 : Int) := da
            have q282 : x60_3 < (l0_0.length : Int) := da
            obtain ⟨ad282, e282, hx282_0⟩ := Kd.at_string HR0_0.out x60_3 p282 q282
            cases e282
            replace hx282_0 := (HB.out.cell (World.block_lt_of_cell? w _ hx282_0)).trans hx282_0
            replace p282 := eq_true p282; replace q282 := eq_true q282
            go_wp2_with (first | ((with_reducible refine gate_callee (f := 102) rfl ?_); refine goesLa (some 65) rfl Try.func102 #[.string (rdOf ByteArray.empty l0_0 x60_3)] rfl ?_; (with_reducible refine (impl_tag.calls k3 (rdOf ByteArray.empty l0_0 x60_3) t283 _ A35.out).mono ?_); rintro e w' ⟨rfl, ⟨nd, rfl⟩⟩; refine ⟨_, rfl, ?_⟩; obtain ⟨hcz43_0, hcz43_1, hcz43_2, hcz43_3, hcz43_4, hfz43_0, hfz43_1, hfz43_2, hfz43_3, hfz43_4⟩ := box5 BK272) | ((with_reducible refine gate_callee (f := 103) rfl ?_); refine goesLa (some 69) rfl Try.func103 #[.slice A0_4 l0_4.length c0_4, .int .i64 t283] rfl ?_; (with_reducible refine (slices_Contains_int_int.calls k3 _ _ l0_4 t283 true _ ?side1 ?side2 A36.out).mono ?_); (case side1 => exact cd (Kd.C_below HR0_4.out (belowg1 HB GE272))); (case side2 => exact HC0_4.out); rintro e w' ⟨rfl, ⟨nd, rfl⟩⟩; refine ⟨_, rfl, ?_⟩; obtain ⟨Ao44, co44, eo44⟩ := Kd.R_slice HO_3.out; subst eo44) | (go_at_call 103; (with_reducible refine (slices_Contains_int_int.calls k3 _ _ x3_3 t283 false _ ?side1 ?side2 A38.out).mono ?_); (case side1 => exact cd (Kd.R_reads' HO_3.out).2.2); (case side2 => exact (Kd.R_reads' HO_3.out).2.1); rintro e w' ⟨rfl, ⟨nd, rfl⟩⟩) | ((with_reducible refine gate_builtin (b := .append) (xs := #[.tmp 76, .tmp 78]) rfl ?_); (try (refine gate_guard (by rfl) ?_; dsimp only)); at_builtin; refine Kd.R_append (Kd.int .i64) (w0 := w) w.heap.size rfl (.tmp 76) (.tmp 78) 23 3 (.int .i64 0) 8 rfl Try.underlying23 info3 rfl (by decide) (by omega) (.slice Ao44 x3_3.length co44) x3_3 t283 [.int .i64 t283] (fun _ => True) (fun _ => False) rfl rfl ?aP (fun _ hk => hk.elim) ?aF ?aO ?aB ?aS ?aL ?_; (case aP => exact rfl); (case aB => exact (belowg1 HB GE272)); (case aF => exact (fun _ _ => trivial)); (case aO => exact (rdl HO_3)); (case aS => exact (below_size (belowg1 HB GE272))); (case aL => have := LMc42.out; omega); intro v287 w45 ho hb hg hat; rw [← Ny286.out] at ho; replace BK272 := ak (blk_grown (blkd BK272) hg (Kd.R_ne HO_3.out BK272.out (by decide))); replace HB := ak (hb); have HO288 := ak (ho); clear HO_3; clear ho hb hg hat))
            go_roundg k3
            case measure => have := HJ1.out; have := HJ22.out; have := HK3.out; omega
            case rel => exact ⟨(y286), (wrap64 (x60_3 + 1)), er, H', ⟨by have := HJ1.out; have := HJ22.out; have := HK3.out; omega⟩, ⟨rdl HO288⟩, ⟨blkd BK272⟩, ⟨belowg1 HB GE272⟩⟩
          ·replace c37 := Bool.eq_false_iff.mpr c37
           subst c37
           have H1 : (some false) = some r := by rw [if_neg (show ¬ (false = true) by decide)] at H; exact H
           clear H
           have H := H1
           clear H1
           obtain rfl := Option.some.inj H
           have p282 : 0 ≤ (x60_3 : Int) := da
           have q282 : x60_3 < (l0_0.length : Int) := da
           obtain ⟨ad282, e282, hx282_0⟩ := Kd.at_string HR0_0.out x60_3 p282 q282
           cases e282
           replace hx282_0 := (HB.out.cell (World.block_lt_of_cell? w _ hx282_0)).trans hx282_0
           replace p282 := eq_true p282; replace q282 := eq_true q282
           go_wp2_with (first | ((with_reducible refine gate_callee (f := 102) rfl ?_); refine goesLa (some 65) rfl Try.func102 #[.string (rdOf ByteArray.empty l0_0 x60_3)] rfl ?_; (with_reducible refine (impl_tag.calls k3 (rdOf ByteArray.empty l0_0 x60_3) t283 _ A35.out).mono ?_); rintro e w' ⟨rfl, ⟨nd, rfl⟩⟩; refine ⟨_, rfl, ?_⟩; obtain ⟨hcz46_0, hcz46_1, hcz46_2, hcz46_3, hcz46_4, hfz46_0, hfz46_1, hfz46_2, hfz46_3, hfz46_4⟩ := box5 BK272) | ((with_reducible refine gate_callee (f := 103) rfl ?_); refine goesLa (some 69) rfl Try.func103 #[.slice A0_4 l0_4.length c0_4, .int .i64 t283] rfl ?_; (with_reducible refine (slices_Contains_int_int.calls k3 _ _ l0_4 t283 false _ ?side1 ?side2 A36.out).mono ?_); (case side1 => exact cd (Kd.C_below HR0_4.out (belowg1 HB GE272))); (case side2 => exact HC0_4.out); rintro e w' ⟨rfl, ⟨nd, rfl⟩⟩; refine ⟨_, rfl, ?_⟩))
           go_ret
           exact ⟨er2, belowg1 HB GE272⟩
         ·rw [if_neg c32] at H
          have c32b0 : decide (x60_3 < (l0_0.length : Int)) = false := decide_eq_false c32
          clear c32
          obtain rfl := Option.some.inj H
          go_wp2
          go_ret
          exact ⟨er2, belowg1 HB GE272⟩

/-! ### slices_Clone_string_string: function 178 -/
def slices_Clone_string_string.f (l0 : List ByteArray) : Option (List ByteArray) := (some (([] : List ByteArray) : List ByteArray)).bind fun y289 => (if y289.length + l0.length < 8796093022208 then (some (y289 ++ l0)) else (none))
theorem clonenil178 (w : World) (a : Option Addr) (m c m' c' : Nat) : (Go.binOp .eql 22 (.slice a m c) (.slice none m' c')).run Try.prog w = .ok (.bool a.isNone) w := Go.Lib.run_eql_slice_nil w 22 9 a m c m' c' Try.underlying22
attribute [local go_sem high] clonenil178
set_option maxHeartbeats 8000000 in
set_option maxRecDepth 100000 in
theorem slices_Clone_string_string.calls_some (ad0 : Addr) (c0 : Nat) (l0 : List ByteArray) (r : List ByteArray) (w : World) (hr0 : Kd.C Kd.string w (some ad0) l0.length l0) (hc0 : l0.length ≤ c0) (h : slices_Clone_string_string.f l0 = some r) :
  Calls Try.prog 178 #[.slice (some ad0) l0.length c0] w fun e w' => ∃ v0_ : Value, e = .returned (v0_) ∧ Kd.R Kd.string 9 w' w.heap.size (fun _ => True) v0_ r ∧ Below w.heap.size w w' := by
 have HR0 := Aside0.mk hr0; have HC0 := Aside0.mk hc0; clear hr0 hc0
 have HB := Aside0.mk (Below.refl w.heap.size w)
 have H : ((some (([] : List ByteArray) : List ByteArray)).bind fun y289 => (if y289.length + l0.length < 8796093022208 then (some (y289 ++ l0)) else (none))) = some r := h
 clear h
 obtain ⟨y289, hy_⟩ : ∃ y_ : List ByteArray, y_ = (([] : List ByteArray)) := ⟨_, rfl⟩
 replace H : (if y289.length + l0.length < 8796093022208 then (some (y289 ++ l0)) else (none)) = some r := yH
 have Ny289 := ak hy_; clear hy_; replace H := ifS H; obtain ⟨c2, H⟩ := H; have LMc2 := Aside0.mk c2; clear c2
 obtain ⟨y292, hy_⟩ : ∃ y_ : List ByteArray, y_ = (y289 ++ l0) := ⟨_, rfl⟩
 replace H : (some y292) = some r := yH
 have Ny292 := ak hy_; clear hy_
 obtain rfl := Option.some.inj H
 go_enter Try.func178, Try.ntmps178
 go_wp2_with (first | ((with_reducible refine gate_dst (N := 5) rfl ?_); refine Kd.R_lit Kd.string _ 9 ?hg (N := 5) ?hd (xs := ([] : List ByteArray)) (inner := []) (ok := fun _ => True) (okp := fun _ => True) ?hr ?hp (fun _ hk => hk) trivial (Below.refl _ _) (Nat.le_refl _) (by simp) ?_; (case hd => rfl); (case hg => rfl); (case hr => first | (go_simp; done) | (go_simp; rfl)); (case hp => exact (Reps.none _ _)); intro v290 w3 ho4 hb hg_ hnew_; clear hg_ hnew_; (first | rw [← Ny289.out] at ho4 | (simp only [Int.reduceToNat] at ho4; rw [← Ny289.out] at ho4)); have HO291 := ak (Kd.R_lower ho4 (below_size (belowd HB))); replace HB := ak (below_step (belowd HB) hb); clear hb ho4) | ((with_reducible refine gate_builtin (b := .append) (xs := #[.tmp 5, .tmp 6]) rfl ?_); at_builtin; refine Kd.R_append_rows Kd.string (w0 := w) w.heap.size rfl (.tmp 5) (.tmp 6) 22 9 (.string ⟨#[]⟩) 16 rfl Try.underlying22 info9 rfl (by decide) (by omega) v290 y289 l0 _ _ _ (fun _ => True) (fun _ => False) rfl rfl ?aO ?aR (fun _ _ h => h) (fun _ h => h.elim) ?aF ?aB ?aS ?aL ?_; (case aR => exact cd (Kd.C_below HR0.out HB.out)); (case aB => exact (belowd HB)); (case aF => exact (fun _ _ => trivial)); (case aO => exact (rdl HO291)); (case aS => exact (below_size (belowd HB))); (case aL => have := LMc2.out; omega); intro v293 w5 ho hb hg hat; rw [← Ny292.out] at ho; replace HB := ak (hb); have HO294 := ak (ho); clear HO291; clear ho hb hg hat))
 go_ret
 exact ⟨_, er2, by (with_reducible repeat (first | apply Kd.R_alloc | apply Kd.R_drewN | apply Kd.R_drew)); exact HO294.out, belowd HB⟩

set_option maxHeartbeats 8000000 in
set_option maxRecDepth 100000 in
theorem slices_Clone_string_string.calls (A0 : Option Addr) (c0 : Nat) (l0 : List ByteArray) (r : List ByteArray) (w : World) (hr0 : Kd.C Kd.string w A0 l0.length l0) (hc0 : l0.length ≤ c0) (h : slices_Clone_string_string.f l0 = some r) :
  Calls Try.prog 178 #[.slice A0 l0.length c0] w fun e w' => ∃ v0_ : Value, e = .returned (v0_) ∧ Kd.R Kd.string 9 w' w.heap.size (fun _ => True) v0_ r ∧ Below w.heap.size w w' := by
 cases A0 with
 | some ad0 => exact slices_Clone_string_string.calls_some ad0 c0 l0 r w hr0 hc0 h
 | none =>
  have hl : l0 = [] := by
   rcases Nat.eq_zero_or_pos l0.length with h0 | h0
   ·exact List.eq_nil_of_length_eq_zero h0
   ·obtain ⟨ad, he, _⟩ := hr0.2.2 h0
    cases he
  subst hl
  have hr : r = [] := by
   have h' := h
   simp [slices_Clone_string_string.f] at h'
   first | exact h'.symm | exact h'
  subst hr; clear h hr0 hc0
  go_enter Try.func178, Try.ntmps178
  go_wp2
  go_ret
  exact ⟨_, rfl, Kd.R_nil _ _ _ _ _, Below.refl _ _⟩

/-! ### slices_Clone_int_int: function 179 -/
def slices_Clone_int_int.f (l0 : List Int) : Option (List Int) := (some (([] : List Int) : List Int)).bind fun y295 => (if y295.length + l0.length < 17592186044416 then (some (y295 ++ l0)) else (none))
theorem clonenil179 (w : World) (a : Option Addr) (m c m' c' : Nat) : (Go.binOp .eql 23 (.slice a m c) (.slice none m' c')).run Try.prog w = .ok (.bool a.isNone) w := Go.Lib.run_eql_slice_nil w 23 3 a m c m' c' Try.underlying23
attribute [local go_sem high] clonenil179
set_option maxHeartbeats 8000000 in
set_option maxRecDepth 100000 in
theorem slices_Clone_int_int.calls_some (ad0 : Addr) (c0 : Nat) (l0 : List Int) (r : List Int) (w : World) (hr0 : Kd.C (Kd.int .i64) w (some ad0) l0.length l0) (hc0 : l0.length ≤ c0) (h : slices_Clone_int_int.f l0 = some r) :
  Calls Try.prog 179 #[.slice (some ad0) l0.length c0] w fun e w' => ∃ v0_ : Value, e = .returned (v0_) ∧ Kd.R (Kd.int .i64) 3 w' w.heap.size (fun _ => True) v0_ r ∧ Below w.heap.size w w' := by
 have HR0 := Aside0.mk hr0; have HC0 := Aside0.mk hc0; clear hr0 hc0
 have HB := Aside0.mk (Below.refl w.heap.size w)
 have H : ((some (([] : List Int) : List Int)).bind fun y295 => (if y295.length + l0.length < 17592186044416 then (some (y295 ++ l0)) else (none))) = some r := h
 clear h
 obtain ⟨y295, hy_⟩ : ∃ y_ : List Int, y_ = (([] : List Int)) := ⟨_, rfl⟩
 replace H : (if y295.length + l0.length < 17592186044416 then (some (y295 ++ l0)) else (none)) = some r := yH
 have Ny295 := ak hy_; clear hy_; replace H := ifS H; obtain ⟨c2, H⟩ := H; have LMc2 := Aside0.mk c2; clear c2
 obtain ⟨y298, hy_⟩ : ∃ y_ : List Int, y_ = (y295 ++ l0) := ⟨_, rfl⟩
 replace H : (some y298) = some r := yH
 have Ny298 := ak hy_; clear hy_
 obtain rfl := Option.some.inj H
 go_enter Try.func179, Try.ntmps179
 go_wp2_with (first | ((with_reducible refine gate_dst (N := 5) rfl ?_); refine Kd.R_lit (Kd.int .i64) _ 3 ?hg (N := 5) ?hd (xs := ([] : List Int)) (inner := []) (ok := fun _ => True) (okp := fun _ => True) ?hr ?hp (fun _ hk => hk) trivial (Below.refl _ _) (Nat.le_refl _) (by simp) ?_; (case hd => rfl); (case hg => rfl); (case hr => first | (go_simp; done) | (go_simp; rfl)); (case hp => exact (Reps.none _ _)); intro v296 w3 ho4 hb hg_ hnew_; clear hg_ hnew_; (first | rw [← Ny295.out] at ho4 | (simp only [Int.reduceToNat] at ho4; rw [← Ny295.out] at ho4)); have HO297 := ak (Kd.R_lower ho4 (below_size (belowd HB))); replace HB := ak (below_step (belowd HB) hb); clear hb ho4) | ((with_reducible refine gate_builtin (b := .append) (xs := #[.tmp 5, .tmp 6]) rfl ?_); at_builtin; refine Kd.R_append_rows (Kd.int .i64) (w0 := w) w.heap.size rfl (.tmp 5) (.tmp 6) 23 3 (.int .i64 0) 8 rfl Try.underlying23 info3 rfl (by decide) (by omega) v296 y295 l0 _ _ _ (fun _ => True) (fun _ => False) rfl rfl ?aO ?aR (fun _ _ h => h) (fun _ h => h.elim) ?aF ?aB ?aS ?aL ?_; (case aR => exact cd (Kd.C_below HR0.out HB.out)); (case aB => exact (belowd HB)); (case aF => exact (fun _ _ => trivial)); (case aO => exact (rdl HO297)); (case aS => exact (below_size (belowd HB))); (case aL => have := LMc2.out; omega); intro v299 w5 ho hb hg hat; rw [← Ny298.out] at ho; replace HB := ak (hb); have HO300 := ak (ho); clear HO297; clear ho hb hg hat))
 go_ret
 exact ⟨_, er2, by (with_reducible repeat (first | apply Kd.R_alloc | apply Kd.R_drewN | apply Kd.R_drew)); exact HO300.out, belowd HB⟩

set_option maxHeartbeats 8000000 in
set_option maxRecDepth 100000 in
theorem slices_Clone_int_int.calls (A0 : Option Addr) (c0 : Nat) (l0 : List Int) (r : List Int) (w : World) (hr0 : Kd.C (Kd.int .i64) w A0 l0.length l0) (hc0 : l0.length ≤ c0) (h : slices_Clone_int_int.f l0 = some r) :
  Calls Try.prog 179 #[.slice A0 l0.length c0] w fun e w' => ∃ v0_ : Value, e = .returned (v0_) ∧ Kd.R (Kd.int .i64) 3 w' w.heap.size (fun _ => True) v0_ r ∧ Below w.heap.size w w' := by
 cases A0 with
 | some ad0 => exact slices_Clone_int_int.calls_some ad0 c0 l0 r w hr0 hc0 h
 | none =>
  have hl : l0 = [] := by
   rcases Nat.eq_zero_or_pos l0.length with h0 | h0
   ·exact List.eq_nil_of_length_eq_zero h0
   ·obtain ⟨ad, he, _⟩ := hr0.2.2 h0
    cases he
  subst hl
  have hr : r = [] := by
   have h' := h
   simp [slices_Clone_int_int.f] at h'
   first | exact h'.symm | exact h'
  subst hr; clear h hr0 hc0
  go_enter Try.func179, Try.ntmps179
  go_wp2
  go_ret
  exact ⟨_, rfl, Kd.R_nil _ _ _ _ _, Below.refl _ _⟩

/-! ### impl_Mix_own: function 101 -/
def impl_Mix_own.f (l0_0 : List ByteArray) (a0_1 : Int) (a0_2 : Int) (a0_3 : Int) (l0_4 : List Int) : Option (List ByteArray × Int × Int × Int × List Int) := (slices_Clone_string_string.f l0_0).bind fun t303 => ((slices_Clone_int_int.f l0_4).bind fun t306 => (some (t303, a0_1, a0_2, a0_3, t306)))
def impl_Mix_own.T1 : Bool × List (List Nat × List Nat) := (true, [([], []), ([0], [0]), ([1], [1]), ([], []), ([3], [3]), ([4, 2], [4]), ([0, 1, 2, 3, 4], []), ([6, 2, 5, 0, 1, 2, 3, 4], [2, 6]), ([0, 1, 2, 3, 4, 5, 6, 7], []), ([8, 5, 7, 0, 1, 2, 3, 4, 5, 6, 7], [5, 8])])
def impl_Mix_own.B1 : List Nat := [0, 1, 3, 0, 8, 31, 31, 127, 255, 511]
theorem impl_Mix_own.tab1 : rtab .any (opsOf Try.f101 1) = impl_Mix_own.T1 := by kernel_rfl
theorem impl_Mix_own.bits1 : waitsOk impl_Mix_own.T1.2 impl_Mix_own.B1 = true := by kernel_rfl
set_option maxHeartbeats 8000000 in
set_option maxRecDepth 100000 in
theorem impl_Mix_own.calls (A0_0 : Option Addr) (c0_0 : Nat) (l0_0 : List ByteArray) (a0_1 : Int) (a0_2 : Int) (a0_3 : Int) (A0_4 : Option Addr) (c0_4 : Nat) (l0_4 : List Int) (r1 : List ByteArray) (r2 : Int) (r3 : Int) (r4 : Int) (r5 : List Int) (w : World) (hr0_0 : Kd.C Kd.string w A0_0 l0_0.length l0_0) (hc0_0 : l0_0.length ≤ c0_0) (hr0_4 : Kd.C (Kd.int .i64) w A0_4 l0_4.length l0_4) (hc0_4 : l0_4.length ≤ c0_4) (h : impl_Mix_own.f l0_0 a0_1 a0_2 a0_3 l0_4 = some (r1, r2, r3, r4, r5)) :
  Calls Try.prog 101 #[.agg #[.slice A0_0 l0_0.length c0_0, .int .i64 a0_1, .int .i64 a0_2, .int .i64 a0_3, .slice A0_4 l0_4.length c0_4]] w fun e w' => ∃ v0_ v4_ : Value, e = .returned (.agg #[v0_, .int .i64 r2, .int .i64 r3, .int .i64 r4, v4_]) ∧ Kd.R Kd.string 9 w' w.heap.size (fun _ => True) v0_ r1 ∧ Kd.R (Kd.int .i64) 3 w' w.heap.size (fun _ => True) v4_ r5 ∧ Below w.heap.size w w' := by
 have hu27 := Try.underlying27
 have HR0_0 := Aside0.mk hr0_0; have HC0_0 := Aside0.mk hc0_0; clear hr0_0 hc0_0; have HR0_4 := Aside0.mk hr0_4; have HC0_4 := Aside0.mk hc0_4; clear hr0_4 hc0_4
 have HB := Aside0.mk (Below.refl w.heap.size w)
 have H : ((slices_Clone_string_string.f l0_0).bind fun t303 => ((slices_Clone_int_int.f l0_4).bind fun t306 => (some (t303, a0_1, a0_2, a0_3, t306)))) = some (r1, r2, r3, r4, r5) := h
 clear h; replace H := bS H; obtain ⟨t303, A2, H⟩ := H
 replace H : ((slices_Clone_int_int.f l0_4).bind fun t306 => (some (t303, a0_1, a0_2, a0_3, t306))) = some (r1, r2, r3, r4, r5) := H
 replace H := bS H; obtain ⟨t306, A3, H⟩ := H
 replace H : (some (t303, a0_1, a0_2, a0_3, t306)) = some (r1, r2, r3, r4, r5) := H
 simp only [Option.some.injEq, Prod.mk.injEq] at H
 obtain ⟨rfl, rfl, rfl, rfl, rfl⟩ := H
 go_enter Try.func101, Try.ntmps101
 try go_wp2_with (first | ((with_reducible refine gate_dst (N := 1) rfl ?_); refine boxev 1 #[.slice A0_0 l0_0.length c0_0, .int .i64 a0_1, .int .i64 a0_2, .int .i64 a0_3, .slice A0_4 l0_4.length c0_4] 27 ?_; intro gb301 hg w4 hbox hb; have BK301 := ak (hbox); have GW301 := ak (hgl hg (belowd HB)); have GE301 := ak (hgl hg (belowd HB)); replace HB := ak (below_step (belowd HB) hb); clear hb hbox hg) | ((with_reducible refine gate_dst (N := 2) rfl ?_); refine boxev 2 #[.slice none 0 0, .int .i64 0, .int .i64 0, .int .i64 0, .slice none 0 0] 27 ?_; intro gb302 hg w5 hbox hb; have BK302 := ak (hbox); have GW302 := ak (hgl hg (belowg1 HB GE301)); have GE302 := ak (hgl hg (belowg1 HB GE301)); replace HB := ak (below_step (belowg1 HB GE301) hb); have NB301_302 := ak ((by rw [hg]; exact Nat.ne_of_lt (blk_lt (blkd BK301)) : gb301 ≠ gb302)); have NB302_301 := ak ((by rw [hg]; exact Nat.ne_of_gt (blk_lt (blkd BK301)) : gb302 ≠ gb301)); replace BK301 := ak (blk_below (blkd BK301) hb); clear hb hbox hg))
 replace BK301 := ak (blk_drew BK301.out)
 replace BK302 := ak (blk_drew BK302.out)
 replace HB := ak (below_drew1 HB.out)
 refine start_ (n := 10) (S := fun w' => w'.cell? ⟨gb301, 0, none⟩ = some (.slice A0_0 l0_0.length c0_0) ∧ w'.cell? ⟨gb301, 1, none⟩ = some (.int .i64 a0_1) ∧ w'.cell? ⟨gb301, 2, none⟩ = some (.int .i64 a0_2) ∧ w'.cell? ⟨gb301, 3, none⟩ = some (.int .i64 a0_3) ∧ w'.cell? ⟨gb301, 4, none⟩ = some (.slice A0_4 l0_4.length c0_4)) (ds := [7, 9]) (bl 10 0) (by kernel_rfl) rfl rfl ⟨bq BK301 0, bq BK301 1, bq BK301 2, bq BK301 3, bq BK301 4⟩ (fun hHeld => ?_); refine with_tabW impl_Mix_own.tab1 impl_Mix_own.bits1 (fun HT_ HW_ => ?_)
 generalize w5.drew = w6 at BK301 BK302 HB hHeld ⊢
 refine pureA 0 (some 3) 10 1 HT_ ?_
 refine pureA 3 (some 6) 10 9 HT_ ?_
 refine takeA 1 (some 4) 10 11 HT_ HW_ hHeld ?_ (hy := by rintro w' ⟨s0, s1, s2, s3, s4⟩; go_simp; with_reducible rfl)
 refine takeA 4 (some 7) 10 27 HT_ HW_ hHeld ?_ (hy := by rintro w' ⟨s0, s1, s2, s3, s4⟩; go_simp; with_reducible rfl)
 refine oneA 2 (some 5) 10 31 HT_ (fun K hK => ?_)
 refine goes_ Try.func178 (by kernel_rfl) rfl #[.slice A0_0 l0_0.length c0_0] (by rfl) rfl rfl (by (try simp only [List.map_toArray, List.map_cons, List.map_nil]); first | done | rfl | (simp only [List.length_drop, List.length_take]; rfl)) ?_
 with_reducible refine (slices_Clone_string_string.calls _ _ l0_0 t303 _ ?side1 ?side2 A2.out).mono ?_
 (case side1 => exact cd (Kd.C_below HR0_0.out HB.out))
 (case side2 => exact HC0_0.out)
 rintro e w7 ⟨v304, rfl, ho0, hb⟩
 refine ⟨_, rfl, ?_⟩
 have HO305 := ak (Kd.R_lower ho0 (below_size (belowg2 HB GE301 GE302)))
 replace BK301 := ak (blk_below (blkd BK301) hb)
 replace BK302 := ak (blk_below (blkd BK302) hb)
 replace HB := ak (below_step (belowg2 HB GE301 GE302) hb)
 (try clear hb); (try clear hb2); (try clear hk); (try clear hi); (try clear ho0)
 refine hK.out _ _ ⟨bq BK301 0, bq BK301 1, bq BK301 2, bq BK301 3, bq BK301 4⟩ (fun hHeld => ?_)
 clear hK K
 refine norm_ (a' := ?_) ?_ ?_
 rotate_left
 ·show Act.put _ (some 5) _ = _
  simp only [Act.put, List.setIfInBounds_toArray, List.set_cons_zero, List.set_cons_succ, i64_w, i32_w]
  rfl
 refine pureA 6 (some 9) 10 95 HT_ ?_
 refine oneA 5 (some 8) 10 127 HT_ (fun K hK => ?_)
 refine goes_ Try.func179 (by kernel_rfl) rfl #[.slice A0_4 l0_4.length c0_4] (by rfl) rfl rfl (by (try simp only [List.map_toArray, List.map_cons, List.map_nil]); first | done | rfl | (simp only [List.length_drop, List.length_take]; rfl)) ?_
 with_reducible refine (slices_Clone_int_int.calls _ _ l0_4 t306 _ ?side1 ?side2 A3.out).mono ?_
 (case side1 => exact cd (Kd.C_below HR0_4.out HB.out))
 (case side2 => exact HC0_4.out)
 rintro e w8 ⟨v307, rfl, ho0, hb⟩
 refine ⟨_, rfl, ?_⟩
 replace HO305 := ak (Kd.R_below (rdl HO305) hb)
 have HO308 := ak (Kd.R_lower ho0 (below_size (belowg2 HB GE301 GE302)))
 replace BK301 := ak (blk_below (blkd BK301) hb)
 replace BK302 := ak (blk_below (blkd BK302) hb)
 replace HB := ak (below_step (belowg2 HB GE301 GE302) hb)
 (try clear hb); (try clear hb2); (try clear hk); (try clear hi); (try clear ho0)
 obtain ⟨Ao9, co9, eo9⟩ := Kd.R_slice HO305.out
 (first | subst eo9 | (injection eo9 with f1_ f2_ f3_; have f4_ := f1_.symm; have f5_ := f3_.symm; clear f1_ f2_ f3_; subst f4_; subst f5_))
 obtain ⟨Ao11, co11, eo11⟩ := Kd.R_slice HO308.out
 (first | subst eo11 | (injection eo11 with f1_ f2_ f3_; have f4_ := f1_.symm; have f5_ := f3_.symm; clear f1_ f2_ f3_; subst f4_; subst f5_))
 refine hK.out _ _ ⟨bq BK301 0, bq BK301 1, bq BK301 2, bq BK301 3, bq BK301 4⟩ (fun hHeld => ?_)
 clear hK K
 refine norm_ (a' := ?_) ?_ ?_
 rotate_left
 ·show Act.put _ (some 8) _ = _
  simp only [Act.put, List.setIfInBounds_toArray, List.set_cons_zero, List.set_cons_succ, i64_w, i32_w]
  rfl
 refine last_ (i := 7) (N := none) (bl 10 255) rfl rfl (one_of HT_.out (by kernel_rfl)) (by decide) (fun K hK => ?_)
 have hs10 : w8.cell? ⟨gb301, 0, none⟩ = some (.slice A0_0 l0_0.length c0_0) := bq BK301 0
 have hfs10 := blk_frozen BK301.out 0
 have hns10_1 := NB302_301.out; have hms10_1 := NB301_302.out
 refine skip_ (w1 := ?_) (by rfl) rfl ?_ ?_
 rotate_left
 ·go_simp
  rfl
 refine hK.out _ _ ?_
 clear hK K
 refine pureA 8 (some 10) 10 511 HT_ ?_
 refine last_ (i := 9) (N := none) (bl 10 1023) rfl rfl (one_of HT_.out (by kernel_rfl)) (by decide) (fun K hK => ?_)
 have hs12 : w8.cell? ⟨gb301, 4, none⟩ = some (.slice A0_4 l0_4.length c0_4) := bq BK301 4
 have hfs12 := blk_frozen BK301.out 4
 have hns12_1 := NB302_301.out; have hms12_1 := NB301_302.out
 refine skip_ (w1 := ?_) (by rfl) rfl ?_ ?_
 rotate_left
 ·go_simp
  rfl
 refine hK.out _ _ ?_
 clear hK K
 refine done_ (done_of HT_.out (by kernel_rfl)) ?_
 have hnb13 := NB301_302.out; have hnc13 := NB302_301.out; obtain ⟨hcz14_0, hcz14_1, hcz14_2, hcz14_3, hcz14_4, hfz14_0, hfz14_1, hfz14_2, hfz14_3, hfz14_4⟩ := box5 BK301; obtain ⟨hcz15_0, hcz15_1, hcz15_2, hcz15_3, hcz15_4, hfz15_0, hfz15_1, hfz15_2, hfz15_3, hfz15_4⟩ := box5 BK302
 try go_wp2
 refine bodyPost_ret (results_cell_row rfl _ _ gb302 27 #[.slice Ao9 t303.length co9, .int .i64 a0_1, .int .i64 a0_2, .int .i64 a0_3, .slice Ao11 t306.length co11] (0, 0) _ rfl (by (with_reducible repeat (first | refine blk_drewN ?_ _ | refine blk_drew ?_ | refine blk_alloc ?_ _)); refine blk_put (cs := #[.slice Ao9 t303.length co9, .int .i64 a0_1, .int .i64 a0_2, .int .i64 a0_3, .slice none 0 0]) ?_ 4 _ rfl; (with_reducible repeat (first | refine blk_drewN ?_ _ | refine blk_drew ?_ | refine blk_alloc ?_ _)); refine blk_put (cs := #[.slice Ao9 t303.length co9, .int .i64 a0_1, .int .i64 a0_2, .int .i64 0, .slice none 0 0]) ?_ 3 _ rfl; (with_reducible repeat (first | refine blk_drewN ?_ _ | refine blk_drew ?_ | refine blk_alloc ?_ _)); refine blk_put (cs := #[.slice Ao9 t303.length co9, .int .i64 a0_1, .int .i64 0, .int .i64 0, .slice none 0 0]) ?_ 2 _ rfl; (with_reducible repeat (first | refine blk_drewN ?_ _ | refine blk_drew ?_ | refine blk_alloc ?_ _)); refine blk_put (cs := #[.slice Ao9 t303.length co9, .int .i64 0, .int .i64 0, .int .i64 0, .slice none 0 0]) ?_ 1 _ rfl; (with_reducible repeat (first | refine blk_drewN ?_ _ | refine blk_drew ?_ | refine blk_alloc ?_ _)); refine blk_put (cs := #[.slice none 0 0, .int .i64 0, .int .i64 0, .int .i64 0, .slice none 0 0]) ?_ 0 _ rfl; (with_reducible repeat (first | refine blk_drewN ?_ _ | refine blk_drew ?_ | refine blk_alloc ?_ _)); refine blk_far ?_ NB302_301.out _; (with_reducible repeat (first | refine blk_drewN ?_ _ | refine blk_drew ?_ | refine blk_alloc ?_ _)); refine blk_far ?_ NB302_301.out _; (with_reducible repeat (first | refine blk_drewN ?_ _ | refine blk_drew ?_ | refine blk_alloc ?_ _)); exact BK302.out) Try.underlying27 rfl (by kernel_rfl)) rfl ?_
 exact ⟨_, _, er2, by (with_reducible repeat (first | apply Kd.R_alloc | apply Kd.R_drewN | apply Kd.R_drew)); exact Kd.R_mono (farsR (Kd.R_types (Kd.R_types HO305.out BK301.out (by decide)) BK302.out (by decide))) (fun _ hk => trivial), by (with_reducible repeat (first | apply Kd.R_alloc | apply Kd.R_drewN | apply Kd.R_drew)); exact Kd.R_mono (farsR (Kd.R_types (Kd.R_types HO308.out BK301.out (by decide)) BK302.out (by decide))) (fun _ hk => trivial), belowg2 HB GE301 GE302⟩

/-! ### slices_isNaN_string: function 217 -/
def slices_isNaN_string.f (a0 : ByteArray) : Option (Bool) := some (a0.toList != a0.toList)
set_option maxHeartbeats 8000000 in
set_option maxRecDepth 100000 in
theorem slices_isNaN_string.calls (a0 : ByteArray) (r : Bool) (w : World) (h : slices_isNaN_string.f a0 = some r) :
  Calls Try.prog 217 #[.string a0] w fun e w' => e = .returned (.bool r) ∧ Drawn0 w w' := by
 have H : (some (a0.toList != a0.toList)) = some r := h
 clear h
 obtain rfl := Option.some.inj H
 go_enter Try.func217, Try.ntmps217
 go_wp2
 go_ret
 exact ⟨er, drw⟩

/-! ### slices_BinarySearch_string_string: function 181 -/
def slices_BinarySearch_string_string.l0 : Nat → List ByteArray → ByteArray → Int → Int → Int → Option (Int × Bool)
  | 0, _, _, _, _, _ => none
  | k + 1, x0, x1, x6, x7, x8 => if x7 < x8 then (if 0 ≤ (wrap64 ((IntKind.u64.wrap (wrap64 (x7 + x8))) / 2)) then (if (wrap64 ((IntKind.u64.wrap (wrap64 (x7 + x8))) / 2)) < (x0.length : Int) then ((cmp_Less_string.f (rdOf ByteArray.empty x0 (wrap64 ((IntKind.u64.wrap (wrap64 (x7 + x8))) / 2))) x1).bind fun t310 => (if t310 = true then (slices_BinarySearch_string_string.l0 k x0 x1 x6 (wrap64 ((wrap64 ((IntKind.u64.wrap (wrap64 (x7 + x8))) / 2)) + 1)) x8) else (slices_BinarySearch_string_string.l0 k x0 x1 x6 x7 (wrap64 ((IntKind.u64.wrap (wrap64 (x7 + x8))) / 2))))) else (none)) else (none)) else (if x7 < x6 then (if 0 ≤ x7 then (if x7 < (x0.length : Int) then (if (rdOf ByteArray.empty x0 x7).toList = x1.toList then (some (x7, true)) else ((slices_isNaN_string.f (rdOf ByteArray.empty x0 x7)).bind fun t313 => (if t313 = true then ((slices_isNaN_string.f x1).bind fun t314 => (some (x7, t314))) else (some (x7, false))))) else (none)) else (none)) else (some (x7, false)))
def slices_BinarySearch_string_string.f (k : Nat) (l0 : List ByteArray) (a1 : ByteArray) : Option (Int × Bool) := slices_BinarySearch_string_string.l0 k l0 a1 (l0.length : Int) 0 (l0.length : Int)
theorem slices_BinarySearch_string_string.mono_l : ∀ k, (∀ y0 y1 y2 y3 y4, LeO (slices_BinarySearch_string_string.l0 k y0 y1 y2 y3 y4) (slices_BinarySearch_string_string.l0 (k + 1) y0 y1 y2 y3 y4))
 | 0 => fun _ _ _ _ _ r h => by simp [slices_BinarySearch_string_string.l0] at h
 | k + 1 => by
  have ih0 := slices_BinarySearch_string_string.mono_l k
  ·intro y0 y1 y2 y3 y4
   unfold slices_BinarySearch_string_string.l0
   repeat' (first | (with_reducible first | exact ih0 _ _ _ _ _ | exact LeO.refl _ | exact LeO.none _ | refine LeO.ite ?_ ?_ | refine LeO.bind ?_ (fun _ => ?_)) | exact ih0 _ _ _ _ _ | exact LeO.none _ | refine LeO.ite ?_ ?_ | refine LeO.bind ?_ (fun _ => ?_))
theorem slices_BinarySearch_string_string.mono : ∀ a0 a1 k, LeO (slices_BinarySearch_string_string.f k a0 a1) (slices_BinarySearch_string_string.f (k + 1) a0 a1) := by
 intro a0 a1 k
 have ih0 := slices_BinarySearch_string_string.mono_l k
 unfold slices_BinarySearch_string_string.f
 repeat' (first | (with_reducible first | exact ih0 _ _ _ _ _ | exact LeO.refl _ | exact LeO.none _ | refine LeO.ite ?_ ?_ | refine LeO.bind ?_ (fun _ => ?_)) | exact ih0 _ _ _ _ _ | exact LeO.none _ | refine LeO.ite ?_ ?_ | refine LeO.bind ?_ (fun _ => ?_))
set_option maxHeartbeats 8000000 in
set_option maxRecDepth 100000 in
theorem slices_BinarySearch_string_string.calls (k : Nat) (A0 : Option Addr) (c0 : Nat) (l0 : List ByteArray) (a1 : ByteArray) (r1 : Int) (r2 : Bool) (w : World) (hr0 : Kd.C Kd.string w A0 l0.length l0) (hc0 : l0.length ≤ c0) (h : slices_BinarySearch_string_string.f k l0 a1 = some (r1, r2)) :
  Calls Try.prog 181 #[.slice A0 l0.length c0, .string a1] w fun e w' => e = .returned (.tuple #[.int .i64 r1, .bool r2]) ∧ Drawn0 w w' := by
 have HR0 := Aside0.mk hr0; have HC0 := Aside0.mk hc0; clear hr0 hc0
 have H : (slices_BinarySearch_string_string.l0 k l0 a1 (l0.length : Int) 0 (l0.length : Int)) = some (r1, r2) := h
 clear h
 have H' := Aside0.mk H
 clear H
 go_enter Try.func181, Try.ntmps181
 go_wp2
 go_loopg [7, 8] k (fun kq v7 v8 w' => ∃ (x7_1 : Int) (x8_1 : Int), v7 = .int .i64 x7_1 ∧ v8 = .int .i64 x8_1 ∧ Aside0 (slices_BinarySearch_string_string.l0 kq l0 a1 (l0.length : Int) x7_1 x8_1 = some (r1, r2)) ∧ Aside0 (kq ≤ k) ∧ Drawn0 w w')
 case atStart => exact ⟨(0), ((l0.length : Int)), er, er, H', ⟨Nat.le_refl _⟩, drw⟩
 case round =>
  clear H'
  obtain ⟨x7_1, x8_1, rfl, rfl, HA, HK1, ⟨m1, rfl⟩⟩ := hrel
  cases gk with
  | zero => exact absurd HA.out (by simp [slices_BinarySearch_string_string.l0])
  | succ k1 =>
   have H := HA.out; clear HA
   simp only [slices_BinarySearch_string_string.l0] at H
   by_cases c3 : x7_1 < x8_1
   ·rw [if_pos c3] at H
    have c3b0 : decide (x7_1 < x8_1) = true := decide_eq_true c3
    clear c3
    obtain ⟨ji4, hji4⟩ : ∃ j_ : Int, (wrap64 ((IntKind.u64.wrap (wrap64 (x7_1 + x8_1))) / 2)) = j_ := ⟨_, rfl⟩
    replace H : (if 0 ≤ (ji4) then (if (ji4) < (l0.length : Int) then ((cmp_Less_string.f (rdOf ByteArray.empty l0 (ji4)) a1).bind fun t310 => (if t310 = true then (slices_BinarySearch_string_string.l0 k1 l0 a1 (l0.length : Int) (wrap64 ((ji4) + 1)) x8_1) else (slices_BinarySearch_string_string.l0 k1 l0 a1 (l0.length : Int) x7_1 ji4))) else (none)) else (none)) = some (r1, r2) := by first | (rw [hji4] at H; exact H) | (simp only [hji4] at H ⊢; exact H)
    have hji4w : (IntKind.i64.wrap ((IntKind.u64.wrap (wrap64 (x7_1 + x8_1))) / 2)) = ji4 := (i64_w _).trans hji4
    replace H := ifS H; obtain ⟨c5, H⟩ := H; have c5b0 := decide_eq_true c5; clear c5; replace H := ifS H; obtain ⟨c6, H⟩ := H; have c6b0 := decide_eq_true c6; clear c6; replace H := bS H; obtain ⟨t310, A7, H⟩ := H
    replace H : (if t310 = true then (slices_BinarySearch_string_string.l0 k1 l0 a1 (l0.length : Int) (wrap64 ((ji4) + 1)) x8_1) else (slices_BinarySearch_string_string.l0 k1 l0 a1 (l0.length : Int) x7_1 ji4)) = some (r1, r2) := H
    by_cases c8 : t310 = true
    ·subst c8
     have H1 : (slices_BinarySearch_string_string.l0 k1 l0 a1 (l0.length : Int) (wrap64 ((ji4) + 1)) x8_1) = some (r1, r2) := by rw [if_pos rfl] at H; exact H
     clear H
     have H := H1
     clear H1
     have H' := Aside0.mk H
     clear H
     have p309 : 0 ≤ ((ji4) : Int) := da
     have q309 : (ji4) < (l0.length : Int) := da
     obtain ⟨ad309, e309, hx309_0⟩ := Kd.at_string HR0.out (ji4) p309 q309
     cases e309
     replace p309 := eq_true p309; replace q309 := eq_true q309
     go_wp2_with (first | ((with_reducible refine gate_callee (f := 216) rfl ?_); refine goesL_ (some 27) rfl rfl Try.func216 (by kernel_rfl) rfl #[.string (rdOf ByteArray.empty l0 (ji4)), .string a1] rfl (by (try simp only [List.map_toArray, List.map_cons, List.map_nil]); first | done | (simp only [hji4]; rfl) | rfl | (simp only [List.length_drop, List.length_take]; rfl)) ?_; (with_reducible refine (cmp_Less_string.calls (rdOf ByteArray.empty l0 (ji4)) a1 true _ A7.out).mono ?_); rintro e w' ⟨rfl, ⟨nd, rfl⟩⟩; refine ⟨_, rfl, ?_⟩))
     go_roundg k1
     case measure => have := HK1.out; omega
     case rel => exact ⟨(wrap64 ((ji4) + 1)), (x8_1), (by first | rfl | (simp; done) | (simp only [← hji4] <;> (first | rfl | simp)) | (simp [*]; done)), er, H', ⟨by have := HK1.out; omega⟩, drw⟩
    ·replace c8 := Bool.eq_false_iff.mpr c8
     subst c8
     have H1 : (slices_BinarySearch_string_string.l0 k1 l0 a1 (l0.length : Int) x7_1 ji4) = some (r1, r2) := by rw [if_neg (show ¬ (false = true) by decide)] at H; exact H
     clear H
     have H := H1
     clear H1
     have H' := Aside0.mk H
     clear H
     have p309 : 0 ≤ ((ji4) : Int) := da
     have q309 : (ji4) < (l0.length : Int) := da
     obtain ⟨ad309, e309, hx309_0⟩ := Kd.at_string HR0.out (ji4) p309 q309
     cases e309
     replace p309 := eq_true p309; replace q309 := eq_true q309
     go_wp2_with (first | ((with_reducible refine gate_callee (f := 216) rfl ?_); refine goesL_ (some 27) rfl rfl Try.func216 (by kernel_rfl) rfl #[.string (rdOf ByteArray.empty l0 (ji4)), .string a1] rfl (by (try simp only [List.map_toArray, List.map_cons, List.map_nil]); first | done | (simp only [hji4]; rfl) | rfl | (simp only [List.length_drop, List.length_take]; rfl)) ?_; (with_reducible refine (cmp_Less_string.calls (rdOf ByteArray.empty l0 (ji4)) a1 false _ A7.out).mono ?_); rintro e w' ⟨rfl, ⟨nd, rfl⟩⟩; refine ⟨_, rfl, ?_⟩))
     go_roundg k1
     case measure => have := HK1.out; omega
     case rel => exact ⟨(x7_1), (ji4), er, (by first | rfl | (simp; done) | (simp only [← hji4] <;> (first | rfl | simp)) | (simp [*]; done)), H', ⟨by have := HK1.out; omega⟩, drw⟩
   ·rw [if_neg c3] at H
    have c3b0 : decide (x7_1 < x8_1) = false := decide_eq_false c3
    clear c3
    by_cases c9 : x7_1 < (l0.length : Int)
    ·rw [if_pos c9] at H
     have c9b0 : decide (x7_1 < (l0.length : Int)) = true := decide_eq_true c9
     clear c9; replace H := ifS H; obtain ⟨c10, H⟩ := H; have c10b0 := decide_eq_true c10; clear c10; replace H := ifS H; obtain ⟨c11, H⟩ := H; have c11b0 := decide_eq_true c11; clear c11
     by_cases c12 : (rdOf ByteArray.empty l0 x7_1).toList = a1.toList
     ·rw [if_pos c12] at H
      have c12b0 : ((rdOf ByteArray.empty l0 x7_1).toList == a1.toList) = true := beq_iff_eq.mpr c12
      have c12b1 : ((rdOf ByteArray.empty l0 x7_1).toList != a1.toList) = false := bne_eq_false_iff_eq.mpr c12
      clear c12
      simp only [Option.some.injEq, Prod.mk.injEq] at H
      obtain ⟨rfl, rfl⟩ := H
      have p311 : 0 ≤ (x7_1 : Int) := da
      have q311 : x7_1 < (l0.length : Int) := da
      obtain ⟨ad311, e311, hx311_0⟩ := Kd.at_string HR0.out x7_1 p311 q311
      cases e311
      replace p311 := eq_true p311; replace q311 := eq_true q311; go_wp2
      go_ret2
      exact ⟨er, drw⟩
     ·rw [if_neg c12] at H
      have c12b0 : ((rdOf ByteArray.empty l0 x7_1).toList == a1.toList) = false := beq_eq_false_iff_ne.mpr c12
      have c12b1 : ((rdOf ByteArray.empty l0 x7_1).toList != a1.toList) = true := bne_iff_ne.mpr c12
      replace H := bS H; obtain ⟨t313, A13, H⟩ := H
      replace H : (if t313 = true then ((slices_isNaN_string.f a1).bind fun t314 => (some (x7_1, t314))) else (some (x7_1, false))) = some (r1, r2) := H
      by_cases c14 : t313 = true
      ·subst c14
       have H1 : ((slices_isNaN_string.f a1).bind fun t314 => (some (x7_1, t314))) = some (r1, r2) := by rw [if_pos rfl] at H; exact H
       clear H
       have H := H1
       clear H1; replace H := bS H; obtain ⟨t314, A15, H⟩ := H
       replace H : (some (x7_1, t314)) = some (r1, r2) := H
       simp only [Option.some.injEq, Prod.mk.injEq] at H
       obtain ⟨rfl, rfl⟩ := H
       have p311 : 0 ≤ (x7_1 : Int) := da
       have q311 : x7_1 < (l0.length : Int) := da
       obtain ⟨ad311, e311, hx311_0⟩ := Kd.at_string HR0.out x7_1 p311 q311
       cases e311
       replace p311 := eq_true p311; replace q311 := eq_true q311
       have p312 : 0 ≤ (x7_1 : Int) := da
       have q312 : x7_1 < (l0.length : Int) := da
       obtain ⟨ad312, e312, hx312_0⟩ := Kd.at_string HR0.out x7_1 p312 q312
       obtain rfl : ad311 = ad312 := (by injection e312)
       replace p312 := eq_true p312; replace q312 := eq_true q312
       go_wp2_with (first | (go_at_call 217; (with_reducible refine (slices_isNaN_string.calls (rdOf ByteArray.empty l0 x7_1) true _ A13.out).mono ?_); rintro e w' ⟨rfl, ⟨nd, rfl⟩⟩) | (go_at_call 217; (with_reducible refine (slices_isNaN_string.calls a1 t314 _ A15.out).mono ?_); rintro e w' ⟨rfl, ⟨nd, rfl⟩⟩))
       go_ret2
       exact ⟨er, drw⟩
      ·replace c14 := Bool.eq_false_iff.mpr c14
       subst c14
       have H1 : (some (x7_1, false)) = some (r1, r2) := by rw [if_neg (show ¬ (false = true) by decide)] at H; exact H
       clear H
       have H := H1
       clear H1
       simp only [Option.some.injEq, Prod.mk.injEq] at H
       obtain ⟨rfl, rfl⟩ := H
       have p311 : 0 ≤ (x7_1 : Int) := da
       have q311 : x7_1 < (l0.length : Int) := da
       obtain ⟨ad311, e311, hx311_0⟩ := Kd.at_string HR0.out x7_1 p311 q311
       cases e311
       replace p311 := eq_true p311; replace q311 := eq_true q311
       have p312 : 0 ≤ (x7_1 : Int) := da
       have q312 : x7_1 < (l0.length : Int) := da
       obtain ⟨ad312, e312, hx312_0⟩ := Kd.at_string HR0.out x7_1 p312 q312
       obtain rfl : ad311 = ad312 := (by injection e312)
       replace p312 := eq_true p312; replace q312 := eq_true q312
       go_wp2_with (first | (go_at_call 217; (with_reducible refine (slices_isNaN_string.calls (rdOf ByteArray.empty l0 x7_1) false _ A13.out).mono ?_); rintro e w' ⟨rfl, ⟨nd, rfl⟩⟩))
       go_ret2
       exact ⟨er, drw⟩
    ·rw [if_neg c9] at H
     have c9b0 : decide (x7_1 < (l0.length : Int)) = false := decide_eq_false c9
     clear c9
     simp only [Option.some.injEq, Prod.mk.injEq] at H
     obtain ⟨rfl, rfl⟩ := H; go_wp2
     go_ret2
     exact ⟨er, drw⟩

-- NOT PRINTED: function 218 (slices_overlaps_string)

/-! ### slices_Reverse_string_string: function 259 -/
def slices_Reverse_string_string.l0 : Nat → List ByteArray → Int → Int → Option (List ByteArray)
  | 0, _, _, _ => none
  | k + 1, x0, x2, x3 => if x2 < x3 then (if 0 ≤ x3 then (if x3 < (x0.length : Int) then (if 0 ≤ x2 then (if x2 < (x0.length : Int) then (slices_Reverse_string_string.l0 k ((x0.set (x2 : Int).toNat (rdOf ByteArray.empty x0 x3)).set (x3 : Int).toNat (rdOf ByteArray.empty x0 x2)) (wrap64 (x2 + 1)) (wrap64 (x3 - 1))) else (none)) else (none)) else (none)) else (none)) else (some x0)
def slices_Reverse_string_string.f (k : Nat) (l0 : List ByteArray) : Option (List ByteArray) := slices_Reverse_string_string.l0 k l0 0 (wrap64 ((l0.length : Int) - 1))
theorem slices_Reverse_string_string.mono_l : ∀ k, (∀ y0 y1 y2, LeO (slices_Reverse_string_string.l0 k y0 y1 y2) (slices_Reverse_string_string.l0 (k + 1) y0 y1 y2))
 | 0 => fun _ _ _ r h => by simp [slices_Reverse_string_string.l0] at h
 | k + 1 => by
  have ih0 := slices_Reverse_string_string.mono_l k
  ·intro y0 y1 y2
   unfold slices_Reverse_string_string.l0
   repeat' (first | (with_reducible first | exact ih0 _ _ _ | exact LeO.refl _ | exact LeO.none _ | refine LeO.ite ?_ ?_ | refine LeO.bind ?_ (fun _ => ?_)) | exact ih0 _ _ _ | exact LeO.none _ | refine LeO.ite ?_ ?_ | refine LeO.bind ?_ (fun _ => ?_))
theorem slices_Reverse_string_string.mono : ∀ a0 k, LeO (slices_Reverse_string_string.f k a0) (slices_Reverse_string_string.f (k + 1) a0) := by
 intro a0 k
 have ih0 := slices_Reverse_string_string.mono_l k
 unfold slices_Reverse_string_string.f
 repeat' (first | (with_reducible first | exact ih0 _ _ _ | exact LeO.refl _ | exact LeO.none _ | refine LeO.ite ?_ ?_ | refine LeO.bind ?_ (fun _ => ?_)) | exact ih0 _ _ _ | exact LeO.none _ | refine LeO.ite ?_ ?_ | refine LeO.bind ?_ (fun _ => ?_))
def slices_Reverse_string_string.T3 : Bool × List (List Nat × List Nat) := (true, [([], []), ([], []), ([], []), ([], []), ([], []), ([], []), ([4, 5], [4, 5]), ([6], [6]), ([], []), ([], []), ([8, 9], [8, 9]), ([10], [10]), ([0, 1, 0, 1, 4, 5, 6, 7, 11], [0, 1]), ([12, 7, 0, 1, 4, 5, 6, 7, 11], [7, 12]), ([2, 3, 0, 1, 2, 3, 4, 5, 6, 7, 8, 9, 10, 11, 12, 13], [2, 3]), ([14, 11, 13, 0, 1, 2, 3, 4, 5, 6, 7, 8, 9, 10, 11, 12, 13], [11, 14])])
def slices_Reverse_string_string.B3 : List Nat := [0, 0, 0, 0, 0, 0, 48, 112, 0, 0, 768, 1792, 4083, 8179, 16383, 32767]
theorem slices_Reverse_string_string.tab3 : rtab .any (opsOf Try.f259 3) = slices_Reverse_string_string.T3 := by kernel_rfl
theorem slices_Reverse_string_string.bits3 : waitsOk slices_Reverse_string_string.T3.2 slices_Reverse_string_string.B3 = true := by kernel_rfl
set_option maxHeartbeats 8000000 in
set_option maxRecDepth 100000 in
theorem slices_Reverse_string_string.calls (k : Nat) (P0_ : Nat → Prop) (u9000_ : Value) (l0 : List ByteArray) (r : List ByteArray) (w0 w : World) (hB : Below w0.heap.size w0 w) (ho0 : Kd.R Kd.string 9 w w0.heap.size P0_ u9000_ l0) (h : slices_Reverse_string_string.f k l0 = some r) :
  Calls Try.prog 259 #[u9000_] w fun e w' => e = .returned (.tuple #[]) ∧ Kd.R Kd.string 9 w' w0.heap.size (fun k_ => (P0_ k_ ∨ w.heap.size ≤ k_)) u9000_ r ∧ Below w0.heap.size w0 w' ∧ Kept w w' (fun k_ => P0_ k_) := by
 have HO0 := Aside0.mk (show Kd.R Kd.string 9 w w0.heap.size (fun k_ => (P0_ k_ ∨ w.heap.size ≤ k_)) u9000_ l0 from Kd.R_mono ho0 (fun k_ hk => (.inl hk)))
 have HK := Aside0.mk (Kept.refl w (fun k_ => P0_ k_))
 have HW0 := Aside0.mk hB.size
 have HB := Aside0.mk hB; clear hB
 have H : (slices_Reverse_string_string.l0 k l0 0 (wrap64 ((l0.length : Int) - 1))) = some r := h
 clear h
 have H' := Aside0.mk H
 clear H
 obtain ⟨Ao2, co2, eo2⟩ := Kd.R_slice HO0.out
 subst eo2
 go_enter Try.func259, Try.ntmps259
 go_wp2
 go_loopg [2, 3] k (fun kq v2 v3 w' => ∃ (x0_1 : List ByteArray) (x2_1 : Int) (x3_1 : Int), v2 = .int .i64 x2_1 ∧ v3 = .int .i64 x3_1 ∧ Aside0 (slices_Reverse_string_string.l0 kq x0_1 x2_1 x3_1 = some r) ∧ Aside0 (kq ≤ k) ∧ Aside0 (Kd.R Kd.string 9 w' w0.heap.size (fun k_ => (P0_ k_ ∨ w.heap.size ≤ k_)) (.slice Ao2 l0.length co2) x0_1) ∧ Aside0 (Kept w w' (fun k_ => P0_ k_)) ∧ Aside0 (Below w0.heap.size w0 w'))
 case atStart => exact ⟨(l0), (0), (wrap64 ((l0.length : Int) - 1)), er, er, H', ⟨Nat.le_refl _⟩, ⟨rdl HO0⟩, ⟨by repeat (first | (with_reducible first | exact HK.out | apply Kept.alloc | apply Kept.drewN | apply Kept.drew) | exact HK.out)⟩, ⟨belowd HB⟩⟩
 case round =>
  clear H'
  obtain ⟨x0_1, x2_1, x3_1, rfl, rfl, HA, HK1, HO_0, HK, HB⟩ := hrel
  have hl0_1 := (Kd.R_reads' HO_0.out).1
  rw [hl0_1] at HO_0
  (try simp only [hl0_1])
  cases gk with
  | zero => exact absurd HA.out (by simp [slices_Reverse_string_string.l0])
  | succ k1 =>
   have H := HA.out; clear HA
   simp only [slices_Reverse_string_string.l0] at H
   by_cases c3 : x2_1 < x3_1
   ·rw [if_pos c3] at H
    have c3b0 : decide (x2_1 < x3_1) = true := decide_eq_true c3
    clear c3; replace H := ifS H; obtain ⟨c4, H⟩ := H; have c4b0 := decide_eq_true c4; clear c4; replace H := ifS H; obtain ⟨c5, H⟩ := H; have c5b0 := decide_eq_true c5; clear c5; replace H := ifS H; obtain ⟨c6, H⟩ := H; have c6b0 := decide_eq_true c6; clear c6; replace H := ifS H; obtain ⟨c7, H⟩ := H; have c7b0 := decide_eq_true c7; clear c7
    obtain ⟨y317, hy_⟩ : ∃ y_ : List ByteArray, y_ = (x0_1.set (x2_1 : Int).toNat (rdOf ByteArray.empty x0_1 x3_1)) := ⟨_, rfl⟩
    replace H : (slices_Reverse_string_string.l0 k1 (y317.set (x3_1 : Int).toNat (rdOf ByteArray.empty x0_1 x2_1)) (wrap64 (x2_1 + 1)) (wrap64 (x3_1 - 1))) = some r := yH
    have Ny317 := ak hy_; clear hy_
    obtain ⟨y318, hy_⟩ : ∃ y_ : List ByteArray, y_ = (y317.set (x3_1 : Int).toNat (rdOf ByteArray.empty x0_1 x2_1)) := ⟨_, rfl⟩
    replace H : (slices_Reverse_string_string.l0 k1 y318 (wrap64 (x2_1 + 1)) (wrap64 (x3_1 - 1))) = some r := yH
    have Ny318 := ak hy_; clear hy_
    have H' := Aside0.mk H
    clear H
    try go_wp2
    replace HO_0 := ak (Kd.R_drew HO_0.out)
    replace HK := ak (Kept.drew HK.out)
    replace HB := ak (below_drew1 HB.out)
    have p315 : 0 ≤ (x3_1 : Int) := da
    have q315 : x3_1 < (x0_1.length : Int) := da
    obtain ⟨ad315, e315, hx315_0⟩ := Kd.at_string (Kd.R_reads' HO_0.out).2.2 x3_1 p315 q315
    cases e315
    replace p315 := eq_true p315; replace q315 := eq_true q315
    have p316 : 0 ≤ (x2_1 : Int) := da
    have q316 : x2_1 < (x0_1.length : Int) := da
    obtain ⟨ad316, e316, hx316_0⟩ := Kd.at_string (Kd.R_reads' HO_0.out).2.2 x2_1 p316 q316
    obtain rfl : ad315 = ad316 := (by injection e316)
    replace p316 := eq_true p316; replace q316 := eq_true q316
    have p8 : 0 ≤ (x2_1 : Int) := da
    have q8 : (x2_1 : Int) < ((x0_1.length : Int) : Int) := da
    obtain ⟨go8, co8, eo8, gb8, gl8, cl8, HG8⟩ := Kd.R_form HO_0.out (by omega)
    (first | cases eo8 | (injection eo8 with ea_ en_ ec_; (first | subst ea_ | (injection ea_ with ea_; subst ea_)); subst ec_; clear en_))
    have GB8 := Aside0.mk gb8; have GG8 := Aside0.mk HG8; clear gb8 gl8 HG8
    have HMgo8 := Aside0.mk (show (P0_ go8 ∨ w.heap.size ≤ go8) from (HO_0.out.1 _ rfl))
    (first | simp only [add_plain] at hx315_0 | skip)
    (first | simp only [add_plain] at hx316_0 | skip)
    obtain ⟨hx8_0, hf8_0⟩ := Kd.R_celln (⟨#[]⟩ : ByteArray) HO_0.out (x2_1 : Int) p8 q8
    replace p8 := eq_true p8; replace q8 := eq_true q8
    have HP11 := Kd.R_putn HO_0.out (x2_1 : Int) (rdOf ByteArray.empty x0_1 x3_1)
    rw [← Ny317.out] at HP11
    have HQ11 := Aside0.mk HP11; clear HP11
    have p9 : 0 ≤ (x3_1 : Int) := da
    have q9 : (x3_1 : Int) < ((x0_1.length : Int) : Int) := da
    obtain ⟨hx9_0, hf9_0⟩ := Kd.R_celln (⟨#[]⟩ : ByteArray) HQ11.out (x3_1 : Int) p9 q9
    replace p9 := eq_true p9; replace q9 := eq_true q9
    have HP12 := Kd.R_putn HQ11.out (x3_1 : Int) (rdOf ByteArray.empty x0_1 x2_1)
    rw [← Ny318.out] at HP12
    have HQ12 := Aside0.mk HP12; clear HP12
    refine start_ (n := 16) (S := fun w' => w'.cell? ⟨go8, (x3_1).toNat, none⟩ = some (.string (rdOf ByteArray.empty x0_1 x3_1)) ∧ w'.cell? ⟨go8, (x2_1).toNat, none⟩ = some (.string (rdOf ByteArray.empty x0_1 x2_1))) (ds := [13, 15]) (bl 16 0) (by kernel_rfl) rfl rfl ⟨hx315_0, hx316_0⟩ (fun hHeld => ?_); refine with_tabW slices_Reverse_string_string.tab3 slices_Reverse_string_string.bits3 (fun HT_ HW_ => ?_)
    generalize wr.drew = w10 at HO_0 HK HB GG8 HQ11 HQ12 hf8_0 hf9_0 hx315_0 hx316_0 hx8_0 hx9_0 hHeld ⊢
    refine pureA 0 (some 14) 16 1 HT_ ?_
    refine pureA 1 (some 15) 16 3 HT_ ?_
    refine pureA 2 (some 16) 16 7 HT_ ?_
    refine pureA 3 (some 17) 16 15 HT_ ?_
    refine pureA 4 (some 18) 16 31 HT_ ?_
    refine pureA 5 (some 19) 16 63 HT_ ?_
    refine pureA 6 (some 20) 16 127 HT_ ?_
    refine pureA 8 (some 22) 16 383 HT_ ?_
    refine pureA 9 (some 23) 16 895 HT_ ?_
    refine pureA 10 (some 24) 16 1919 HT_ ?_
    refine takeA 7 (some 21) 16 2047 HT_ HW_ hHeld ?_ (hy := by rintro w' ⟨s0, s1⟩; go_simp; with_reducible rfl)
    refine takeA 11 (some 25) 16 4095 HT_ HW_ hHeld ?_ (hy := by rintro w' ⟨s0, s1⟩; go_simp; with_reducible rfl)
    refine pureA 12 (some 26) 16 8191 HT_ ?_
    refine last_ (i := 13) (N := none) (bl 16 16383) rfl rfl (one_of HT_.out (by kernel_rfl)) (by decide) (fun K hK => ?_)
    refine skip_ (w1 := ?_) (by rfl) rfl ?_ ?_
    rotate_left
    ·go_simp
     rfl
    refine hK.out _ _ ?_
    clear hK K
    refine pureA 14 (some 27) 16 32767 HT_ ?_
    refine last_ (i := 15) (N := none) (bl 16 65535) rfl rfl (one_of HT_.out (by kernel_rfl)) (by decide) (fun K hK => ?_)
    refine skip_ (w1 := ?_) (by rfl) rfl ?_ ?_
    rotate_left
    ·go_simp
     rfl
    refine hK.out _ _ ?_
    clear hK K
    refine done_ (done_of HT_.out (by kernel_rfl)) ?_
    try go_wp2
    (try simp only [← hl0_1])
    (first | go_roundg k1 | ((try rw [← add_plain go8 (x3_1 : Int).toNat]); (try rw [← add_plain go8 (x2_1 : Int).toNat]); go_roundg k1))
    case measure => have := HK1.out; omega
    case rel => exact ⟨(y318), (wrap64 (x2_1 + 1)), (wrap64 (x3_1 - 1)), er, er, H', ⟨by have := HK1.out; omega⟩, ⟨by (try simp only [hl0_1]); (with_reducible repeat (first | apply Kd.R_alloc | apply Kd.R_drewN | apply Kd.R_drew)); exact HQ12.out⟩, ⟨by repeat (first | (with_reducible first | exact HK.out | apply Kept.alloc | apply Kept.drewN | apply Kept.drew | refine Kept.setCell ?_ HMgo8.out _ | refine Kept.setCell ?_ HMgo8.out _) | exact HK.out)⟩, ⟨by repeat (first | (with_reducible first | exact HB.out | apply below_alloc | apply pw_below_drewN | apply below_drew1 | refine below_set ?_ GB8.out | refine below_set ?_ GB8.out) | exact HB.out)⟩⟩
   ·rw [if_neg c3] at H
    have c3b0 : decide (x2_1 < x3_1) = false := decide_eq_false c3
    clear c3
    obtain rfl := Option.some.inj H
    go_wp2
    first | go_end0 | ((try simp only [Exit.inBlock, Exit.then]); refine bodyPost_ret (results_none rfl _ _ _) rfl ?_)
    exact ⟨er2, (by first | exact (rdl HO_0) | (simp only [hl0_1]; exact (rdl HO_0))), belowd HB, by repeat (first | (with_reducible first | exact HK.out | apply Kept.alloc | apply Kept.drewN | apply Kept.drew) | exact HK.out)⟩

-- NOT PRINTED: function 236 (slices_rotateLeft_string)

-- NOT PRINTED: function 219 (slices_rotateRight_string)

-- NOT PRINTED: function 182 (slices_Insert_string_string)

/-! ### impl_placed_string: function 104 -/
def impl_placed_string.f (k : Nat) (l0 : List ByteArray) (a1 : ByteArray) : Option (List ByteArray) := (slices_BinarySearch_string_string.f k l0 a1).bind fun t => ((slices_Clone_string_string.f l0).bind fun c => (if c.length ≤ 4194304 then (if 0 ≤ t.1 then (if t.1 ≤ (c.length : Int) then (some (c.take t.1.toNat ++ a1 :: c.drop t.1.toNat)) else (none)) else (none)) else (none)))
theorem impl_placed_string.mono : ∀ a0 a1 k, LeO (impl_placed_string.f k a0 a1) (impl_placed_string.f (k + 1) a0 a1) := by
 intro a0 a1 k
 unfold impl_placed_string.f
 exact LeO.bind (slices_BinarySearch_string_string.mono _ _ _) (fun _ => LeO.refl _)
set_option maxHeartbeats 8000000 in
set_option maxRecDepth 100000 in
theorem impl_placed_string.calls (k : Nat) (A0 : Option Addr) (c0 : Nat) (l0 : List ByteArray) (a1 : ByteArray) (r : List ByteArray) (w : World) (hr0 : Kd.C Kd.string w A0 l0.length l0) (hc0 : l0.length ≤ c0) (h : impl_placed_string.f k l0 a1 = some r) :
  Calls Try.prog 104 #[.slice A0 l0.length c0, .string a1] w fun e w' => ∃ v0_ : Value, e = .returned (v0_) ∧ Kd.R Kd.string 9 w' w.heap.size (fun _ => True) v0_ r ∧ Below w.heap.size w w' := by
 have HR0 := Aside0.mk hr0; have HC0 := Aside0.mk hc0; clear hr0 hc0
 have HB := Aside0.mk (Below.refl w.heap.size w)
 unfold impl_placed_string.f at h
 replace h := bS h
 obtain ⟨⟨t1, t2⟩, A1, h⟩ := h
 replace h := bS h
 obtain ⟨c, A2, h⟩ := h
 replace h := ifS h
 obtain ⟨c1, h⟩ := h
 replace h := ifS h
 obtain ⟨c2, h⟩ := h
 replace h := ifS h
 obtain ⟨c3, h⟩ := h
 dsimp only at c2 c3 h
 obtain ⟨i, rfl⟩ := Int.eq_ofNat_of_zero_le c2
 obtain rfl := Option.some.inj h
 rw [Int.toNat_natCast]
 clear h
 have LI := Aside0.mk (show i ≤ c.length by omega)
 have LC := Aside0.mk c1; clear c1 c2 c3
 go_enter Try.func104, Try.ntmps104
 go_wp2_with (first | ((with_reducible refine gate_callee (f := 181) rfl ?_); refine goesLa (some 10) rfl Try.func181 #[.slice A0 l0.length c0, .string a1] rfl ?_; (with_reducible refine (slices_BinarySearch_string_string.calls k _ _ l0 a1 (i : Int) t2 _ HR0.out HC0.out A1.out).mono ?_); rintro e w1 ⟨rfl, ⟨nd, rfl⟩⟩; refine ⟨_, rfl, ?_⟩) | ((with_reducible refine gate_callee (f := 178) rfl ?_); refine goesLa (some 14) rfl Try.func178 #[.slice A0 l0.length c0] rfl ?_; (with_reducible refine (slices_Clone_string_string.calls _ _ l0 c _ ?side1 ?side2 A2.out).mono ?_); (case side1 => exact cd HR0.out); (case side2 => exact HC0.out); rintro e w2 ⟨v14, rfl, ho, hb⟩; refine ⟨_, rfl, ?_⟩; have HO := ak (Kd.R_lower ho (below_size (belowd HB))); replace HB := ak (below_step (belowd HB) hb); clear ho hb) | ((with_reducible refine gate_dst (N := 17) rfl ?_); refine Kd.R_lit Kd.string _ 9 ?hg (N := 17) ?hd (xs := ([a1] : List ByteArray)) (inner := [.string a1]) (ok := fun _ => True) (okp := fun _ => True) ?hr ?hp (fun _ hk => hk) trivial (Below.refl _ _) (Nat.le_refl _) (by simp) ?_; (case hd => rfl); (case hg => rfl); (case hr => first | (go_simp; done) | (go_simp; rfl)); (case hp => exact (Reps.one (show Kd.M Kd.string _ _ _ (a1) [.string a1] from rfl) (Reps.none _ _))); intro v17 w3 ho3 hb3 hg_ hnew_; clear hg_ hnew_; have HU := ak (Kd.R_lower (Kd.R_mono (Kd.R_new' ho3 (Kd.R_lt (rdl HO))) (fun _ h_ => h_.2)) (below_size (belowd HB))); replace HO := ak (Kd.R_below (rdl HO) hb3); replace HB := ak (below_step (belowd HB) hb3); clear ho3 hb3) | ((with_reducible refine gate_callee (f := 182) rfl ?_); refine goesLa (some 18) rfl Try.func182 #[v14, .int .i64 (i : Int), v17] rfl ?_; (with_reducible refine (insS.calls (belowd HB) (rdl HO) (rdl HU) LI.out LC.out).mono ?_); rintro e w4 ⟨v18, rfl, ho, hb⟩; refine ⟨_, rfl, ?_⟩; clear HO HU; have HO := ak ho; replace HB := ak hb; clear ho hb))
 go_ret
 exact ⟨_, rfl, HO.out, HB.out⟩

/-! ### cmp_isNaN_int: function 237 -/
def cmp_isNaN_int.f (a0 : Int) : Option (Bool) := some (a0 != a0)
set_option maxHeartbeats 8000000 in
set_option maxRecDepth 100000 in
theorem cmp_isNaN_int.calls (a0 : Int) (r : Bool) (w : World) (h : cmp_isNaN_int.f a0 = some r) :
  Calls Try.prog 237 #[.int .i64 a0] w fun e w' => e = .returned (.bool r) ∧ Drawn0 w w' := by
 have H : (some (a0 != a0)) = some r := h
 clear h
 obtain rfl := Option.some.inj H
 go_enter Try.func237, Try.ntmps237
 go_wp2
 go_ret
 exact ⟨er, drw⟩

end Go.Proofs.Ytkgogglnipdcfaa.QFnExactPlayMix
