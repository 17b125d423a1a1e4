-- printed by this session's own program (wip/tools/pp.py: the kit's print.py with changes); Lean checks it
import Derived.Test.YtkgogglnipdcfaaQFnExactPlayMixx0
import Derived.Test.YtkgogglnipdcfaaQFnExactPlayMixx3
import Derived.Test.YtkgogglnipdcfaaQFnExactPlayMixx4
import Derived.Test.YtkgogglnipdcfaaQFnExactPlayMixx5
namespace Go.Proofs.Ytkgogglnipdcfaa.QFnExactPlayMix
open Go.RowKit Go.Proofs.YtkgogglnipdcfaaW.PrintWords Go.Proofs.YtkgogglnipdcfaaW.PrintLast Go.Proofs.YtkgogglnipdcfaaW.PrintMore
attribute [local go_sem] max2_int min2_int max_two min_two max_three min_three max_four min_four strLss strGtr strLeq strGeq   -- for this text's walks alone
set_option linter.unusedVariables false
set_option linter.unusedSimpArgs false

/-! ### impl_TickMix: function 115 -/
def impl_TickMix.f (k : Nat) (l0_0 : List ByteArray) (a0_1 : Int) (a0_2 : Int) (a0_3 : Int) (l0_4 : List Int) : Option (List ByteArray × Int × Int × Int × List Int × List ByteArray × Bool) := (impl_GoodMix.f k l0_0 a0_1 a0_2 a0_3 l0_4).bind fun t380 => (if t380 = true then ((impl_Mix_own.f l0_0 a0_1 a0_2 a0_3 l0_4).bind fun bt381 => (if (bt381.1.length : Int) > 0 then (if (bt381.1.length : Int) < bt381.2.1 then (if (mn 10 (wrap64 (bt381.2.2.2.1 + 1))) < bt381.2.2.1 then (some (bt381.1, bt381.2.1, bt381.2.2.1, mn 10 (wrap64 (bt381.2.2.2.1 + 1)), bt381.2.2.2.2, ([] : List ByteArray), true)) else (some (([] : List ByteArray), bt381.2.1, bt381.2.2.1, 0, bt381.2.2.2.2, bt381.1, true))) else (some (([] : List ByteArray), bt381.2.1, bt381.2.2.1, 0, bt381.2.2.2.2, bt381.1, true))) else (if (bt381.1.length : Int) < bt381.2.1 then (if bt381.2.2.2.1 < bt381.2.2.1 then (some (bt381.1, bt381.2.1, bt381.2.2.1, bt381.2.2.2.1, bt381.2.2.2.2, ([] : List ByteArray), true)) else (some (([] : List ByteArray), bt381.2.1, bt381.2.2.1, 0, bt381.2.2.2.2, bt381.1, true))) else (some (([] : List ByteArray), bt381.2.1, bt381.2.2.1, 0, bt381.2.2.2.2, bt381.1, true))))) else (some (([] : List ByteArray), 0, 0, 0, ([] : List Int), ([] : List ByteArray), false)))
theorem impl_TickMix.mono : ∀ a0 a1 a2 a3 a4 k, LeO (impl_TickMix.f k a0 a1 a2 a3 a4) (impl_TickMix.f (k + 1) a0 a1 a2 a3 a4) := by
 intro a0 a1 a2 a3 a4 k
 unfold impl_TickMix.f
 repeat' (first | (with_reducible first | exact impl_GoodMix.mono _ _ _ _ _ _ | exact LeO.refl _ | exact LeO.none _ | refine LeO.ite ?_ ?_ | refine LeO.bind ?_ (fun _ => ?_)) | exact impl_GoodMix.mono _ _ _ _ _ _ | exact LeO.none _ | refine LeO.ite ?_ ?_ | refine LeO.bind ?_ (fun _ => ?_))
set_option maxHeartbeats 8000000 in
set_option maxRecDepth 100000 in
theorem impl_TickMix.calls (k : Nat) (A0_0 : Option Addr) (c0_0 : Nat) (l0_0 : List ByteArray) (a0_1 : Int) (a0_2 : Int) (a0_3 : Int) (A0_4 : Option Addr) (c0_4 : Nat) (l0_4 : List Int) (r1 : List ByteArray) (r2 : Int) (r3 : Int) (r4 : Int) (r5 : List Int) (r6 : List ByteArray) (r7 : Bool) (w : World) (hr0_0 : Kd.C Kd.string w A0_0 l0_0.length l0_0) (hc0_0 : l0_0.length ≤ c0_0) (hr0_4 : Kd.C (Kd.int .i64) w A0_4 l0_4.length l0_4) (hc0_4 : l0_4.length ≤ c0_4) (h : impl_TickMix.f k l0_0 a0_1 a0_2 a0_3 l0_4 = some (r1, r2, r3, r4, r5, r6, r7)) :
  Calls Try.prog 115 #[.agg #[.slice A0_0 l0_0.length c0_0, .int .i64 a0_1, .int .i64 a0_2, .int .i64 a0_3, .slice A0_4 l0_4.length c0_4]] w fun e w' => ∃ v0_ v4_ v5_ : Value, e = .returned (.tuple #[.agg #[v0_, .int .i64 r2, .int .i64 r3, .int .i64 r4, v4_], v5_, .bool r7]) ∧ Kd.R Kd.string 9 w' w.heap.size (fun k_ => some k_ ≠ (v5_ : Value).ownBlock) v0_ r1 ∧ Kd.R (Kd.int .i64) 3 w' w.heap.size (fun _ => True) v4_ r5 ∧ Kd.R Kd.string 9 w' w.heap.size (fun k_ => some k_ ≠ (v0_ : Value).ownBlock) v5_ r6 ∧ Below w.heap.size w w' := by
 have hu27 := Try.underlying27
 have HR0_0 := Aside0.mk hr0_0; have HC0_0 := Aside0.mk hc0_0; clear hr0_0 hc0_0; have HR0_4 := Aside0.mk hr0_4; have HC0_4 := Aside0.mk hc0_4; clear hr0_4 hc0_4
 have HB := Aside0.mk (Below.refl w.heap.size w)
 have H : ((impl_GoodMix.f k l0_0 a0_1 a0_2 a0_3 l0_4).bind fun t380 => (if t380 = true then ((impl_Mix_own.f l0_0 a0_1 a0_2 a0_3 l0_4).bind fun bt381 => (if (bt381.1.length : Int) > 0 then (if (bt381.1.length : Int) < bt381.2.1 then (if (mn 10 (wrap64 (bt381.2.2.2.1 + 1))) < bt381.2.2.1 then (some (bt381.1, bt381.2.1, bt381.2.2.1, mn 10 (wrap64 (bt381.2.2.2.1 + 1)), bt381.2.2.2.2, ([] : List ByteArray), true)) else (some (([] : List ByteArray), bt381.2.1, bt381.2.2.1, 0, bt381.2.2.2.2, bt381.1, true))) else (some (([] : List ByteArray), bt381.2.1, bt381.2.2.1, 0, bt381.2.2.2.2, bt381.1, true))) else (if (bt381.1.length : Int) < bt381.2.1 then (if bt381.2.2.2.1 < bt381.2.2.1 then (some (bt381.1, bt381.2.1, bt381.2.2.1, bt381.2.2.2.1, bt381.2.2.2.2, ([] : List ByteArray), true)) else (some (([] : List ByteArray), bt381.2.1, bt381.2.2.1, 0, bt381.2.2.2.2, bt381.1, true))) else (some (([] : List ByteArray), bt381.2.1, bt381.2.2.1, 0, bt381.2.2.2.2, bt381.1, true))))) else (some (([] : List ByteArray), 0, 0, 0, ([] : List Int), ([] : List ByteArray), false)))) = some (r1, r2, r3, r4, r5, r6, r7) := h
 clear h; replace H := bS H; obtain ⟨t380, A2, H⟩ := H
 replace H : (if t380 = true then ((impl_Mix_own.f l0_0 a0_1 a0_2 a0_3 l0_4).bind fun bt381 => (if (bt381.1.length : Int) > 0 then (if (bt381.1.length : Int) < bt381.2.1 then (if (mn 10 (wrap64 (bt381.2.2.2.1 + 1))) < bt381.2.2.1 then (some (bt381.1, bt381.2.1, bt381.2.2.1, mn 10 (wrap64 (bt381.2.2.2.1 + 1)), bt381.2.2.2.2, ([] : List ByteArray), true)) else (some (([] : List ByteArray), bt381.2.1, bt381.2.2.1, 0, bt381.2.2.2.2, bt381.1, true))) else (some (([] : List ByteArray), bt381.2.1, bt381.2.2.1, 0, bt381.2.2.2.2, bt381.1, true))) else (if (bt381.1.length : Int) < bt381.2.1 then (if bt381.2.2.2.1 < bt381.2.2.1 then (some (bt381.1, bt381.2.1, bt381.2.2.1, bt381.2.2.2.1, bt381.2.2.2.2, ([] : List ByteArray), true)) else (some (([] : List ByteArray), bt381.2.1, bt381.2.2.1, 0, bt381.2.2.2.2, bt381.1, true))) else (some (([] : List ByteArray), bt381.2.1, bt381.2.2.1, 0, bt381.2.2.2.2, bt381.1, true))))) else (some (([] : List ByteArray), 0, 0, 0, ([] : List Int), ([] : List ByteArray), false))) = some (r1, r2, r3, r4, r5, r6, r7) := H
 by_cases c3 : t380 = true
 ·subst c3
  have H1 : ((impl_Mix_own.f l0_0 a0_1 a0_2 a0_3 l0_4).bind fun bt381 => (if (bt381.1.length : Int) > 0 then (if (bt381.1.length : Int) < bt381.2.1 then (if (mn 10 (wrap64 (bt381.2.2.2.1 + 1))) < bt381.2.2.1 then (some (bt381.1, bt381.2.1, bt381.2.2.1, mn 10 (wrap64 (bt381.2.2.2.1 + 1)), bt381.2.2.2.2, ([] : List ByteArray), true)) else (some (([] : List ByteArray), bt381.2.1, bt381.2.2.1, 0, bt381.2.2.2.2, bt381.1, true))) else (some (([] : List ByteArray), bt381.2.1, bt381.2.2.1, 0, bt381.2.2.2.2, bt381.1, true))) else (if (bt381.1.length : Int) < bt381.2.1 then (if bt381.2.2.2.1 < bt381.2.2.1 then (some (bt381.1, bt381.2.1, bt381.2.2.1, bt381.2.2.2.1, bt381.2.2.2.2, ([] : List ByteArray), true)) else (some (([] : List ByteArray), bt381.2.1, bt381.2.2.1, 0, bt381.2.2.2.2, bt381.1, true))) else (some (([] : List ByteArray), bt381.2.1, bt381.2.2.1, 0, bt381.2.2.2.2, bt381.1, true))))) = some (r1, r2, r3, r4, r5, r6, r7) := by rw [if_pos rfl] at H; exact H
  clear H
  have H := H1
  clear H1; replace H := bS H; obtain ⟨⟨t381, t384, t385, t386, t387⟩, A4, H⟩ := H
  replace H : (if (t381.length : Int) > 0 then (if (t381.length : Int) < t384 then (if (mn 10 (wrap64 (t386 + 1))) < t385 then (some (t381, t384, t385, mn 10 (wrap64 (t386 + 1)), t387, ([] : List ByteArray), true)) else (some (([] : List ByteArray), t384, t385, 0, t387, t381, true))) else (some (([] : List ByteArray), t384, t385, 0, t387, t381, true))) else (if (t381.length : Int) < t384 then (if t386 < t385 then (some (t381, t384, t385, t386, t387, ([] : List ByteArray), true)) else (some (([] : List ByteArray), t384, t385, 0, t387, t381, true))) else (some (([] : List ByteArray), t384, t385, 0, t387, t381, true)))) = some (r1, r2, r3, r4, r5, r6, r7) := H
  by_cases c5 : (t381.length : Int) > 0
  ·rw [if_pos c5] at H
   have c5b0 : decide (0 < (t381.length : Int)) = true := decide_eq_true c5
   have c5b1 : decide (0 < t381.length) = true := decide_eq_true (by omega)
   clear c5
   obtain ⟨ji6, hji6⟩ : ∃ j_ : Int, (mn 10 (wrap64 (t386 + 1))) = j_ := ⟨_, rfl⟩
   replace H : (if (t381.length : Int) < t384 then (if (ji6) < t385 then (some (t381, t384, t385, ji6, t387, ([] : List ByteArray), true)) else (some (([] : List ByteArray), t384, t385, 0, t387, t381, true))) else (some (([] : List ByteArray), t384, t385, 0, t387, t381, true))) = some (r1, r2, r3, r4, r5, r6, r7) := by first | (rw [hji6] at H; exact H) | (simp only [hji6] at H ⊢; exact H)
   (try rw [hji6] at A2)
   (try rw [hji6] at A4)
   (try (have hji6h : ji6 ≤ 10 := by (rw [← hji6]; unfold mn; (repeat' split) <;> omega)))
   (try (have hji6g : ji6 ≤ 64 := by omega))
   have hji6_ : (if (wrap64 (t386 + 1)) < 10 then (wrap64 (t386 + 1)) else 10) = ji6 := hji6
   by_cases c7 : (t381.length : Int) < t384
   ·rw [if_pos c7] at H
    have c7b0 : decide ((t381.length : Int) < t384) = true := decide_eq_true c7
    clear c7
    by_cases c8 : (ji6) < t385
    ·rw [if_pos c8] at H
     have c8b0 : decide ((ji6) < t385) = true := decide_eq_true c8
     clear c8
     simp only [Option.some.injEq, Prod.mk.injEq] at H
     obtain ⟨rfl, rfl, rfl, rfl, rfl, rfl, rfl⟩ := H
     go_enter Try.func115, Try.ntmps115
     go_upto_region 4 with (first | ((with_reducible refine gate_dst (N := 1) rfl ?_); refine boxev 1 #[.slice A0_0 l0_0.length c0_0, .int .i64 a0_1, .int .i64 a0_2, .int .i64 a0_3, .slice A0_4 l0_4.length c0_4] 27 ?_; intro gb378 hg w9 hbox hb; have BK378 := ak (hbox); have GW378 := ak (hgl hg (belowd HB)); have GE378 := ak (hgl hg (belowd HB)); replace HB := ak (below_step (belowd HB) hb); clear hb hbox hg) | ((with_reducible refine gate_dst (N := 2) rfl ?_); refine boxev 2 #[.slice none 0 0, .int .i64 0, .int .i64 0, .int .i64 0, .slice none 0 0] 27 ?_; intro gb379 hg w10 hbox hb; have BK379 := ak (hbox); have GW379 := ak (hgl hg (belowg1 HB GE378)); have GE379 := ak (hgl hg (belowg1 HB GE378)); replace HB := ak (below_step (belowg1 HB GE378) hb); have NB378_379 := ak ((by rw [hg]; exact Nat.ne_of_lt (blk_lt (blkd BK378)) : gb378 ≠ gb379)); have NB379_378 := ak ((by rw [hg]; exact Nat.ne_of_gt (blk_lt (blkd BK378)) : gb379 ≠ gb378)); replace BK378 := ak (blk_below (blkd BK378) hb); clear hb hbox hg; have hnb11 := NB378_379.out; have hnc11 := NB379_378.out; obtain ⟨hcz12_0, hcz12_1, hcz12_2, hcz12_3, hcz12_4, hfz12_0, hfz12_1, hfz12_2, hfz12_3, hfz12_4⟩ := box5 BK378) | ((with_reducible refine gate_callee (f := 99) rfl ?_); refine goesLa (some 8) rfl Try.func99 #[.agg #[.slice A0_0 l0_0.length c0_0, .int .i64 a0_1, .int .i64 a0_2, .int .i64 a0_3, .slice A0_4 l0_4.length c0_4]] rfl ?_; (with_reducible refine (impl_GoodMix.calls k _ _ l0_0 a0_1 a0_2 a0_3 _ _ l0_4 true _ ?side1 ?side2 ?side3 ?side4 A2.out).mono ?_); (case side1 => exact cd (Kd.C_below HR0_0.out HB.out)); (case side2 => exact HC0_0.out); (case side3 => exact cd (Kd.C_below HR0_4.out HB.out)); (case side4 => exact HC0_4.out); rintro e w13 ⟨rfl, hb⟩; refine ⟨_, rfl, ?_⟩; replace BK378 := ak (blk_below (blkd BK378) hb); replace BK379 := ak (blk_below (blkd BK379) hb); replace HB := ak (below_step (belowg2 HB GE378 GE379) hb); (try clear hb); obtain ⟨hcz14_0, hcz14_1, hcz14_2, hcz14_3, hcz14_4, hfz14_0, hfz14_1, hfz14_2, hfz14_3, hfz14_4⟩ := box5 BK378) | ((with_reducible refine gate_callee (f := 101) rfl ?_); refine goesLa (some 12) rfl Try.func101 #[.agg #[.slice A0_0 l0_0.length c0_0, .int .i64 a0_1, .int .i64 a0_2, .int .i64 a0_3, .slice A0_4 l0_4.length c0_4]] rfl ?_; (with_reducible refine (impl_Mix_own.calls _ _ l0_0 a0_1 a0_2 a0_3 _ _ l0_4 t381 t384 t385 t386 t387 _ ?side1 ?side2 ?side3 ?side4 A4.out).mono ?_); (case side1 => exact cd (Kd.C_below HR0_0.out HB.out)); (case side2 => exact HC0_0.out); (case side3 => exact cd (Kd.C_below HR0_4.out HB.out)); (case side4 => exact HC0_4.out); rintro e w15 ⟨v382, v388, rfl, ho0, ho1, hb⟩; refine ⟨_, rfl, ?_⟩; have HO383 := ak (Kd.R_lower ho0 (below_size (belowg2 HB GE378 GE379))); have HO389 := ak (Kd.R_lower ho1 (below_size (belowg2 HB GE378 GE379))); replace BK378 := ak (blk_below (blkd BK378) hb); replace BK379 := ak (blk_below (blkd BK379) hb); replace HB := ak (below_step (belowg2 HB GE378 GE379) hb); (try clear hb); (try clear ho0); (try clear ho1)) | ((with_reducible refine gate_dst (N := 5) rfl ?_); refine boxev 5 #[.slice none 0 0, .int .i64 0, .int .i64 0, .int .i64 0, .slice none 0 0] 27 ?_; intro gb390 hg w16 hbox hb; replace HO383 := ak (Kd.R_below (rdl HO383) hb); replace HO389 := ak (Kd.R_below (rdl HO389) hb); have BK390 := ak (hbox); have GW390 := ak (hgl hg (belowg2 HB GE378 GE379)); have GE390 := ak (hgl hg (belowg2 HB GE378 GE379)); replace HB := ak (below_step (belowg2 HB GE378 GE379) hb); have NB378_390 := ak ((by rw [hg]; exact Nat.ne_of_lt (blk_lt (blkd BK378)) : gb378 ≠ gb390)); have NB390_378 := ak ((by rw [hg]; exact Nat.ne_of_gt (blk_lt (blkd BK378)) : gb390 ≠ gb378)); replace BK378 := ak (blk_below (blkd BK378) hb); have NB379_390 := ak ((by rw [hg]; exact Nat.ne_of_lt (blk_lt (blkd BK379)) : gb379 ≠ gb390)); have NB390_379 := ak ((by rw [hg]; exact Nat.ne_of_gt (blk_lt (blkd BK379)) : gb390 ≠ gb379)); replace BK379 := ak (blk_below (blkd BK379) hb); clear hb hbox hg; obtain ⟨Ao17, co17, eo17⟩ := Kd.R_slice HO383.out; subst eo17; have hnb18 := NB390_378.out; have hnc18 := NB378_390.out; have hnb19 := NB390_379.out; have hnc19 := NB379_390.out; obtain ⟨hcz20_0, hcz20_1, hcz20_2, hcz20_3, hcz20_4, hfz20_0, hfz20_1, hfz20_2, hfz20_3, hfz20_4⟩ := box5 BK390; obtain ⟨Ao21, co21, eo21⟩ := Kd.R_slice HO389.out; subst eo21; obtain ⟨hcz22_0, hcz22_1, hcz22_2, hcz22_3, hcz22_4, hfz22_0, hfz22_1, hfz22_2, hfz22_3, hfz22_4⟩ := box5 BK379))
     have n0_ : Aside0 (Kd.R Kd.string 9 (((((w16.setCell ⟨gb390, 0, none⟩ (.slice Ao17 t381.length co17)).setCell ⟨gb390, 1, none⟩ (.int .i64 t384)).setCell ⟨gb390, 2, none⟩ (.int .i64 t385)).setCell ⟨gb390, 3, none⟩ (.int .i64 t386)).setCell ⟨gb390, 4, none⟩ (.slice Ao21 t387.length co21)) w.heap.size (fun _ => True) (.slice Ao17 t381.length co17) t381) := ⟨Kd.R_mono (farsR (Kd.R_types HO383.out BK390.out (by decide))) (fun _ _ => trivial)⟩
     have n1_ : Aside0 (Kd.R (Kd.int .i64) 3 (((((w16.setCell ⟨gb390, 0, none⟩ (.slice Ao17 t381.length co17)).setCell ⟨gb390, 1, none⟩ (.int .i64 t384)).setCell ⟨gb390, 2, none⟩ (.int .i64 t385)).setCell ⟨gb390, 3, none⟩ (.int .i64 t386)).setCell ⟨gb390, 4, none⟩ (.slice Ao21 t387.length co21)) w.heap.size (fun _ => True) (.slice Ao21 t387.length co21) t387) := ⟨Kd.R_mono (farsR (Kd.R_types HO389.out BK390.out (by decide))) (fun _ _ => trivial)⟩
     have n2_ : Aside0 ((((((w16.setCell ⟨gb390, 0, none⟩ (.slice Ao17 t381.length co17)).setCell ⟨gb390, 1, none⟩ (.int .i64 t384)).setCell ⟨gb390, 2, none⟩ (.int .i64 t385)).setCell ⟨gb390, 3, none⟩ (.int .i64 t386)).setCell ⟨gb390, 4, none⟩ (.slice Ao21 t387.length co21)).heap[gb379]? = some (.cells #[.slice none 0 0, .int .i64 0, .int .i64 0, .int .i64 0, .slice none 0 0] 27 (0, 0))) := ⟨by (repeat (first | (refine blk_far ?_ NB379_390.out _))); exact BK379.out⟩
     have n3_ : Aside0 ((((((w16.setCell ⟨gb390, 0, none⟩ (.slice Ao17 t381.length co17)).setCell ⟨gb390, 1, none⟩ (.int .i64 t384)).setCell ⟨gb390, 2, none⟩ (.int .i64 t385)).setCell ⟨gb390, 3, none⟩ (.int .i64 t386)).setCell ⟨gb390, 4, none⟩ (.slice Ao21 t387.length co21)).heap[gb390]? = some (.cells #[.slice Ao17 t381.length co17, .int .i64 t384, .int .i64 t385, .int .i64 t386, .slice Ao21 t387.length co21] 27 (0, 0))) := ⟨by refine blk_put (cs := #[.slice Ao17 t381.length co17, .int .i64 t384, .int .i64 t385, .int .i64 t386, .slice none 0 0]) ?_ 4 _ rfl; refine blk_put (cs := #[.slice Ao17 t381.length co17, .int .i64 t384, .int .i64 t385, .int .i64 0, .slice none 0 0]) ?_ 3 _ rfl; refine blk_put (cs := #[.slice Ao17 t381.length co17, .int .i64 t384, .int .i64 0, .int .i64 0, .slice none 0 0]) ?_ 2 _ rfl; refine blk_put (cs := #[.slice Ao17 t381.length co17, .int .i64 0, .int .i64 0, .int .i64 0, .slice none 0 0]) ?_ 1 _ rfl; refine blk_put (cs := #[.slice none 0 0, .int .i64 0, .int .i64 0, .int .i64 0, .slice none 0 0]) ?_ 0 _ rfl; exact BK390.out⟩
     have n4_ : Aside0 (Below w.heap.size w (((((w16.setCell ⟨gb390, 0, none⟩ (.slice Ao17 t381.length co17)).setCell ⟨gb390, 1, none⟩ (.int .i64 t384)).setCell ⟨gb390, 2, none⟩ (.int .i64 t385)).setCell ⟨gb390, 3, none⟩ (.int .i64 t386)).setCell ⟨gb390, 4, none⟩ (.slice Ao21 t387.length co21))) := ⟨belowg1 HB GE390⟩
     clear HO383 HO389 BK378 BK379 BK390 HB
     (try clear hcz12_0); (try clear hfz12_0); (try clear hcz12_1); (try clear hfz12_1); (try clear hcz12_2); (try clear hfz12_2); (try clear hcz12_3); (try clear hfz12_3); (try clear hcz12_4); (try clear hfz12_4); skip
     (try clear hcz14_0); (try clear hfz14_0); (try clear hcz14_1); (try clear hfz14_1); (try clear hcz14_2); (try clear hfz14_2); (try clear hcz14_3); (try clear hfz14_3); (try clear hcz14_4); (try clear hfz14_4); skip
     (try clear hcz20_0); (try clear hfz20_0); (try clear hcz20_1); (try clear hfz20_1); (try clear hcz20_2); (try clear hfz20_2); (try clear hcz20_3); (try clear hfz20_3); (try clear hcz20_4); (try clear hfz20_4); skip
     (try clear hcz22_0); (try clear hfz22_0); (try clear hcz22_1); (try clear hfz22_1); (try clear hcz22_2); (try clear hfz22_2); (try clear hcz22_3); (try clear hfz22_3); (try clear hcz22_4); (try clear hfz22_4); skip
     generalize (((((w16.setCell ⟨gb390, 0, none⟩ (.slice Ao17 t381.length co17)).setCell ⟨gb390, 1, none⟩ (.int .i64 t384)).setCell ⟨gb390, 2, none⟩ (.int .i64 t385)).setCell ⟨gb390, 3, none⟩ (.int .i64 t386)).setCell ⟨gb390, 4, none⟩ (.slice Ao21 t387.length co21)) = wt_ at n0_ n1_ n2_ n3_ n4_ ⊢
     have HO383 := n0_; have HO389 := n1_; have BK379 := n2_; have BK390 := n3_; have HB := n4_; clear n0_ n1_ n2_ n3_ n4_
     obtain ⟨hca_0, hca_1, hca_2, hca_3, hca_4, hfa_0, hfa_1, hfa_2, hfa_3, hfa_4⟩ := box5 BK390; obtain ⟨hcb_0, hcb_1, hcb_2, hcb_3, hcb_4, hfb_0, hfb_1, hfb_2, hfb_3, hfb_4⟩ := box5 BK379
     go_wp2
     refine bodyPost_ret (results_ctt rfl _ _ gb379 27 #[.slice Ao17 t381.length co17, .int .i64 t384, .int .i64 t385, .int .i64 ji6, .slice Ao21 t387.length co21] (0, 0) _ rfl (by (with_reducible repeat (first | refine blk_drewN ?_ _ | refine blk_drew ?_ | refine blk_alloc ?_ _)); refine blk_put (cs := #[.slice Ao17 t381.length co17, .int .i64 t384, .int .i64 t385, .int .i64 ji6, .slice none 0 0]) ?_ 4 _ rfl; (with_reducible repeat (first | refine blk_drewN ?_ _ | refine blk_drew ?_ | refine blk_alloc ?_ _)); refine blk_put (cs := #[.slice Ao17 t381.length co17, .int .i64 t384, .int .i64 t385, .int .i64 0, .slice none 0 0]) ?_ 3 _ rfl; (with_reducible repeat (first | refine blk_drewN ?_ _ | refine blk_drew ?_ | refine blk_alloc ?_ _)); refine blk_put (cs := #[.slice Ao17 t381.length co17, .int .i64 t384, .int .i64 0, .int .i64 0, .slice none 0 0]) ?_ 2 _ rfl; (with_reducible repeat (first | refine blk_drewN ?_ _ | refine blk_drew ?_ | refine blk_alloc ?_ _)); refine blk_put (cs := #[.slice Ao17 t381.length co17, .int .i64 0, .int .i64 0, .int .i64 0, .slice none 0 0]) ?_ 1 _ rfl; (with_reducible repeat (first | refine blk_drewN ?_ _ | refine blk_drew ?_ | refine blk_alloc ?_ _)); refine blk_put (cs := #[.slice none 0 0, .int .i64 0, .int .i64 0, .int .i64 0, .slice none 0 0]) ?_ 0 _ rfl; (with_reducible repeat (first | refine blk_drewN ?_ _ | refine blk_drew ?_ | refine blk_alloc ?_ _)); (repeat (first | (refine blk_far ?_ NB379_390.out _) | (with_reducible refine blk_drewN ?_ _) | (with_reducible refine blk_drew ?_))); exact BK379.out) Try.underlying27 rfl (by kernel_rfl)) rfl ?_
     exact ⟨_, _, _, by first | rfl | (simp [errW_none, errW_some] <;> rfl) | (simp only [← hji6]; first | rfl | (simp [errW_none, errW_some] <;> rfl)) | (simp [*, errW_none, errW_some] <;> rfl), by (with_reducible repeat (first | apply Kd.R_alloc | apply Kd.R_drewN | apply Kd.R_drew)); exact Kd.R_mono (farsR (Kd.R_types (Kd.R_types HO383.out BK390.out (by decide)) BK379.out (by decide))) (fun _ hk => (by simp [Value.ownBlock])), by (with_reducible repeat (first | apply Kd.R_alloc | apply Kd.R_drewN | apply Kd.R_drew)); exact Kd.R_mono (farsR (Kd.R_types (Kd.R_types HO389.out BK390.out (by decide)) BK379.out (by decide))) (fun _ hk => trivial), by first | exact Kd.R_nil _ _ _ _ _ | exact Kd.N_nil _ _ _ _ _ | exact Kd.V_nil _ _ _ _ _ | exact Kd.Q_nil _ _ _ _ _ | exact Kd.S_nil _ _ _ _ _, belowg3 HB GE378 GE379 GE390⟩
    ·rw [if_neg c8] at H
     have c8b0 : decide ((ji6) < t385) = false := decide_eq_false c8
     clear c8
     simp only [Option.some.injEq, Prod.mk.injEq] at H
     obtain ⟨rfl, rfl, rfl, rfl, rfl, rfl, rfl⟩ := H
     go_enter Try.func115, Try.ntmps115
     go_upto_region 4 with (first | ((with_reducible refine gate_dst (N := 1) rfl ?_); refine boxev 1 #[.slice A0_0 l0_0.length c0_0, .int .i64 a0_1, .int .i64 a0_2, .int .i64 a0_3, .slice A0_4 l0_4.length c0_4] 27 ?_; intro gb378 hg w23 hbox hb; have BK378 := ak (hbox); have GW378 := ak (hgl hg (belowd HB)); have GE378 := ak (hgl hg (belowd HB)); replace HB := ak (below_step (belowd HB) hb); clear hb hbox hg) | ((with_reducible refine gate_dst (N := 2) rfl ?_); refine boxev 2 #[.slice none 0 0, .int .i64 0, .int .i64 0, .int .i64 0, .slice none 0 0] 27 ?_; intro gb379 hg w24 hbox hb; have BK379 := ak (hbox); have GW379 := ak (hgl hg (belowg1 HB GE378)); have GE379 := ak (hgl hg (belowg1 HB GE378)); replace HB := ak (below_step (belowg1 HB GE378) hb); have NB378_379 := ak ((by rw [hg]; exact Nat.ne_of_lt (blk_lt (blkd BK378)) : gb378 ≠ gb379)); have NB379_378 := ak ((by rw [hg]; exact Nat.ne_of_gt (blk_lt (blkd BK378)) : gb379 ≠ gb378)); replace BK378 := ak (blk_below (blkd BK378) hb); clear hb hbox hg; have hnb25 := NB378_379.out; have hnc25 := NB379_378.out; obtain ⟨hcz26_0, hcz26_1, hcz26_2, hcz26_3, hcz26_4, hfz26_0, hfz26_1, hfz26_2, hfz26_3, hfz26_4⟩ := box5 BK378) | ((with_reducible refine gate_callee (f := 99) rfl ?_); refine goesLa (some 8) rfl Try.func99 #[.agg #[.slice A0_0 l0_0.length c0_0, .int .i64 a0_1, .int .i64 a0_2, .int .i64 a0_3, .slice A0_4 l0_4.length c0_4]] rfl ?_; (with_reducible refine (impl_GoodMix.calls k _ _ l0_0 a0_1 a0_2 a0_3 _ _ l0_4 true _ ?side1 ?side2 ?side3 ?side4 A2.out).mono ?_); (case side1 => exact cd (Kd.C_below HR0_0.out HB.out)); (case side2 => exact HC0_0.out); (case side3 => exact cd (Kd.C_below HR0_4.out HB.out)); (case side4 => exact HC0_4.out); rintro e w27 ⟨rfl, hb⟩; refine ⟨_, rfl, ?_⟩; replace BK378 := ak (blk_below (blkd BK378) hb); replace BK379 := ak (blk_below (blkd BK379) hb); replace HB := ak (below_step (belowg2 HB GE378 GE379) hb); (try clear hb); obtain ⟨hcz28_0, hcz28_1, hcz28_2, hcz28_3, hcz28_4, hfz28_0, hfz28_1, hfz28_2, hfz28_3, hfz28_4⟩ := box5 BK378) | ((with_reducible refine gate_callee (f := 101) rfl ?_); refine goesLa (some 12) rfl Try.func101 #[.agg #[.slice A0_0 l0_0.length c0_0, .int .i64 a0_1, .int .i64 a0_2, .int .i64 a0_3, .slice A0_4 l0_4.length c0_4]] rfl ?_; (with_reducible refine (impl_Mix_own.calls _ _ l0_0 a0_1 a0_2 a0_3 _ _ l0_4 t381 t384 t385 t386 t387 _ ?side1 ?side2 ?side3 ?side4 A4.out).mono ?_); (case side1 => exact cd (Kd.C_below HR0_0.out HB.out)); (case side2 => exact HC0_0.out); (case side3 => exact cd (Kd.C_below HR0_4.out HB.out)); (case side4 => exact HC0_4.out); rintro e w29 ⟨v382, v388, rfl, ho0, ho1, hb⟩; refine ⟨_, rfl, ?_⟩; have HO383 := ak (Kd.R_lower ho0 (below_size (belowg2 HB GE378 GE379))); have HO389 := ak (Kd.R_lower ho1 (below_size (belowg2 HB GE378 GE379))); replace BK378 := ak (blk_below (blkd BK378) hb); replace BK379 := ak (blk_below (blkd BK379) hb); replace HB := ak (below_step (belowg2 HB GE378 GE379) hb); (try clear hb); (try clear ho0); (try clear ho1)) | ((with_reducible refine gate_dst (N := 5) rfl ?_); refine boxev 5 #[.slice none 0 0, .int .i64 0, .int .i64 0, .int .i64 0, .slice none 0 0] 27 ?_; intro gb390 hg w30 hbox hb; replace HO383 := ak (Kd.R_below (rdl HO383) hb); replace HO389 := ak (Kd.R_below (rdl HO389) hb); have BK390 := ak (hbox); have GW390 := ak (hgl hg (belowg2 HB GE378 GE379)); have GE390 := ak (hgl hg (belowg2 HB GE378 GE379)); replace HB := ak (below_step (belowg2 HB GE378 GE379) hb); have NB378_390 := ak ((by rw [hg]; exact Nat.ne_of_lt (blk_lt (blkd BK378)) : gb378 ≠ gb390)); have NB390_378 := ak ((by rw [hg]; exact Nat.ne_of_gt (blk_lt (blkd BK378)) : gb390 ≠ gb378)); replace BK378 := ak (blk_below (blkd BK378) hb); have NB379_390 := ak ((by rw [hg]; exact Nat.ne_of_lt (blk_lt (blkd BK379)) : gb379 ≠ gb390)); have NB390_379 := ak ((by rw [hg]; exact Nat.ne_of_gt (blk_lt (blkd BK379)) : gb390 ≠ gb379)); replace BK379 := ak (blk_below (blkd BK379) hb); clear hb hbox hg; obtain ⟨Ao31, co31, eo31⟩ := Kd.R_slice HO383.out; subst eo31; have hnb32 := NB390_378.out; have hnc32 := NB378_390.out; have hnb33 := NB390_379.out; have hnc33 := NB379_390.out; obtain ⟨hcz34_0, hcz34_1, hcz34_2, hcz34_3, hcz34_4, hfz34_0, hfz34_1, hfz34_2, hfz34_3, hfz34_4⟩ := box5 BK390; obtain ⟨Ao35, co35, eo35⟩ := Kd.R_slice HO389.out; subst eo35; obtain ⟨hcz36_0, hcz36_1, hcz36_2, hcz36_3, hcz36_4, hfz36_0, hfz36_1, hfz36_2, hfz36_3, hfz36_4⟩ := box5 BK379))
     have n0_ : Aside0 (Kd.R Kd.string 9 (((((w30.setCell ⟨gb390, 0, none⟩ (.slice Ao31 t381.length co31)).setCell ⟨gb390, 1, none⟩ (.int .i64 t384)).setCell ⟨gb390, 2, none⟩ (.int .i64 t385)).setCell ⟨gb390, 3, none⟩ (.int .i64 t386)).setCell ⟨gb390, 4, none⟩ (.slice Ao35 t387.length co35)) w.heap.size (fun _ => True) (.slice Ao31 t381.length co31) t381) := ⟨Kd.R_mono (farsR (Kd.R_types HO383.out BK390.out (by decide))) (fun _ _ => trivial)⟩
     have n1_ : Aside0 (Kd.R (Kd.int .i64) 3 (((((w30.setCell ⟨gb390, 0, none⟩ (.slice Ao31 t381.length co31)).setCell ⟨gb390, 1, none⟩ (.int .i64 t384)).setCell ⟨gb390, 2, none⟩ (.int .i64 t385)).setCell ⟨gb390, 3, none⟩ (.int .i64 t386)).setCell ⟨gb390, 4, none⟩ (.slice Ao35 t387.length co35)) w.heap.size (fun _ => True) (.slice Ao35 t387.length co35) t387) := ⟨Kd.R_mono (farsR (Kd.R_types HO389.out BK390.out (by decide))) (fun _ _ => trivial)⟩
     have n2_ : Aside0 ((((((w30.setCell ⟨gb390, 0, none⟩ (.slice Ao31 t381.length co31)).setCell ⟨gb390, 1, none⟩ (.int .i64 t384)).setCell ⟨gb390, 2, none⟩ (.int .i64 t385)).setCell ⟨gb390, 3, none⟩ (.int .i64 t386)).setCell ⟨gb390, 4, none⟩ (.slice Ao35 t387.length co35)).heap[gb379]? = some (.cells #[.slice none 0 0, .int .i64 0, .int .i64 0, .int .i64 0, .slice none 0 0] 27 (0, 0))) := ⟨by (repeat (first | (refine blk_far ?_ NB379_390.out _))); exact BK379.out⟩
     have n3_ : Aside0 ((((((w30.setCell ⟨gb390, 0, none⟩ (.slice Ao31 t381.length co31)).setCell ⟨gb390, 1, none⟩ (.int .i64 t384)).setCell ⟨gb390, 2, none⟩ (.int .i64 t385)).setCell ⟨gb390, 3, none⟩ (.int .i64 t386)).setCell ⟨gb390, 4, none⟩ (.slice Ao35 t387.length co35)).heap[gb390]? = some (.cells #[.slice Ao31 t381.length co31, .int .i64 t384, .int .i64 t385, .int .i64 t386, .slice Ao35 t387.length co35] 27 (0, 0))) := ⟨by refine blk_put (cs := #[.slice Ao31 t381.length co31, .int .i64 t384, .int .i64 t385, .int .i64 t386, .slice none 0 0]) ?_ 4 _ rfl; refine blk_put (cs := #[.slice Ao31 t381.length co31, .int .i64 t384, .int .i64 t385, .int .i64 0, .slice none 0 0]) ?_ 3 _ rfl; refine blk_put (cs := #[.slice Ao31 t381.length co31, .int .i64 t384, .int .i64 0, .int .i64 0, .slice none 0 0]) ?_ 2 _ rfl; refine blk_put (cs := #[.slice Ao31 t381.length co31, .int .i64 0, .int .i64 0, .int .i64 0, .slice none 0 0]) ?_ 1 _ rfl; refine blk_put (cs := #[.slice none 0 0, .int .i64 0, .int .i64 0, .int .i64 0, .slice none 0 0]) ?_ 0 _ rfl; exact BK390.out⟩
     have n4_ : Aside0 (Below w.heap.size w (((((w30.setCell ⟨gb390, 0, none⟩ (.slice Ao31 t381.length co31)).setCell ⟨gb390, 1, none⟩ (.int .i64 t384)).setCell ⟨gb390, 2, none⟩ (.int .i64 t385)).setCell ⟨gb390, 3, none⟩ (.int .i64 t386)).setCell ⟨gb390, 4, none⟩ (.slice Ao35 t387.length co35))) := ⟨belowg1 HB GE390⟩
     clear HO383 HO389 BK378 BK379 BK390 HB
     (try clear hcz26_0); (try clear hfz26_0); (try clear hcz26_1); (try clear hfz26_1); (try clear hcz26_2); (try clear hfz26_2); (try clear hcz26_3); (try clear hfz26_3); (try clear hcz26_4); (try clear hfz26_4); skip
     (try clear hcz28_0); (try clear hfz28_0); (try clear hcz28_1); (try clear hfz28_1); (try clear hcz28_2); (try clear hfz28_2); (try clear hcz28_3); (try clear hfz28_3); (try clear hcz28_4); (try clear hfz28_4); skip
     (try clear hcz34_0); (try clear hfz34_0); (try clear hcz34_1); (try clear hfz34_1); (try clear hcz34_2); (try clear hfz34_2); (try clear hcz34_3); (try clear hfz34_3); (try clear hcz34_4); (try clear hfz34_4); skip
     (try clear hcz36_0); (try clear hfz36_0); (try clear hcz36_1); (try clear hfz36_1); (try clear hcz36_2); (try clear hfz36_2); (try clear hcz36_3); (try clear hfz36_3); (try clear hcz36_4); (try clear hfz36_4); skip
     generalize (((((w30.setCell ⟨gb390, 0, none⟩ (.slice Ao31 t381.length co31)).setCell ⟨gb390, 1, none⟩ (.int .i64 t384)).setCell ⟨gb390, 2, none⟩ (.int .i64 t385)).setCell ⟨gb390, 3, none⟩ (.int .i64 t386)).setCell ⟨gb390, 4, none⟩ (.slice Ao35 t387.length co35)) = wt_ at n0_ n1_ n2_ n3_ n4_ ⊢
     have HO383 := n0_; have HO389 := n1_; have BK379 := n2_; have BK390 := n3_; have HB := n4_; clear n0_ n1_ n2_ n3_ n4_
     obtain ⟨hca_0, hca_1, hca_2, hca_3, hca_4, hfa_0, hfa_1, hfa_2, hfa_3, hfa_4⟩ := box5 BK390; obtain ⟨hcb_0, hcb_1, hcb_2, hcb_3, hcb_4, hfb_0, hfb_1, hfb_2, hfb_3, hfb_4⟩ := box5 BK379
     go_wp2
     refine bodyPost_ret (results_ctt rfl _ _ gb379 27 #[.slice none 0 0, .int .i64 t384, .int .i64 t385, .int .i64 0, .slice Ao35 t387.length co35] (0, 0) _ rfl (by (with_reducible repeat (first | refine blk_drewN ?_ _ | refine blk_drew ?_ | refine blk_alloc ?_ _)); refine blk_put (cs := #[.slice none 0 0, .int .i64 t384, .int .i64 t385, .int .i64 0, .slice none 0 0]) ?_ 4 _ rfl; (with_reducible repeat (first | refine blk_drewN ?_ _ | refine blk_drew ?_ | refine blk_alloc ?_ _)); refine blk_put (cs := #[.slice none 0 0, .int .i64 t384, .int .i64 t385, .int .i64 0, .slice none 0 0]) ?_ 3 _ rfl; (with_reducible repeat (first | refine blk_drewN ?_ _ | refine blk_drew ?_ | refine blk_alloc ?_ _)); refine blk_put (cs := #[.slice none 0 0, .int .i64 t384, .int .i64 0, .int .i64 0, .slice none 0 0]) ?_ 2 _ rfl; (with_reducible repeat (first | refine blk_drewN ?_ _ | refine blk_drew ?_ | refine blk_alloc ?_ _)); refine blk_put (cs := #[.slice none 0 0, .int .i64 0, .int .i64 0, .int .i64 0, .slice none 0 0]) ?_ 1 _ rfl; (with_reducible repeat (first | refine blk_drewN ?_ _ | refine blk_drew ?_ | refine blk_alloc ?_ _)); refine blk_put (cs := #[.slice none 0 0, .int .i64 0, .int .i64 0, .int .i64 0, .slice none 0 0]) ?_ 0 _ rfl; (with_reducible repeat (first | refine blk_drewN ?_ _ | refine blk_drew ?_ | refine blk_alloc ?_ _)); (repeat (first | (refine blk_far ?_ NB379_390.out _) | (with_reducible refine blk_drewN ?_ _) | (with_reducible refine blk_drew ?_))); exact BK379.out) Try.underlying27 rfl (by kernel_rfl)) rfl ?_
     exact ⟨_, _, _, by first | rfl | (simp [errW_none, errW_some] <;> rfl) | (simp only [← hji6]; first | rfl | (simp [errW_none, errW_some] <;> rfl)) | (simp [*, errW_none, errW_some] <;> rfl), by first | exact Kd.R_nil _ _ _ _ _ | exact Kd.N_nil _ _ _ _ _ | exact Kd.V_nil _ _ _ _ _ | exact Kd.Q_nil _ _ _ _ _ | exact Kd.S_nil _ _ _ _ _, by (with_reducible repeat (first | apply Kd.R_alloc | apply Kd.R_drewN | apply Kd.R_drew)); exact Kd.R_mono (farsR (Kd.R_types (Kd.R_types HO389.out BK390.out (by decide)) BK379.out (by decide))) (fun _ hk => trivial), by (with_reducible repeat (first | apply Kd.R_alloc | apply Kd.R_drewN | apply Kd.R_drew)); exact Kd.R_mono (farsR (Kd.R_types (Kd.R_types HO383.out BK390.out (by decide)) BK379.out (by decide))) (fun _ hk => (by simp [Value.ownBlock])), belowg3 HB GE378 GE379 GE390⟩
   ·rw [if_neg c7] at H
    have c7b0 : decide ((t381.length : Int) < t384) = false := decide_eq_false c7
    clear c7
    simp only [Option.some.injEq, Prod.mk.injEq] at H
    obtain ⟨rfl, rfl, rfl, rfl, rfl, rfl, rfl⟩ := H
    go_enter Try.func115, Try.ntmps115
    go_upto_region 4 with (first | ((with_reducible refine gate_dst (N := 1) rfl ?_); refine boxev 1 #[.slice A0_0 l0_0.length c0_0, .int .i64 a0_1, .int .i64 a0_2, .int .i64 a0_3, .slice A0_4 l0_4.length c0_4] 27 ?_; intro gb378 hg w37 hbox hb; have BK378 := ak (hbox); have GW378 := ak (hgl hg (belowd HB)); have GE378 := ak (hgl hg (belowd HB)); replace HB := ak (below_step (belowd HB) hb); clear hb hbox hg) | ((with_reducible refine gate_dst (N := 2) rfl ?_); refine boxev 2 #[.slice none 0 0, .int .i64 0, .int .i64 0, .int .i64 0, .slice none 0 0] 27 ?_; intro gb379 hg w38 hbox hb; have BK379 := ak (hbox); have GW379 := ak (hgl hg (belowg1 HB GE378)); have GE379 := ak (hgl hg (belowg1 HB GE378)); replace HB := ak (below_step (belowg1 HB GE378) hb); have NB378_379 := ak ((by rw [hg]; exact Nat.ne_of_lt (blk_lt (blkd BK378)) : gb378 ≠ gb379)); have NB379_378 := ak ((by rw [hg]; exact Nat.ne_of_gt (blk_lt (blkd BK378)) : gb379 ≠ gb378)); replace BK378 := ak (blk_below (blkd BK378) hb); clear hb hbox hg; have hnb39 := NB378_379.out; have hnc39 := NB379_378.out; obtain ⟨hcz40_0, hcz40_1, hcz40_2, hcz40_3, hcz40_4, hfz40_0, hfz40_1, hfz40_2, hfz40_3, hfz40_4⟩ := box5 BK378) | ((with_reducible refine gate_callee (f := 99) rfl ?_); refine goesLa (some 8) rfl Try.func99 #[.agg #[.slice A0_0 l0_0.length c0_0, .int .i64 a0_1, .int .i64 a0_2, .int .i64 a0_3, .slice A0_4 l0_4.length c0_4]] rfl ?_; (with_reducible refine (impl_GoodMix.calls k _ _ l0_0 a0_1 a0_2 a0_3 _ _ l0_4 true _ ?side1 ?side2 ?side3 ?side4 A2.out).mono ?_); (case side1 => exact cd (Kd.C_below HR0_0.out HB.out)); (case side2 => exact HC0_0.out); (case side3 => exact cd (Kd.C_below HR0_4.out HB.out)); (case side4 => exact HC0_4.out); rintro e w41 ⟨rfl, hb⟩; refine ⟨_, rfl, ?_⟩; replace BK378 := ak (blk_below (blkd BK378) hb); replace BK379 := ak (blk_below (blkd BK379) hb); replace HB := ak (below_step (belowg2 HB GE378 GE379) hb); (try clear hb); obtain ⟨hcz42_0, hcz42_1, hcz42_2, hcz42_3, hcz42_4, hfz42_0, hfz42_1, hfz42_2, hfz42_3, hfz42_4⟩ := box5 BK378) | ((with_reducible refine gate_callee (f := 101) rfl ?_); refine goesLa (some 12) rfl Try.func101 #[.agg #[.slice A0_0 l0_0.length c0_0, .int .i64 a0_1, .int .i64 a0_2, .int .i64 a0_3, .slice A0_4 l0_4.length c0_4]] rfl ?_; (with_reducible refine (impl_Mix_own.calls _ _ l0_0 a0_1 a0_2 a0_3 _ _ l0_4 t381 t384 t385 t386 t387 _ ?side1 ?side2 ?side3 ?side4 A4.out).mono ?_); (case side1 => exact cd (Kd.C_below HR0_0.out HB.out)); (case side2 => exact HC0_0.out); (case side3 => exact cd (Kd.C_below HR0_4.out HB.out)); (case side4 => exact HC0_4.out); rintro e w43 ⟨v382, v388, rfl, ho0, ho1, hb⟩; refine ⟨_, rfl, ?_⟩; have HO383 := ak (Kd.R_lower ho0 (below_size (belowg2 HB GE378 GE379))); have HO389 := ak (Kd.R_lower ho1 (below_size (belowg2 HB GE378 GE379))); replace BK378 := ak (blk_below (blkd BK378) hb); replace BK379 := ak (blk_below (blkd BK379) hb); replace HB := ak (below_step (belowg2 HB GE378 GE379) hb); (try clear hb); (try clear ho0); (try clear ho1)) | ((with_reducible refine gate_dst (N := 5) rfl ?_); refine boxev 5 #[.slice none 0 0, .int .i64 0, .int .i64 0, .int .i64 0, .slice none 0 0] 27 ?_; intro gb390 hg w44 hbox hb; replace HO383 := ak (Kd.R_below (rdl HO383) hb); replace HO389 := ak (Kd.R_below (rdl HO389) hb); have BK390 := ak (hbox); have GW390 := ak (hgl hg (belowg2 HB GE378 GE379)); have GE390 := ak (hgl hg (belowg2 HB GE378 GE379)); replace HB := ak (below_step (belowg2 HB GE378 GE379) hb); have NB378_390 := ak ((by rw [hg]; exact Nat.ne_of_lt (blk_lt (blkd BK378)) : gb378 ≠ gb390)); have NB390_378 := ak ((by rw [hg]; exact Nat.ne_of_gt (blk_lt (blkd BK378)) : gb390 ≠ gb378)); replace BK378 := ak (blk_below (blkd BK378) hb); have NB379_390 := ak ((by rw [hg]; exact Nat.ne_of_lt (blk_lt (blkd BK379)) : gb379 ≠ gb390)); have NB390_379 := ak ((by rw [hg]; exact Nat.ne_of_gt (blk_lt (blkd BK379)) : gb390 ≠ gb379)); replace BK379 := ak (blk_below (blkd BK379) hb); clear hb hbox hg; obtain ⟨Ao45, co45, eo45⟩ := Kd.R_slice HO383.out; subst eo45; have hnb46 := NB390_378.out; have hnc46 := NB378_390.out; have hnb47 := NB390_379.out; have hnc47 := NB379_390.out; obtain ⟨hcz48_0, hcz48_1, hcz48_2, hcz48_3, hcz48_4, hfz48_0, hfz48_1, hfz48_2, hfz48_3, hfz48_4⟩ := box5 BK390; obtain ⟨Ao49, co49, eo49⟩ := Kd.R_slice HO389.out; subst eo49; obtain ⟨hcz50_0, hcz50_1, hcz50_2, hcz50_3, hcz50_4, hfz50_0, hfz50_1, hfz50_2, hfz50_3, hfz50_4⟩ := box5 BK379))
    have n0_ : Aside0 (Kd.R Kd.string 9 (((((w44.setCell ⟨gb390, 0, none⟩ (.slice Ao45 t381.length co45)).setCell ⟨gb390, 1, none⟩ (.int .i64 t384)).setCell ⟨gb390, 2, none⟩ (.int .i64 t385)).setCell ⟨gb390, 3, none⟩ (.int .i64 t386)).setCell ⟨gb390, 4, none⟩ (.slice Ao49 t387.length co49)) w.heap.size (fun _ => True) (.slice Ao45 t381.length co45) t381) := ⟨Kd.R_mono (farsR (Kd.R_types HO383.out BK390.out (by decide))) (fun _ _ => trivial)⟩
    have n1_ : Aside0 (Kd.R (Kd.int .i64) 3 (((((w44.setCell ⟨gb390, 0, none⟩ (.slice Ao45 t381.length co45)).setCell ⟨gb390, 1, none⟩ (.int .i64 t384)).setCell ⟨gb390, 2, none⟩ (.int .i64 t385)).setCell ⟨gb390, 3, none⟩ (.int .i64 t386)).setCell ⟨gb390, 4, none⟩ (.slice Ao49 t387.length co49)) w.heap.size (fun _ => True) (.slice Ao49 t387.length co49) t387) := ⟨Kd.R_mono (farsR (Kd.R_types HO389.out BK390.out (by decide))) (fun _ _ => trivial)⟩
    have n2_ : Aside0 ((((((w44.setCell ⟨gb390, 0, none⟩ (.slice Ao45 t381.length co45)).setCell ⟨gb390, 1, none⟩ (.int .i64 t384)).setCell ⟨gb390, 2, none⟩ (.int .i64 t385)).setCell ⟨gb390, 3, none⟩ (.int .i64 t386)).setCell ⟨gb390, 4, none⟩ (.slice Ao49 t387.length co49)).heap[gb379]? = some (.cells #[.slice none 0 0, .int .i64 0, .int .i64 0, .int .i64 0, .slice none 0 0] 27 (0, 0))) := ⟨by (repeat (first | (refine blk_far ?_ NB379_390.out _))); exact BK379.out⟩
    have n3_ : Aside0 ((((((w44.setCell ⟨gb390, 0, none⟩ (.slice Ao45 t381.length co45)).setCell ⟨gb390, 1, none⟩ (.int .i64 t384)).setCell ⟨gb390, 2, none⟩ (.int .i64 t385)).setCell ⟨gb390, 3, none⟩ (.int .i64 t386)).setCell ⟨gb390, 4, none⟩ (.slice Ao49 t387.length co49)).heap[gb390]? = some (.cells #[.slice Ao45 t381.length co45, .int .i64 t384, .int .i64 t385, .int .i64 t386, .slice Ao49 t387.length co49] 27 (0, 0))) := ⟨by refine blk_put (cs := #[.slice Ao45 t381.length co45, .int .i64 t384, .int .i64 t385, .int .i64 t386, .slice none 0 0]) ?_ 4 _ rfl; refine blk_put (cs := #[.slice Ao45 t381.length co45, .int .i64 t384, .int .i64 t385, .int .i64 0, .slice none 0 0]) ?_ 3 _ rfl; refine blk_put (cs := #[.slice Ao45 t381.length co45, .int .i64 t384, .int .i64 0, .int .i64 0, .slice none 0 0]) ?_ 2 _ rfl; refine blk_put (cs := #[.slice Ao45 t381.length co45, .int .i64 0, .int .i64 0, .int .i64 0, .slice none 0 0]) ?_ 1 _ rfl; refine blk_put (cs := #[.slice none 0 0, .int .i64 0, .int .i64 0, .int .i64 0, .slice none 0 0]) ?_ 0 _ rfl; exact BK390.out⟩
    have n4_ : Aside0 (Below w.heap.size w (((((w44.setCell ⟨gb390, 0, none⟩ (.slice Ao45 t381.length co45)).setCell ⟨gb390, 1, none⟩ (.int .i64 t384)).setCell ⟨gb390, 2, none⟩ (.int .i64 t385)).setCell ⟨gb390, 3, none⟩ (.int .i64 t386)).setCell ⟨gb390, 4, none⟩ (.slice Ao49 t387.length co49))) := ⟨belowg1 HB GE390⟩
    clear HO383 HO389 BK378 BK379 BK390 HB
    (try clear hcz40_0); (try clear hfz40_0); (try clear hcz40_1); (try clear hfz40_1); (try clear hcz40_2); (try clear hfz40_2); (try clear hcz40_3); (try clear hfz40_3); (try clear hcz40_4); (try clear hfz40_4); skip
    (try clear hcz42_0); (try clear hfz42_0); (try clear hcz42_1); (try clear hfz42_1); (try clear hcz42_2); (try clear hfz42_2); (try clear hcz42_3); (try clear hfz42_3); (try clear hcz42_4); (try clear hfz42_4); skip
    (try clear hcz48_0); (try clear hfz48_0); (try clear hcz48_1); (try clear hfz48_1); (try clear hcz48_2); (try clear hfz48_2); (try clear hcz48_3); (try clear hfz48_3); (try clear hcz48_4); (try clear hfz48_4); skip
    (try clear hcz50_0); (try clear hfz50_0); (try clear hcz50_1); (try clear hfz50_1); (try clear hcz50_2); (try clear hfz50_2); (try clear hcz50_3); (try clear hfz50_3); (try clear hcz50_4); (try clear hfz50_4); skip
    generalize (((((w44.setCell ⟨gb390, 0, none⟩ (.slice Ao45 t381.length co45)).setCell ⟨gb390, 1, none⟩ (.int .i64 t384)).setCell ⟨gb390, 2, none⟩ (.int .i64 t385)).setCell ⟨gb390, 3, none⟩ (.int .i64 t386)).setCell ⟨gb390, 4, none⟩ (.slice Ao49 t387.length co49)) = wt_ at n0_ n1_ n2_ n3_ n4_ ⊢
    have HO383 := n0_; have HO389 := n1_; have BK379 := n2_; have BK390 := n3_; have HB := n4_; clear n0_ n1_ n2_ n3_ n4_
    obtain ⟨hca_0, hca_1, hca_2, hca_3, hca_4, hfa_0, hfa_1, hfa_2, hfa_3, hfa_4⟩ := box5 BK390; obtain ⟨hcb_0, hcb_1, hcb_2, hcb_3, hcb_4, hfb_0, hfb_1, hfb_2, hfb_3, hfb_4⟩ := box5 BK379
    go_wp2
    refine bodyPost_ret (results_ctt rfl _ _ gb379 27 #[.slice none 0 0, .int .i64 t384, .int .i64 t385, .int .i64 0, .slice Ao49 t387.length co49] (0, 0) _ rfl (by (with_reducible repeat (first | refine blk_drewN ?_ _ | refine blk_drew ?_ | refine blk_alloc ?_ _)); refine blk_put (cs := #[.slice none 0 0, .int .i64 t384, .int .i64 t385, .int .i64 0, .slice none 0 0]) ?_ 4 _ rfl; (with_reducible repeat (first | refine blk_drewN ?_ _ | refine blk_drew ?_ | refine blk_alloc ?_ _)); refine blk_put (cs := #[.slice none 0 0, .int .i64 t384, .int .i64 t385, .int .i64 0, .slice none 0 0]) ?_ 3 _ rfl; (with_reducible repeat (first | refine blk_drewN ?_ _ | refine blk_drew ?_ | refine blk_alloc ?_ _)); refine blk_put (cs := #[.slice none 0 0, .int .i64 t384, .int .i64 0, .int .i64 0, .slice none 0 0]) ?_ 2 _ rfl; (with_reducible repeat (first | refine blk_drewN ?_ _ | refine blk_drew ?_ | refine blk_alloc ?_ _)); refine blk_put (cs := #[.slice none 0 0, .int .i64 0, .int .i64 0, .int .i64 0, .slice none 0 0]) ?_ 1 _ rfl; (with_reducible repeat (first | refine blk_drewN ?_ _ | refine blk_drew ?_ | refine blk_alloc ?_ _)); refine blk_put (cs := #[.slice none 0 0, .int .i64 0, .int .i64 0, .int .i64 0, .slice none 0 0]) ?_ 0 _ rfl; (with_reducible repeat (first | refine blk_drewN ?_ _ | refine blk_drew ?_ | refine blk_alloc ?_ _)); (repeat (first | (refine blk_far ?_ NB379_390.out _) | (with_reducible refine blk_drewN ?_ _) | (with_reducible refine blk_drew ?_))); exact BK379.out) Try.underlying27 rfl (by kernel_rfl)) rfl ?_
    exact ⟨_, _, _, by first | rfl | (simp [errW_none, errW_some] <;> rfl) | (simp only [← hji6]; first | rfl | (simp [errW_none, errW_some] <;> rfl)) | (simp [*, errW_none, errW_some] <;> rfl), by first | exact Kd.R_nil _ _ _ _ _ | exact Kd.N_nil _ _ _ _ _ | exact Kd.V_nil _ _ _ _ _ | exact Kd.Q_nil _ _ _ _ _ | exact Kd.S_nil _ _ _ _ _, by (with_reducible repeat (first | apply Kd.R_alloc | apply Kd.R_drewN | apply Kd.R_drew)); exact Kd.R_mono (farsR (Kd.R_types (Kd.R_types HO389.out BK390.out (by decide)) BK379.out (by decide))) (fun _ hk => trivial), by (with_reducible repeat (first | apply Kd.R_alloc | apply Kd.R_drewN | apply Kd.R_drew)); exact Kd.R_mono (farsR (Kd.R_types (Kd.R_types HO383.out BK390.out (by decide)) BK379.out (by decide))) (fun _ hk => (by simp [Value.ownBlock])), belowg3 HB GE378 GE379 GE390⟩
  ·rw [if_neg c5] at H
   have c5b0 : decide (0 < (t381.length : Int)) = false := decide_eq_false c5
   have c5b1 : decide (0 < t381.length) = false := decide_eq_false (by omega)
   clear c5
   by_cases c51 : (t381.length : Int) < t384
   ·rw [if_pos c51] at H
    have c51b0 : decide ((t381.length : Int) < t384) = true := decide_eq_true c51
    clear c51
    by_cases c52 : t386 < t385
    ·rw [if_pos c52] at H
     have c52b0 : decide (t386 < t385) = true := decide_eq_true c52
     clear c52
     simp only [Option.some.injEq, Prod.mk.injEq] at H
     obtain ⟨rfl, rfl, rfl, rfl, rfl, rfl, rfl⟩ := H
     go_enter Try.func115, Try.ntmps115
     go_upto_region 4 with (first | ((with_reducible refine gate_dst (N := 1) rfl ?_); refine boxev 1 #[.slice A0_0 l0_0.length c0_0, .int .i64 a0_1, .int .i64 a0_2, .int .i64 a0_3, .slice A0_4 l0_4.length c0_4] 27 ?_; intro gb378 hg w53 hbox hb; have BK378 := ak (hbox); have GW378 := ak (hgl hg (belowd HB)); have GE378 := ak (hgl hg (belowd HB)); replace HB := ak (below_step (belowd HB) hb); clear hb hbox hg) | ((with_reducible refine gate_dst (N := 2) rfl ?_); refine boxev 2 #[.slice none 0 0, .int .i64 0, .int .i64 0, .int .i64 0, .slice none 0 0] 27 ?_; intro gb379 hg w54 hbox hb; have BK379 := ak (hbox); have GW379 := ak (hgl hg (belowg1 HB GE378)); have GE379 := ak (hgl hg (belowg1 HB GE378)); replace HB := ak (below_step (belowg1 HB GE378) hb); have NB378_379 := ak ((by rw [hg]; exact Nat.ne_of_lt (blk_lt (blkd BK378)) : gb378 ≠ gb379)); have NB379_378 := ak ((by rw [hg]; exact Nat.ne_of_gt (blk_lt (blkd BK378)) : gb379 ≠ gb378)); replace BK378 := ak (blk_below (blkd BK378) hb); clear hb hbox hg; have hnb55 := NB378_379.out; have hnc55 := NB379_378.out; obtain ⟨hcz56_0, hcz56_1, hcz56_2, hcz56_3, hcz56_4, hfz56_0, hfz56_1, hfz56_2, hfz56_3, hfz56_4⟩ := box5 BK378) | ((with_reducible refine gate_callee (f := 99) rfl ?_); refine goesLa (some 8) rfl Try.func99 #[.agg #[.slice A0_0 l0_0.length c0_0, .int .i64 a0_1, .int .i64 a0_2, .int .i64 a0_3, .slice A0_4 l0_4.length c0_4]] rfl ?_; (with_reducible refine (impl_GoodMix.calls k _ _ l0_0 a0_1 a0_2 a0_3 _ _ l0_4 true _ ?side1 ?side2 ?side3 ?side4 A2.out).mono ?_); (case side1 => exact cd (Kd.C_below HR0_0.out HB.out)); (case side2 => exact HC0_0.out); (case side3 => exact cd (Kd.C_below HR0_4.out HB.out)); (case side4 => exact HC0_4.out); rintro e w57 ⟨rfl, hb⟩; refine ⟨_, rfl, ?_⟩; replace BK378 := ak (blk_below (blkd BK378) hb); replace BK379 := ak (blk_below (blkd BK379) hb); replace HB := ak (below_step (belowg2 HB GE378 GE379) hb); (try clear hb); obtain ⟨hcz58_0, hcz58_1, hcz58_2, hcz58_3, hcz58_4, hfz58_0, hfz58_1, hfz58_2, hfz58_3, hfz58_4⟩ := box5 BK378) | ((with_reducible refine gate_callee (f := 101) rfl ?_); refine goesLa (some 12) rfl Try.func101 #[.agg #[.slice A0_0 l0_0.length c0_0, .int .i64 a0_1, .int .i64 a0_2, .int .i64 a0_3, .slice A0_4 l0_4.length c0_4]] rfl ?_; (with_reducible refine (impl_Mix_own.calls _ _ l0_0 a0_1 a0_2 a0_3 _ _ l0_4 t381 t384 t385 t386 t387 _ ?side1 ?side2 ?side3 ?side4 A4.out).mono ?_); (case side1 => exact cd (Kd.C_below HR0_0.out HB.out)); (case side2 => exact HC0_0.out); (case side3 => exact cd (Kd.C_below HR0_4.out HB.out)); (case side4 => exact HC0_4.out); rintro e w59 ⟨v382, v388, rfl, ho0, ho1, hb⟩; refine ⟨_, rfl, ?_⟩; have HO383 := ak (Kd.R_lower ho0 (below_size (belowg2 HB GE378 GE379))); have HO389 := ak (Kd.R_lower ho1 (below_size (belowg2 HB GE378 GE379))); replace BK378 := ak (blk_below (blkd BK378) hb); replace BK379 := ak (blk_below (blkd BK379) hb); replace HB := ak (below_step (belowg2 HB GE378 GE379) hb); (try clear hb); (try clear ho0); (try clear ho1)) | ((with_reducible refine gate_dst (N := 5) rfl ?_); refine boxev 5 #[.slice none 0 0, .int .i64 0, .int .i64 0, .int .i64 0, .slice none 0 0] 27 ?_; intro gb390 hg w60 hbox hb; replace HO383 := ak (Kd.R_below (rdl HO383) hb); replace HO389 := ak (Kd.R_below (rdl HO389) hb); have BK390 := ak (hbox); have GW390 := ak (hgl hg (belowg2 HB GE378 GE379)); have GE390 := ak (hgl hg (belowg2 HB GE378 GE379)); replace HB := ak (below_step (belowg2 HB GE378 GE379) hb); have NB378_390 := ak ((by rw [hg]; exact Nat.ne_of_lt (blk_lt (blkd BK378)) : gb378 ≠ gb390)); have NB390_378 := ak ((by rw [hg]; exact Nat.ne_of_gt (blk_lt (blkd BK378)) : gb390 ≠ gb378)); replace BK378 := ak (blk_below (blkd BK378) hb); have NB379_390 := ak ((by rw [hg]; exact Nat.ne_of_lt (blk_lt (blkd BK379)) : gb379 ≠ gb390)); have NB390_379 := ak ((by rw [hg]; exact Nat.ne_of_gt (blk_lt (blkd BK379)) : gb390 ≠ gb379)); replace BK379 := ak (blk_below (blkd BK379) hb); clear hb hbox hg; obtain ⟨Ao61, co61, eo61⟩ := Kd.R_slice HO383.out; subst eo61; have hnb62 := NB390_378.out; have hnc62 := NB378_390.out; have hnb63 := NB390_379.out; have hnc63 := NB379_390.out; obtain ⟨hcz64_0, hcz64_1, hcz64_2, hcz64_3, hcz64_4, hfz64_0, hfz64_1, hfz64_2, hfz64_3, hfz64_4⟩ := box5 BK390; obtain ⟨Ao65, co65, eo65⟩ := Kd.R_slice HO389.out; subst eo65; obtain ⟨hcz66_0, hcz66_1, hcz66_2, hcz66_3, hcz66_4, hfz66_0, hfz66_1, hfz66_2, hfz66_3, hfz66_4⟩ := box5 BK379))
     have n0_ : Aside0 (Kd.R Kd.string 9 (((((w60.setCell ⟨gb390, 0, none⟩ (.slice Ao61 t381.length co61)).setCell ⟨gb390, 1, none⟩ (.int .i64 t384)).setCell ⟨gb390, 2, none⟩ (.int .i64 t385)).setCell ⟨gb390, 3, none⟩ (.int .i64 t386)).setCell ⟨gb390, 4, none⟩ (.slice Ao65 t387.length co65)) w.heap.size (fun _ => True) (.slice Ao61 t381.length co61) t381) := ⟨Kd.R_mono (farsR (Kd.R_types HO383.out BK390.out (by decide))) (fun _ _ => trivial)⟩
     have n1_ : Aside0 (Kd.R (Kd.int .i64) 3 (((((w60.setCell ⟨gb390, 0, none⟩ (.slice Ao61 t381.length co61)).setCell ⟨gb390, 1, none⟩ (.int .i64 t384)).setCell ⟨gb390, 2, none⟩ (.int .i64 t385)).setCell ⟨gb390, 3, none⟩ (.int .i64 t386)).setCell ⟨gb390, 4, none⟩ (.slice Ao65 t387.length co65)) w.heap.size (fun _ => True) (.slice Ao65 t387.length co65) t387) := ⟨Kd.R_mono (farsR (Kd.R_types HO389.out BK390.out (by decide))) (fun _ _ => trivial)⟩
     have n2_ : Aside0 ((((((w60.setCell ⟨gb390, 0, none⟩ (.slice Ao61 t381.length co61)).setCell ⟨gb390, 1, none⟩ (.int .i64 t384)).setCell ⟨gb390, 2, none⟩ (.int .i64 t385)).setCell ⟨gb390, 3, none⟩ (.int .i64 t386)).setCell ⟨gb390, 4, none⟩ (.slice Ao65 t387.length co65)).heap[gb379]? = some (.cells #[.slice none 0 0, .int .i64 0, .int .i64 0, .int .i64 0, .slice none 0 0] 27 (0, 0))) := ⟨by (repeat (first | (refine blk_far ?_ NB379_390.out _))); exact BK379.out⟩
     have n3_ : Aside0 ((((((w60.setCell ⟨gb390, 0, none⟩ (.slice Ao61 t381.length co61)).setCell ⟨gb390, 1, none⟩ (.int .i64 t384)).setCell ⟨gb390, 2, none⟩ (.int .i64 t385)).setCell ⟨gb390, 3, none⟩ (.int .i64 t386)).setCell ⟨gb390, 4, none⟩ (.slice Ao65 t387.length co65)).heap[gb390]? = some (.cells #[.slice Ao61 t381.length co61, .int .i64 t384, .int .i64 t385, .int .i64 t386, .slice Ao65 t387.length co65] 27 (0, 0))) := ⟨by refine blk_put (cs := #[.slice Ao61 t381.length co61, .int .i64 t384, .int .i64 t385, .int .i64 t386, .slice none 0 0]) ?_ 4 _ rfl; refine blk_put (cs := #[.slice Ao61 t381.length co61, .int .i64 t384, .int .i64 t385, .int .i64 0, .slice none 0 0]) ?_ 3 _ rfl; refine blk_put (cs := #[.slice Ao61 t381.length co61, .int .i64 t384, .int .i64 0, .int .i64 0, .slice none 0 0]) ?_ 2 _ rfl; refine blk_put (cs := #[.slice Ao61 t381.length co61, .int .i64 0, .int .i64 0, .int .i64 0, .slice none 0 0]) ?_ 1 _ rfl; refine blk_put (cs := #[.slice none 0 0, .int .i64 0, .int .i64 0, .int .i64 0, .slice none 0 0]) ?_ 0 _ rfl; exact BK390.out⟩
     have n4_ : Aside0 (Below w.heap.size w (((((w60.setCell ⟨gb390, 0, none⟩ (.slice Ao61 t381.length co61)).setCell ⟨gb390, 1, none⟩ (.int .i64 t384)).setCell ⟨gb390, 2, none⟩ (.int .i64 t385)).setCell ⟨gb390, 3, none⟩ (.int .i64 t386)).setCell ⟨gb390, 4, none⟩ (.slice Ao65 t387.length co65))) := ⟨belowg1 HB GE390⟩
     clear HO383 HO389 BK378 BK379 BK390 HB
     (try clear hcz56_0); (try clear hfz56_0); (try clear hcz56_1); (try clear hfz56_1); (try clear hcz56_2); (try clear hfz56_2); (try clear hcz56_3); (try clear hfz56_3); (try clear hcz56_4); (try clear hfz56_4); skip
     (try clear hcz58_0); (try clear hfz58_0); (try clear hcz58_1); (try clear hfz58_1); (try clear hcz58_2); (try clear hfz58_2); (try clear hcz58_3); (try clear hfz58_3); (try clear hcz58_4); (try clear hfz58_4); skip
     (try clear hcz64_0); (try clear hfz64_0); (try clear hcz64_1); (try clear hfz64_1); (try clear hcz64_2); (try clear hfz64_2); (try clear hcz64_3); (try clear hfz64_3); (try clear hcz64_4); (try clear hfz64_4); skip
     (try clear hcz66_0); (try clear hfz66_0); (try clear hcz66_1); (try clear hfz66_1); (try clear hcz66_2); (try clear hfz66_2); (try clear hcz66_3); (try clear hfz66_3); (try clear hcz66_4); (try clear hfz66_4); skip
     generalize (((((w60.setCell ⟨gb390, 0, none⟩ (.slice Ao61 t381.length co61)).setCell ⟨gb390, 1, none⟩ (.int .i64 t384)).setCell ⟨gb390, 2, none⟩ (.int .i64 t385)).setCell ⟨gb390, 3, none⟩ (.int .i64 t386)).setCell ⟨gb390, 4, none⟩ (.slice Ao65 t387.length co65)) = wt_ at n0_ n1_ n2_ n3_ n4_ ⊢
     have HO383 := n0_; have HO389 := n1_; have BK379 := n2_; have BK390 := n3_; have HB := n4_; clear n0_ n1_ n2_ n3_ n4_
     obtain ⟨hca_0, hca_1, hca_2, hca_3, hca_4, hfa_0, hfa_1, hfa_2, hfa_3, hfa_4⟩ := box5 BK390; obtain ⟨hcb_0, hcb_1, hcb_2, hcb_3, hcb_4, hfb_0, hfb_1, hfb_2, hfb_3, hfb_4⟩ := box5 BK379
     go_wp2
     refine bodyPost_ret (results_ctt rfl _ _ gb379 27 #[.slice Ao61 t381.length co61, .int .i64 t384, .int .i64 t385, .int .i64 t386, .slice Ao65 t387.length co65] (0, 0) _ rfl (by (with_reducible repeat (first | refine blk_drewN ?_ _ | refine blk_drew ?_ | refine blk_alloc ?_ _)); refine blk_put (cs := #[.slice Ao61 t381.length co61, .int .i64 t384, .int .i64 t385, .int .i64 t386, .slice none 0 0]) ?_ 4 _ rfl; (with_reducible repeat (first | refine blk_drewN ?_ _ | refine blk_drew ?_ | refine blk_alloc ?_ _)); refine blk_put (cs := #[.slice Ao61 t381.length co61, .int .i64 t384, .int .i64 t385, .int .i64 0, .slice none 0 0]) ?_ 3 _ rfl; (with_reducible repeat (first | refine blk_drewN ?_ _ | refine blk_drew ?_ | refine blk_alloc ?_ _)); refine blk_put (cs := #[.slice Ao61 t381.length co61, .int .i64 t384, .int .i64 0, .int .i64 0, .slice none 0 0]) ?_ 2 _ rfl; (with_reducible repeat (first | refine blk_drewN ?_ _ | refine blk_drew ?_ | refine blk_alloc ?_ _)); refine blk_put (cs := #[.slice Ao61 t381.length co61, .int .i64 0, .int .i64 0, .int .i64 0, .slice none 0 0]) ?_ 1 _ rfl; (with_reducible repeat (first | refine blk_drewN ?_ _ | refine blk_drew ?_ | refine blk_alloc ?_ _)); refine blk_put (cs := #[.slice none 0 0, .int .i64 0, .int .i64 0, .int .i64 0, .slice none 0 0]) ?_ 0 _ rfl; (with_reducible repeat (first | refine blk_drewN ?_ _ | refine blk_drew ?_ | refine blk_alloc ?_ _)); (repeat (first | (refine blk_far ?_ NB379_390.out _) | (with_reducible refine blk_drewN ?_ _) | (with_reducible refine blk_drew ?_))); exact BK379.out) Try.underlying27 rfl (by kernel_rfl)) rfl ?_
     exact ⟨_, _, _, er2, by (with_reducible repeat (first | apply Kd.R_alloc | apply Kd.R_drewN | apply Kd.R_drew)); exact Kd.R_mono (farsR (Kd.R_types (Kd.R_types HO383.out BK390.out (by decide)) BK379.out (by decide))) (fun _ hk => (by simp [Value.ownBlock])), by (with_reducible repeat (first | apply Kd.R_alloc | apply Kd.R_drewN | apply Kd.R_drew)); exact Kd.R_mono (farsR (Kd.R_types (Kd.R_types HO389.out BK390.out (by decide)) BK379.out (by decide))) (fun _ hk => trivial), by first | exact Kd.R_nil _ _ _ _ _ | exact Kd.N_nil _ _ _ _ _ | exact Kd.V_nil _ _ _ _ _ | exact Kd.Q_nil _ _ _ _ _ | exact Kd.S_nil _ _ _ _ _, belowg3 HB GE378 GE379 GE390⟩
    ·rw [if_neg c52] at H
     have c52b0 : decide (t386 < t385) = false := decide_eq_false c52
     clear c52
     simp only [Option.some.injEq, Prod.mk.injEq] at H
     obtain ⟨rfl, rfl, rfl, rfl, rfl, rfl, rfl⟩ := H
     go_enter Try.func115, Try.ntmps115
     go_upto_region 4 with (first | ((with_reducible refine gate_dst (N := 1) rfl ?_); refine boxev 1 #[.slice A0_0 l0_0.length c0_0, .int .i64 a0_1, .int .i64 a0_2, .int .i64 a0_3, .slice A0_4 l0_4.length c0_4] 27 ?_; intro gb378 hg w67 hbox hb; have BK378 := ak (hbox); have GW378 := ak (hgl hg (belowd HB)); have GE378 := ak (hgl hg (belowd HB)); replace HB := ak (below_step (belowd HB) hb); clear hb hbox hg) | ((with_reducible refine gate_dst (N := 2) rfl ?_); refine boxev 2 #[.slice none 0 0, .int .i64 0, .int .i64 0, .int .i64 0, .slice none 0 0] 27 ?_; intro gb379 hg w68 hbox hb; have BK379 := ak (hbox); have GW379 := ak (hgl hg (belowg1 HB GE378)); have GE379 := ak (hgl hg (belowg1 HB GE378)); replace HB := ak (below_step (belowg1 HB GE378) hb); have NB378_379 := ak ((by rw [hg]; exact Nat.ne_of_lt (blk_lt (blkd BK378)) : gb378 ≠ gb379)); have NB379_378 := ak ((by rw [hg]; exact Nat.ne_of_gt (blk_lt (blkd BK378)) : gb379 ≠ gb378)); replace BK378 := ak (blk_below (blkd BK378) hb); clear hb hbox hg; have hnb69 := NB378_379.out; have hnc69 := NB379_378.out; obtain ⟨hcz70_0, hcz70_1, hcz70_2, hcz70_3, hcz70_4, hfz70_0, hfz70_1, hfz70_2, hfz70_3, hfz70_4⟩ := box5 BK378) | ((with_reducible refine gate_callee (f := 99) rfl ?_); refine goesLa (some 8) rfl Try.func99 #[.agg #[.slice A0_0 l0_0.length c0_0, .int .i64 a0_1, .int .i64 a0_2, .int .i64 a0_3, .slice A0_4 l0_4.length c0_4]] rfl ?_; (with_reducible refine (impl_GoodMix.calls k _ _ l0_0 a0_1 a0_2 a0_3 _ _ l0_4 true _ ?side1 ?side2 ?side3 ?side4 A2.out).mono ?_); (case side1 => exact cd (Kd.C_below HR0_0.out HB.out)); (case side2 => exact HC0_0.out); (case side3 => exact cd (Kd.C_below HR0_4.out HB.out)); (case side4 => exact HC0_4.out); rintro e w71 ⟨rfl, hb⟩; refine ⟨_, rfl, ?_⟩; replace BK378 := ak (blk_below (blkd BK378) hb); replace BK379 := ak (blk_below (blkd BK379) hb); replace HB := ak (below_step (belowg2 HB GE378 GE379) hb); (try clear hb); obtain ⟨hcz72_0, hcz72_1, hcz72_2, hcz72_3, hcz72_4, hfz72_0, hfz72_1, hfz72_2, hfz72_3, hfz72_4⟩ := box5 BK378) | ((with_reducible refine gate_callee (f := 101) rfl ?_); refine goesLa (some 12) rfl Try.func101 #[.agg #[.slice A0_0 l0_0.length c0_0, .int .i64 a0_1, .int .i64 a0_2, .int .i64 a0_3, .slice A0_4 l0_4.length c0_4]] rfl ?_; (with_reducible refine (impl_Mix_own.calls _ _ l0_0 a0_1 a0_2 a0_3 _ _ l0_4 t381 t384 t385 t386 t387 _ ?side1 ?side2 ?side3 ?side4 A4.out).mono ?_); (case side1 => exact cd (Kd.C_below HR0_0.out HB.out)); (case side2 => exact HC0_0.out); (case side3 => exact cd (Kd.C_below HR0_4.out HB.out)); (case side4 => exact HC0_4.out); rintro e w73 ⟨v382, v388, rfl, ho0, ho1, hb⟩; refine ⟨_, rfl, ?_⟩; have HO383 := ak (Kd.R_lower ho0 (below_size (belowg2 HB GE378 GE379))); have HO389 := ak (Kd.R_lower ho1 (below_size (belowg2 HB GE378 GE379))); replace BK378 := ak (blk_below (blkd BK378) hb); replace BK379 := ak (blk_below (blkd BK379) hb); replace HB := ak (below_step (belowg2 HB GE378 GE379) hb); (try clear hb); (try clear ho0); (try clear ho1)) | ((with_reducible refine gate_dst (N := 5) rfl ?_); refine boxev 5 #[.slice none 0 0, .int .i64 0, .int .i64 0, .int .i64 0, .slice none 0 0] 27 ?_; intro gb390 hg w74 hbox hb; replace HO383 := ak (Kd.R_below (rdl HO383) hb); replace HO389 := ak (Kd.R_below (rdl HO389) hb); have BK390 := ak (hbox); have GW390 := ak (hgl hg (belowg2 HB GE378 GE379)); have GE390 := ak (hgl hg (belowg2 HB GE378 GE379)); replace HB := ak (below_step (belowg2 HB GE378 GE379) hb); have NB378_390 := ak ((by rw [hg]; exact Nat.ne_of_lt (blk_lt (blkd BK378)) : gb378 ≠ gb390)); have NB390_378 := ak ((by rw [hg]; exact Nat.ne_of_gt (blk_lt (blkd BK378)) : gb390 ≠ gb378)); replace BK378 := ak (blk_below (blkd BK378) hb); have NB379_390 := ak ((by rw [hg]; exact Nat.ne_of_lt (blk_lt (blkd BK379)) : gb379 ≠ gb390)); have NB390_379 := ak ((by rw [hg]; exact Nat.ne_of_gt (blk_lt (blkd BK379)) : gb390 ≠ gb379)); replace BK379 := ak (blk_below (blkd BK379) hb); clear hb hbox hg; obtain ⟨Ao75, co75, eo75⟩ := Kd.R_slice HO383.out; subst eo75; have hnb76 := NB390_378.out; have hnc76 := NB378_390.out; have hnb77 := NB390_379.out; have hnc77 := NB379_390.out; obtain ⟨hcz78_0, hcz78_1, hcz78_2, hcz78_3, hcz78_4, hfz78_0, hfz78_1, hfz78_2, hfz78_3, hfz78_4⟩ := box5 BK390; obtain ⟨Ao79, co79, eo79⟩ := Kd.R_slice HO389.out; subst eo79; obtain ⟨hcz80_0, hcz80_1, hcz80_2, hcz80_3, hcz80_4, hfz80_0, hfz80_1, hfz80_2, hfz80_3, hfz80_4⟩ := box5 BK379))
     have n0_ : Aside0 (Kd.R Kd.string 9 (((((w74.setCell ⟨gb390, 0, none⟩ (.slice Ao75 t381.length co75)).setCell ⟨gb390, 1, none⟩ (.int .i64 t384)).setCell ⟨gb390, 2, none⟩ (.int .i64 t385)).setCell ⟨gb390, 3, none⟩ (.int .i64 t386)).setCell ⟨gb390, 4, none⟩ (.slice Ao79 t387.length co79)) w.heap.size (fun _ => True) (.slice Ao75 t381.length co75) t381) := ⟨Kd.R_mono (farsR (Kd.R_types HO383.out BK390.out (by decide))) (fun _ _ => trivial)⟩
     have n1_ : Aside0 (Kd.R (Kd.int .i64) 3 (((((w74.setCell ⟨gb390, 0, none⟩ (.slice Ao75 t381.length co75)).setCell ⟨gb390, 1, none⟩ (.int .i64 t384)).setCell ⟨gb390, 2, none⟩ (.int .i64 t385)).setCell ⟨gb390, 3, none⟩ (.int .i64 t386)).setCell ⟨gb390, 4, none⟩ (.slice Ao79 t387.length co79)) w.heap.size (fun _ => True) (.slice Ao79 t387.length co79) t387) := ⟨Kd.R_mono (farsR (Kd.R_types HO389.out BK390.out (by decide))) (fun _ _ => trivial)⟩
     have n2_ : Aside0 ((((((w74.setCell ⟨gb390, 0, none⟩ (.slice Ao75 t381.length co75)).setCell ⟨gb390, 1, none⟩ (.int .i64 t384)).setCell ⟨gb390, 2, none⟩ (.int .i64 t385)).setCell ⟨gb390, 3, none⟩ (.int .i64 t386)).setCell ⟨gb390, 4, none⟩ (.slice Ao79 t387.length co79)).heap[gb379]? = some (.cells #[.slice none 0 0, .int .i64 0, .int .i64 0, .int .i64 0, .slice none 0 0] 27 (0, 0))) := ⟨by (repeat (first | (refine blk_far ?_ NB379_390.out _))); exact BK379.out⟩
     have n3_ : Aside0 ((((((w74.setCell ⟨gb390, 0, none⟩ (.slice Ao75 t381.length co75)).setCell ⟨gb390, 1, none⟩ (.int .i64 t384)).setCell ⟨gb390, 2, none⟩ (.int .i64 t385)).setCell ⟨gb390, 3, none⟩ (.int .i64 t386)).setCell ⟨gb390, 4, none⟩ (.slice Ao79 t387.length co79)).heap[gb390]? = some (.cells #[.slice Ao75 t381.length co75, .int .i64 t384, .int .i64 t385, .int .i64 t386, .slice Ao79 t387.length co79] 27 (0, 0))) := ⟨by refine blk_put (cs := #[.slice Ao75 t381.length co75, .int .i64 t384, .int .i64 t385, .int .i64 t386, .slice none 0 0]) ?_ 4 _ rfl; refine blk_put (cs := #[.slice Ao75 t381.length co75, .int .i64 t384, .int .i64 t385, .int .i64 0, .slice none 0 0]) ?_ 3 _ rfl; refine blk_put (cs := #[.slice Ao75 t381.length co75, .int .i64 t384, .int .i64 0, .int .i64 0, .slice none 0 0]) ?_ 2 _ rfl; refine blk_put (cs := #[.slice Ao75 t381.length co75, .int .i64 0, .int .i64 0, .int .i64 0, .slice none 0 0]) ?_ 1 _ rfl; refine blk_put (cs := #[.slice none 0 0, .int .i64 0, .int .i64 0, .int .i64 0, .slice none 0 0]) ?_ 0 _ rfl; exact BK390.out⟩
     have n4_ : Aside0 (Below w.heap.size w (((((w74.setCell ⟨gb390, 0, none⟩ (.slice Ao75 t381.length co75)).setCell ⟨gb390, 1, none⟩ (.int .i64 t384)).setCell ⟨gb390, 2, none⟩ (.int .i64 t385)).setCell ⟨gb390, 3, none⟩ (.int .i64 t386)).setCell ⟨gb390, 4, none⟩ (.slice Ao79 t387.length co79))) := ⟨belowg1 HB GE390⟩
     clear HO383 HO389 BK378 BK379 BK390 HB
     (try clear hcz70_0); (try clear hfz70_0); (try clear hcz70_1); (try clear hfz70_1); (try clear hcz70_2); (try clear hfz70_2); (try clear hcz70_3); (try clear hfz70_3); (try clear hcz70_4); (try clear hfz70_4); skip
     (try clear hcz72_0); (try clear hfz72_0); (try clear hcz72_1); (try clear hfz72_1); (try clear hcz72_2); (try clear hfz72_2); (try clear hcz72_3); (try clear hfz72_3); (try clear hcz72_4); (try clear hfz72_4); skip
     (try clear hcz78_0); (try clear hfz78_0); (try clear hcz78_1); (try clear hfz78_1); (try clear hcz78_2); (try clear hfz78_2); (try clear hcz78_3); (try clear hfz78_3); (try clear hcz78_4); (try clear hfz78_4); skip
     (try clear hcz80_0); (try clear hfz80_0); (try clear hcz80_1); (try clear hfz80_1); (try clear hcz80_2); (try clear hfz80_2); (try clear hcz80_3); (try clear hfz80_3); (try clear hcz80_4); (try clear hfz80_4); skip
     generalize (((((w74.setCell ⟨gb390, 0, none⟩ (.slice Ao75 t381.length co75)).setCell ⟨gb390, 1, none⟩ (.int .i64 t384)).setCell ⟨gb390, 2, none⟩ (.int .i64 t385)).setCell ⟨gb390, 3, none⟩ (.int .i64 t386)).setCell ⟨gb390, 4, none⟩ (.slice Ao79 t387.length co79)) = wt_ at n0_ n1_ n2_ n3_ n4_ ⊢
     have HO383 := n0_; have HO389 := n1_; have BK379 := n2_; have BK390 := n3_; have HB := n4_; clear n0_ n1_ n2_ n3_ n4_
     obtain ⟨hca_0, hca_1, hca_2, hca_3, hca_4, hfa_0, hfa_1, hfa_2, hfa_3, hfa_4⟩ := box5 BK390; obtain ⟨hcb_0, hcb_1, hcb_2, hcb_3, hcb_4, hfb_0, hfb_1, hfb_2, hfb_3, hfb_4⟩ := box5 BK379
     go_wp2
     refine bodyPost_ret (results_ctt rfl _ _ gb379 27 #[.slice none 0 0, .int .i64 t384, .int .i64 t385, .int .i64 0, .slice Ao79 t387.length co79] (0, 0) _ rfl (by (with_reducible repeat (first | refine blk_drewN ?_ _ | refine blk_drew ?_ | refine blk_alloc ?_ _)); refine blk_put (cs := #[.slice none 0 0, .int .i64 t384, .int .i64 t385, .int .i64 0, .slice none 0 0]) ?_ 4 _ rfl; (with_reducible repeat (first | refine blk_drewN ?_ _ | refine blk_drew ?_ | refine blk_alloc ?_ _)); refine blk_put (cs := #[.slice none 0 0, .int .i64 t384, .int .i64 t385, .int .i64 0, .slice none 0 0]) ?_ 3 _ rfl; (with_reducible repeat (first | refine blk_drewN ?_ _ | refine blk_drew ?_ | refine blk_alloc ?_ _)); refine blk_put (cs := #[.slice none 0 0, .int .i64 t384, .int .i64 0, .int .i64 0, .slice none 0 0]) ?_ 2 _ rfl; (with_reducible repeat (first | refine blk_drewN ?_ _ | refine blk_drew ?_ | refine blk_alloc ?_ _)); refine blk_put (cs := #[.slice none 0 0, .int .i64 0, .int .i64 0, .int .i64 0, .slice none 0 0]) ?_ 1 _ rfl; (with_reducible repeat (first | refine blk_drewN ?_ _ | refine blk_drew ?_ | refine blk_alloc ?_ _)); refine blk_put (cs := #[.slice none 0 0, .int .i64 0, .int .i64 0, .int .i64 0, .slice none 0 0]) ?_ 0 _ rfl; (with_reducible repeat (first | refine blk_drewN ?_ _ | refine blk_drew ?_ | refine blk_alloc ?_ _)); (repeat (first | (refine blk_far ?_ NB379_390.out _) | (with_reducible refine blk_drewN ?_ _) | (with_reducible refine blk_drew ?_))); exact BK379.out) Try.underlying27 rfl (by kernel_rfl)) rfl ?_
     exact ⟨_, _, _, er2, by first | exact Kd.R_nil _ _ _ _ _ | exact Kd.N_nil _ _ _ _ _ | exact Kd.V_nil _ _ _ _ _ | exact Kd.Q_nil _ _ _ _ _ | exact Kd.S_nil _ _ _ _ _, by (with_reducible repeat (first | apply Kd.R_alloc | apply Kd.R_drewN | apply Kd.R_drew)); exact Kd.R_mono (farsR (Kd.R_types (Kd.R_types HO389.out BK390.out (by decide)) BK379.out (by decide))) (fun _ hk => trivial), by (with_reducible repeat (first | apply Kd.R_alloc | apply Kd.R_drewN | apply Kd.R_drew)); exact Kd.R_mono (farsR (Kd.R_types (Kd.R_types HO383.out BK390.out (by decide)) BK379.out (by decide))) (fun _ hk => (by simp [Value.ownBlock])), belowg3 HB GE378 GE379 GE390⟩
   ·rw [if_neg c51] at H
    have c51b0 : decide ((t381.length : Int) < t384) = false := decide_eq_false c51
    clear c51
    simp only [Option.some.injEq, Prod.mk.injEq] at H
    obtain ⟨rfl, rfl, rfl, rfl, rfl, rfl, rfl⟩ := H
    go_enter Try.func115, Try.ntmps115
    go_upto_region 4 with (first | ((with_reducible refine gate_dst (N := 1) rfl ?_); refine boxev 1 #[.slice A0_0 l0_0.length c0_0, .int .i64 a0_1, .int .i64 a0_2, .int .i64 a0_3, .slice A0_4 l0_4.length c0_4] 27 ?_; intro gb378 hg w81 hbox hb; have BK378 := ak (hbox); have GW378 := ak (hgl hg (belowd HB)); have GE378 := ak (hgl hg (belowd HB)); replace HB := ak (below_step (belowd HB) hb); clear hb hbox hg) | ((with_reducible refine gate_dst (N := 2) rfl ?_); refine boxev 2 #[.slice none 0 0, .int .i64 0, .int .i64 0, .int .i64 0, .slice none 0 0] 27 ?_; intro gb379 hg w82 hbox hb; have BK379 := ak (hbox); have GW379 := ak (hgl hg (belowg1 HB GE378)); have GE379 := ak (hgl hg (belowg1 HB GE378)); replace HB := ak (below_step (belowg1 HB GE378) hb); have NB378_379 := ak ((by rw [hg]; exact Nat.ne_of_lt (blk_lt (blkd BK378)) : gb378 ≠ gb379)); have NB379_378 := ak ((by rw [hg]; exact Nat.ne_of_gt (blk_lt (blkd BK378)) : gb379 ≠ gb378)); replace BK378 := ak (blk_below (blkd BK378) hb); clear hb hbox hg; have hnb83 := NB378_379.out; have hnc83 := NB379_378.out; obtain ⟨hcz84_0, hcz84_1, hcz84_2, hcz84_3, hcz84_4, hfz84_0, hfz84_1, hfz84_2, hfz84_3, hfz84_4⟩ := box5 BK378) | ((with_reducible refine gate_callee (f := 99) rfl ?_); refine goesLa (some 8) rfl Try.func99 #[.agg #[.slice A0_0 l0_0.length c0_0, .int .i64 a0_1, .int .i64 a0_2, .int .i64 a0_3, .slice A0_4 l0_4.length c0_4]] rfl ?_; (with_reducible refine (impl_GoodMix.calls k _ _ l0_0 a0_1 a0_2 a0_3 _ _ l0_4 true _ ?side1 ?side2 ?side3 ?side4 A2.out).mono ?_); (case side1 => exact cd (Kd.C_below HR0_0.out HB.out)); (case side2 => exact HC0_0.out); (case side3 => exact cd (Kd.C_below HR0_4.out HB.out)); (case side4 => exact HC0_4.out); rintro e w85 ⟨rfl, hb⟩; refine ⟨_, rfl, ?_⟩; replace BK378 := ak (blk_below (blkd BK378) hb); replace BK379 := ak (blk_below (blkd BK379) hb); replace HB := ak (below_step (belowg2 HB GE378 GE379) hb); (try clear hb); obtain ⟨hcz86_0, hcz86_1, hcz86_2, hcz86_3, hcz86_4, hfz86_0, hfz86_1, hfz86_2, hfz86_3, hfz86_4⟩ := box5 BK378) | ((with_reducible refine gate_callee (f := 101) rfl ?_); refine goesLa (some 12) rfl Try.func101 #[.agg #[.slice A0_0 l0_0.length c0_0, .int .i64 a0_1, .int .i64 a0_2, .int .i64 a0_3, .slice A0_4 l0_4.length c0_4]] rfl ?_; (with_reducible refine (impl_Mix_own.calls _ _ l0_0 a0_1 a0_2 a0_3 _ _ l0_4 t381 t384 t385 t386 t387 _ ?side1 ?side2 ?side3 ?side4 A4.out).mono ?_); (case side1 => exact cd (Kd.C_below HR0_0.out HB.out)); (case side2 => exact HC0_0.out); (case side3 => exact cd (Kd.C_below HR0_4.out HB.out)); (case side4 => exact HC0_4.out); rintro e w87 ⟨v382, v388, rfl, ho0, ho1, hb⟩; refine ⟨_, rfl, ?_⟩; have HO383 := ak (Kd.R_lower ho0 (below_size (belowg2 HB GE378 GE379))); have HO389 := ak (Kd.R_lower ho1 (below_size (belowg2 HB GE378 GE379))); replace BK378 := ak (blk_below (blkd BK378) hb); replace BK379 := ak (blk_below (blkd BK379) hb); replace HB := ak (below_step (belowg2 HB GE378 GE379) hb); (try clear hb); (try clear ho0); (try clear ho1)) | ((with_reducible refine gate_dst (N := 5) rfl ?_); refine boxev 5 #[.slice none 0 0, .int .i64 0, .int .i64 0, .int .i64 0, .slice none 0 0] 27 ?_; intro gb390 hg w88 hbox hb; replace HO383 := ak (Kd.R_below (rdl HO383) hb); replace HO389 := ak (Kd.R_below (rdl HO389) hb); have BK390 := ak (hbox); have GW390 := ak (hgl hg (belowg2 HB GE378 GE379)); have GE390 := ak (hgl hg (belowg2 HB GE378 GE379)); replace HB := ak (below_step (belowg2 HB GE378 GE379) hb); have NB378_390 := ak ((by rw [hg]; exact Nat.ne_of_lt (blk_lt (blkd BK378)) : gb378 ≠ gb390)); have NB390_378 := ak ((by rw [hg]; exact Nat.ne_of_gt (blk_lt (blkd BK378)) : gb390 ≠ gb378)); replace BK378 := ak (blk_below (blkd BK378) hb); have NB379_390 := ak ((by rw [hg]; exact Nat.ne_of_lt (blk_lt (blkd BK379)) : gb379 ≠ gb390)); have NB390_379 := ak ((by rw [hg]; exact Nat.ne_of_gt (blk_lt (blkd BK379)) : gb390 ≠ gb379)); replace BK379 := ak (blk_below (blkd BK379) hb); clear hb hbox hg; obtain ⟨Ao89, co89, eo89⟩ := Kd.R_slice HO383.out; subst eo89; have hnb90 := NB390_378.out; have hnc90 := NB378_390.out; have hnb91 := NB390_379.out; have hnc91 := NB379_390.out; obtain ⟨hcz92_0, hcz92_1, hcz92_2, hcz92_3, hcz92_4, hfz92_0, hfz92_1, hfz92_2, hfz92_3, hfz92_4⟩ := box5 BK390; obtain ⟨Ao93, co93, eo93⟩ := Kd.R_slice HO389.out; subst eo93; obtain ⟨hcz94_0, hcz94_1, hcz94_2, hcz94_3, hcz94_4, hfz94_0, hfz94_1, hfz94_2, hfz94_3, hfz94_4⟩ := box5 BK379))
    have n0_ : Aside0 (Kd.R Kd.string 9 (((((w88.setCell ⟨gb390, 0, none⟩ (.slice Ao89 t381.length co89)).setCell ⟨gb390, 1, none⟩ (.int .i64 t384)).setCell ⟨gb390, 2, none⟩ (.int .i64 t385)).setCell ⟨gb390, 3, none⟩ (.int .i64 t386)).setCell ⟨gb390, 4, none⟩ (.slice Ao93 t387.length co93)) w.heap.size (fun _ => True) (.slice Ao89 t381.length co89) t381) := ⟨Kd.R_mono (farsR (Kd.R_types HO383.out BK390.out (by decide))) (fun _ _ => trivial)⟩
    have n1_ : Aside0 (Kd.R (Kd.int .i64) 3 (((((w88.setCell ⟨gb390, 0, none⟩ (.slice Ao89 t381.length co89)).setCell ⟨gb390, 1, none⟩ (.int .i64 t384)).setCell ⟨gb390, 2, none⟩ (.int .i64 t385)).setCell ⟨gb390, 3, none⟩ (.int .i64 t386)).setCell ⟨gb390, 4, none⟩ (.slice Ao93 t387.length co93)) w.heap.size (fun _ => True) (.slice Ao93 t387.length co93) t387) := ⟨Kd.R_mono (farsR (Kd.R_types HO389.out BK390.out (by decide))) (fun _ _ => trivial)⟩
    have n2_ : Aside0 ((((((w88.setCell ⟨gb390, 0, none⟩ (.slice Ao89 t381.length co89)).setCell ⟨gb390, 1, none⟩ (.int .i64 t384)).setCell ⟨gb390, 2, none⟩ (.int .i64 t385)).setCell ⟨gb390, 3, none⟩ (.int .i64 t386)).setCell ⟨gb390, 4, none⟩ (.slice Ao93 t387.length co93)).heap[gb379]? = some (.cells #[.slice none 0 0, .int .i64 0, .int .i64 0, .int .i64 0, .slice none 0 0] 27 (0, 0))) := ⟨by (repeat (first | (refine blk_far ?_ NB379_390.out _))); exact BK379.out⟩
    have n3_ : Aside0 ((((((w88.setCell ⟨gb390, 0, none⟩ (.slice Ao89 t381.length co89)).setCell ⟨gb390, 1, none⟩ (.int .i64 t384)).setCell ⟨gb390, 2, none⟩ (.int .i64 t385)).setCell ⟨gb390, 3, none⟩ (.int .i64 t386)).setCell ⟨gb390, 4, none⟩ (.slice Ao93 t387.length co93)).heap[gb390]? = some (.cells #[.slice Ao89 t381.length co89, .int .i64 t384, .int .i64 t385, .int .i64 t386, .slice Ao93 t387.length co93] 27 (0, 0))) := ⟨by refine blk_put (cs := #[.slice Ao89 t381.length co89, .int .i64 t384, .int .i64 t385, .int .i64 t386, .slice none 0 0]) ?_ 4 _ rfl; refine blk_put (cs := #[.slice Ao89 t381.length co89, .int .i64 t384, .int .i64 t385, .int .i64 0, .slice none 0 0]) ?_ 3 _ rfl; refine blk_put (cs := #[.slice Ao89 t381.length co89, .int .i64 t384, .int .i64 0, .int .i64 0, .slice none 0 0]) ?_ 2 _ rfl; refine blk_put (cs := #[.slice Ao89 t381.length co89, .int .i64 0, .int .i64 0, .int .i64 0, .slice none 0 0]) ?_ 1 _ rfl; refine blk_put (cs := #[.slice none 0 0, .int .i64 0, .int .i64 0, .int .i64 0, .slice none 0 0]) ?_ 0 _ rfl; exact BK390.out⟩
    have n4_ : Aside0 (Below w.heap.size w (((((w88.setCell ⟨gb390, 0, none⟩ (.slice Ao89 t381.length co89)).setCell ⟨gb390, 1, none⟩ (.int .i64 t384)).setCell ⟨gb390, 2, none⟩ (.int .i64 t385)).setCell ⟨gb390, 3, none⟩ (.int .i64 t386)).setCell ⟨gb390, 4, none⟩ (.slice Ao93 t387.length co93))) := ⟨belowg1 HB GE390⟩
    clear HO383 HO389 BK378 BK379 BK390 HB
    (try clear hcz84_0); (try clear hfz84_0); (try clear hcz84_1); (try clear hfz84_1); (try clear hcz84_2); (try clear hfz84_2); (try clear hcz84_3); (try clear hfz84_3); (try clear hcz84_4); (try clear hfz84_4); skip
    (try clear hcz86_0); (try clear hfz86_0); (try clear hcz86_1); (try clear hfz86_1); (try clear hcz86_2); (try clear hfz86_2); (try clear hcz86_3); (try clear hfz86_3); (try clear hcz86_4); (try clear hfz86_4); skip
    (try clear hcz92_0); (try clear hfz92_0); (try clear hcz92_1); (try clear hfz92_1); (try clear hcz92_2); (try clear hfz92_2); (try clear hcz92_3); (try clear hfz92_3); (try clear hcz92_4); (try clear hfz92_4); skip
    (try clear hcz94_0); (try clear hfz94_0); (try clear hcz94_1); (try clear hfz94_1); (try clear hcz94_2); (try clear hfz94_2); (try clear hcz94_3); (try clear hfz94_3); (try clear hcz94_4); (try clear hfz94_4); skip
    generalize (((((w88.setCell ⟨gb390, 0, none⟩ (.slice Ao89 t381.length co89)).setCell ⟨gb390, 1, none⟩ (.int .i64 t384)).setCell ⟨gb390, 2, none⟩ (.int .i64 t385)).setCell ⟨gb390, 3, none⟩ (.int .i64 t386)).setCell ⟨gb390, 4, none⟩ (.slice Ao93 t387.length co93)) = wt_ at n0_ n1_ n2_ n3_ n4_ ⊢
    have HO383 := n0_; have HO389 := n1_; have BK379 := n2_; have BK390 := n3_; have HB := n4_; clear n0_ n1_ n2_ n3_ n4_
    obtain ⟨hca_0, hca_1, hca_2, hca_3, hca_4, hfa_0, hfa_1, hfa_2, hfa_3, hfa_4⟩ := box5 BK390; obtain ⟨hcb_0, hcb_1, hcb_2, hcb_3, hcb_4, hfb_0, hfb_1, hfb_2, hfb_3, hfb_4⟩ := box5 BK379
    go_wp2
    refine bodyPost_ret (results_ctt rfl _ _ gb379 27 #[.slice none 0 0, .int .i64 t384, .int .i64 t385, .int .i64 0, .slice Ao93 t387.length co93] (0, 0) _ rfl (by (with_reducible repeat (first | refine blk_drewN ?_ _ | refine blk_drew ?_ | refine blk_alloc ?_ _)); refine blk_put (cs := #[.slice none 0 0, .int .i64 t384, .int .i64 t385, .int .i64 0, .slice none 0 0]) ?_ 4 _ rfl; (with_reducible repeat (first | refine blk_drewN ?_ _ | refine blk_drew ?_ | refine blk_alloc ?_ _)); refine blk_put (cs := #[.slice none 0 0, .int .i64 t384, .int .i64 t385, .int .i64 0, .slice none 0 0]) ?_ 3 _ rfl; (with_reducible repeat (first | refine blk_drewN ?_ _ | refine blk_drew ?_ | refine blk_alloc ?_ _)); refine blk_put (cs := #[.slice none 0 0, .int .i64 t384, .int .i64 0, .int .i64 0, .slice none 0 0]) ?_ 2 _ rfl; (with_reducible repeat (first | refine blk_drewN ?_ _ | refine blk_drew ?_ | refine blk_alloc ?_ _)); refine blk_put (cs := #[.slice none 0 0, .int .i64 0, .int .i64 0, .int .i64 0, .slice none 0 0]) ?_ 1 _ rfl; (with_reducible repeat (first | refine blk_drewN ?_ _ | refine blk_drew ?_ | refine blk_alloc ?_ _)); refine blk_put (cs := #[.slice none 0 0, .int .i64 0, .int .i64 0, .int .i64 0, .slice none 0 0]) ?_ 0 _ rfl; (with_reducible repeat (first | refine blk_drewN ?_ _ | refine blk_drew ?_ | refine blk_alloc ?_ _)); (repeat (first | (refine blk_far ?_ NB379_390.out _) | (with_reducible refine blk_drewN ?_ _) | (with_reducible refine blk_drew ?_))); exact BK379.out) Try.underlying27 rfl (by kernel_rfl)) rfl ?_
    exact ⟨_, _, _, er2, by first | exact Kd.R_nil _ _ _ _ _ | exact Kd.N_nil _ _ _ _ _ | exact Kd.V_nil _ _ _ _ _ | exact Kd.Q_nil _ _ _ _ _ | exact Kd.S_nil _ _ _ _ _, by (with_reducible repeat (first | apply Kd.R_alloc | apply Kd.R_drewN | apply Kd.R_drew)); exact Kd.R_mono (farsR (Kd.R_types (Kd.R_types HO389.out BK390.out (by decide)) BK379.out (by decide))) (fun _ hk => trivial), by (with_reducible repeat (first | apply Kd.R_alloc | apply Kd.R_drewN | apply Kd.R_drew)); exact Kd.R_mono (farsR (Kd.R_types (Kd.R_types HO383.out BK390.out (by decide)) BK379.out (by decide))) (fun _ hk => (by simp [Value.ownBlock])), belowg3 HB GE378 GE379 GE390⟩
 ·replace c3 := Bool.eq_false_iff.mpr c3
  subst c3
  have H1 : (some (([] : List ByteArray), 0, 0, 0, ([] : List Int), ([] : List ByteArray), false)) = some (r1, r2, r3, r4, r5, r6, r7) := by rw [if_neg (show ¬ (false = true) by decide)] at H; exact H
  clear H
  have H := H1
  clear H1
  simp only [Option.some.injEq, Prod.mk.injEq] at H
  obtain ⟨rfl, rfl, rfl, rfl, rfl, rfl, rfl⟩ := H
  go_enter Try.func115, Try.ntmps115
  go_wp2_with (first | ((with_reducible refine gate_dst (N := 1) rfl ?_); refine boxev 1 #[.slice A0_0 l0_0.length c0_0, .int .i64 a0_1, .int .i64 a0_2, .int .i64 a0_3, .slice A0_4 l0_4.length c0_4] 27 ?_; intro gb378 hg w95 hbox hb; have BK378 := ak (hbox); have GW378 := ak (hgl hg (belowd HB)); have GE378 := ak (hgl hg (belowd HB)); replace HB := ak (below_step (belowd HB) hb); clear hb hbox hg) | ((with_reducible refine gate_dst (N := 2) rfl ?_); refine boxev 2 #[.slice none 0 0, .int .i64 0, .int .i64 0, .int .i64 0, .slice none 0 0] 27 ?_; intro gb379 hg w96 hbox hb; have BK379 := ak (hbox); have GW379 := ak (hgl hg (belowg1 HB GE378)); have GE379 := ak (hgl hg (belowg1 HB GE378)); replace HB := ak (below_step (belowg1 HB GE378) hb); have NB378_379 := ak ((by rw [hg]; exact Nat.ne_of_lt (blk_lt (blkd BK378)) : gb378 ≠ gb379)); have NB379_378 := ak ((by rw [hg]; exact Nat.ne_of_gt (blk_lt (blkd BK378)) : gb379 ≠ gb378)); replace BK378 := ak (blk_below (blkd BK378) hb); clear hb hbox hg; have hnb97 := NB378_379.out; have hnc97 := NB379_378.out; obtain ⟨hcz98_0, hcz98_1, hcz98_2, hcz98_3, hcz98_4, hfz98_0, hfz98_1, hfz98_2, hfz98_3, hfz98_4⟩ := box5 BK378) | ((with_reducible refine gate_callee (f := 99) rfl ?_); refine goesLa (some 8) rfl Try.func99 #[.agg #[.slice A0_0 l0_0.length c0_0, .int .i64 a0_1, .int .i64 a0_2, .int .i64 a0_3, .slice A0_4 l0_4.length c0_4]] rfl ?_; (with_reducible refine (impl_GoodMix.calls k _ _ l0_0 a0_1 a0_2 a0_3 _ _ l0_4 false _ ?side1 ?side2 ?side3 ?side4 A2.out).mono ?_); (case side1 => exact cd (Kd.C_below HR0_0.out HB.out)); (case side2 => exact HC0_0.out); (case side3 => exact cd (Kd.C_below HR0_4.out HB.out)); (case side4 => exact HC0_4.out); rintro e w99 ⟨rfl, hb⟩; refine ⟨_, rfl, ?_⟩; replace BK378 := ak (blk_below (blkd BK378) hb); replace BK379 := ak (blk_below (blkd BK379) hb); replace HB := ak (below_step (belowg2 HB GE378 GE379) hb); (try clear hb); obtain ⟨hcz100_0, hcz100_1, hcz100_2, hcz100_3, hcz100_4, hfz100_0, hfz100_1, hfz100_2, hfz100_3, hfz100_4⟩ := box5 BK379))
  refine bodyPost_ret (results_ctt rfl _ _ gb379 27 #[.slice none 0 0, .int .i64 0, .int .i64 0, .int .i64 0, .slice none 0 0] (0, 0) _ rfl (by (with_reducible repeat (first | refine blk_drewN ?_ _ | refine blk_drew ?_ | refine blk_alloc ?_ _)); refine blk_put (cs := #[.slice none 0 0, .int .i64 0, .int .i64 0, .int .i64 0, .slice none 0 0]) ?_ 4 _ rfl; (with_reducible repeat (first | refine blk_drewN ?_ _ | refine blk_drew ?_ | refine blk_alloc ?_ _)); refine blk_put (cs := #[.slice none 0 0, .int .i64 0, .int .i64 0, .int .i64 0, .slice none 0 0]) ?_ 3 _ rfl; (with_reducible repeat (first | refine blk_drewN ?_ _ | refine blk_drew ?_ | refine blk_alloc ?_ _)); refine blk_put (cs := #[.slice none 0 0, .int .i64 0, .int .i64 0, .int .i64 0, .slice none 0 0]) ?_ 2 _ rfl; (with_reducible repeat (first | refine blk_drewN ?_ _ | refine blk_drew ?_ | refine blk_alloc ?_ _)); refine blk_put (cs := #[.slice none 0 0, .int .i64 0, .int .i64 0, .int .i64 0, .slice none 0 0]) ?_ 1 _ rfl; (with_reducible repeat (first | refine blk_drewN ?_ _ | refine blk_drew ?_ | refine blk_alloc ?_ _)); refine blk_put (cs := #[.slice none 0 0, .int .i64 0, .int .i64 0, .int .i64 0, .slice none 0 0]) ?_ 0 _ rfl; (with_reducible repeat (first | refine blk_drewN ?_ _ | refine blk_drew ?_ | refine blk_alloc ?_ _)); exact BK379.out) Try.underlying27 rfl (by kernel_rfl)) rfl ?_
  exact ⟨_, _, _, er2, by first | exact Kd.R_nil _ _ _ _ _ | exact Kd.N_nil _ _ _ _ _ | exact Kd.V_nil _ _ _ _ _ | exact Kd.Q_nil _ _ _ _ _ | exact Kd.S_nil _ _ _ _ _, by first | exact Kd.R_nil _ _ _ _ _ | exact Kd.N_nil _ _ _ _ _ | exact Kd.V_nil _ _ _ _ _ | exact Kd.Q_nil _ _ _ _ _ | exact Kd.S_nil _ _ _ _ _, by first | exact Kd.R_nil _ _ _ _ _ | exact Kd.N_nil _ _ _ _ _ | exact Kd.V_nil _ _ _ _ _ | exact Kd.Q_nil _ _ _ _ _ | exact Kd.S_nil _ _ _ _ _, belowg2 HB GE378 GE379⟩

/-! ### impl_PlayMix: function 23 -/
mutual
def impl_PlayMix.j0 : Nat → List (List ByteArray) → Bool → List ByteArray → Int → Int → Int → List Int → Option ((List (List ByteArray)) × Bool)
  | 0, _, _, _, _, _, _, _ => none
  | k + 1, x2, x28, x402000, x402001, x402002, x402003, x402004 => if x28 = true then (some (([] : List (List ByteArray)), false)) else (impl_PlayMix.l0 k (([] : List (List ByteArray))) x2 (x2.length : Int) 0 x402000 x402001 x402002 x402003 x402004)
def impl_PlayMix.l0 : Nat → List (List ByteArray) → List (List ByteArray) → Int → Int → List ByteArray → Int → Int → Int → List Int → Option ((List (List ByteArray)) × Bool)
  | 0, _, _, _, _, _, _, _, _, _ => none
  | k + 1, x10, x30, x31, x32, x402000, x402001, x402002, x402003, x402004 => if x32 < x31 then (if 0 ≤ x32 then (if x32 < (x30.length : Int) then ((impl_areLetters.f k (rd_L1 x30 x32)).bind fun t406 => (if t406 = true then (impl_PlayMix.l1 k x10 x30 x31 x32 (rd_L1 x30 x32) ((rd_L1 x30 x32).length : Int) 0 x402000 x402001 x402002 x402003 x402004) else (some (([] : List (List ByteArray)), false)))) else (none)) else (none)) else (some (x10, true))
def impl_PlayMix.l1 : Nat → List (List ByteArray) → List (List ByteArray) → Int → Int → List ByteArray → Int → Int → List ByteArray → Int → Int → Int → List Int → Option ((List (List ByteArray)) × Bool)
  | 0, _, _, _, _, _, _, _, _, _, _, _, _ => none
  | k + 1, x10, x30, x31, x32, x39, x40, x41, x402000, x402001, x402002, x402003, x402004 => if x41 < x40 then (if 0 ≤ x41 then (if x41 < (x39.length : Int) then ((impl_PutMix.f k x402000 x402001 x402002 x402003 x402004 (rdOf ByteArray.empty x39 x41)).bind fun bt408 => (impl_PlayMix.l1 k x10 x30 x31 x32 x39 x40 (wrap64 (x41 + 1)) bt408.1 bt408.2.1 bt408.2.2.1 bt408.2.2.2.1 bt408.2.2.2.2.1)) else (none)) else (none)) else ((impl_TickMix.f k x402000 x402001 x402002 x402003 x402004).bind fun bt419 => (if x10.length < 5864062014805 then (impl_PlayMix.l0 k (x10 ++ [bt419.2.2.2.2.2.1]) x30 x31 (wrap64 (x32 + 1)) bt419.1 bt419.2.1 bt419.2.2.1 bt419.2.2.2.1 bt419.2.2.2.2.1) else (none)))
end
def impl_PlayMix.f (k : Nat) (a0 : Int) (a1 : Int) (l2 : List (List ByteArray)) : Option ((List (List ByteArray)) × Bool) := (impl_NewMix.f a0 a1).bind fun bt391 => (if bt391.2.2.2.2.2 = true then (impl_PlayMix.j0 k l2 (decide ((l2.length : Int) > 20)) bt391.1 bt391.2.1 bt391.2.2.1 bt391.2.2.2.1 bt391.2.2.2.2.1) else (impl_PlayMix.j0 k l2 true bt391.1 bt391.2.1 bt391.2.2.1 bt391.2.2.2.1 bt391.2.2.2.2.1))
theorem impl_PlayMix.mono_l : ∀ k, (∀ y0 y1 y2 y3 y4 y5 y6, LeO (impl_PlayMix.j0 k y0 y1 y2 y3 y4 y5 y6) (impl_PlayMix.j0 (k + 1) y0 y1 y2 y3 y4 y5 y6)) ∧ (∀ y0 y1 y2 y3 y4 y5 y6 y7 y8, LeO (impl_PlayMix.l0 k y0 y1 y2 y3 y4 y5 y6 y7 y8) (impl_PlayMix.l0 (k + 1) y0 y1 y2 y3 y4 y5 y6 y7 y8)) ∧ (∀ y0 y1 y2 y3 y4 y5 y6 y7 y8 y9 y10 y11, LeO (impl_PlayMix.l1 k y0 y1 y2 y3 y4 y5 y6 y7 y8 y9 y10 y11) (impl_PlayMix.l1 (k + 1) y0 y1 y2 y3 y4 y5 y6 y7 y8 y9 y10 y11))
 | 0 => ⟨fun _ _ _ _ _ _ _ r h => by simp [impl_PlayMix.j0] at h, fun _ _ _ _ _ _ _ _ _ r h => by simp [impl_PlayMix.l0] at h, fun _ _ _ _ _ _ _ _ _ _ _ _ r h => by simp [impl_PlayMix.l1] at h⟩
 | k + 1 => by
  obtain ⟨ih0, ih1, ih2⟩ := impl_PlayMix.mono_l k
  refine ⟨?_, ?_, ?_⟩
  ·intro y0 y1 y2 y3 y4 y5 y6
   unfold impl_PlayMix.j0
   repeat' (first | (with_reducible first | exact ih0 _ _ _ _ _ _ _ | exact ih1 _ _ _ _ _ _ _ _ _ | exact ih2 _ _ _ _ _ _ _ _ _ _ _ _ | exact impl_PutMix.mono _ _ _ _ _ _ _ | exact impl_TickMix.mono _ _ _ _ _ _ | exact impl_areLetters.mono _ _ | exact LeO.refl _ | exact LeO.none _ | refine LeO.ite ?_ ?_ | refine LeO.bind ?_ (fun _ => ?_)) | exact ih0 _ _ _ _ _ _ _ | exact ih1 _ _ _ _ _ _ _ _ _ | exact ih2 _ _ _ _ _ _ _ _ _ _ _ _ | exact impl_PutMix.mono _ _ _ _ _ _ _ | exact impl_TickMix.mono _ _ _ _ _ _ | exact impl_areLetters.mono _ _ | exact LeO.none _ | refine LeO.ite ?_ ?_ | refine LeO.bind ?_ (fun _ => ?_))
  ·intro y0 y1 y2 y3 y4 y5 y6 y7 y8
   unfold impl_PlayMix.l0
   repeat' (first | (with_reducible first | exact ih0 _ _ _ _ _ _ _ | exact ih1 _ _ _ _ _ _ _ _ _ | exact ih2 _ _ _ _ _ _ _ _ _ _ _ _ | exact impl_PutMix.mono _ _ _ _ _ _ _ | exact impl_TickMix.mono _ _ _ _ _ _ | exact impl_areLetters.mono _ _ | exact LeO.refl _ | exact LeO.none _ | refine LeO.ite ?_ ?_ | refine LeO.bind ?_ (fun _ => ?_)) | exact ih0 _ _ _ _ _ _ _ | exact ih1 _ _ _ _ _ _ _ _ _ | exact ih2 _ _ _ _ _ _ _ _ _ _ _ _ | exact impl_PutMix.mono _ _ _ _ _ _ _ | exact impl_TickMix.mono _ _ _ _ _ _ | exact impl_areLetters.mono _ _ | exact LeO.none _ | refine LeO.ite ?_ ?_ | refine LeO.bind ?_ (fun _ => ?_))
  ·intro y0 y1 y2 y3 y4 y5 y6 y7 y8 y9 y10 y11
   unfold impl_PlayMix.l1
   repeat' (first | (with_reducible first | exact ih0 _ _ _ _ _ _ _ | exact ih1 _ _ _ _ _ _ _ _ _ | exact ih2 _ _ _ _ _ _ _ _ _ _ _ _ | exact impl_PutMix.mono _ _ _ _ _ _ _ | exact impl_TickMix.mono _ _ _ _ _ _ | exact impl_areLetters.mono _ _ | exact LeO.refl _ | exact LeO.none _ | refine LeO.ite ?_ ?_ | refine LeO.bind ?_ (fun _ => ?_)) | exact ih0 _ _ _ _ _ _ _ | exact ih1 _ _ _ _ _ _ _ _ _ | exact ih2 _ _ _ _ _ _ _ _ _ _ _ _ | exact impl_PutMix.mono _ _ _ _ _ _ _ | exact impl_TickMix.mono _ _ _ _ _ _ | exact impl_areLetters.mono _ _ | exact LeO.none _ | refine LeO.ite ?_ ?_ | refine LeO.bind ?_ (fun _ => ?_))
theorem impl_PlayMix.mono : ∀ a0 a1 a2 k, LeO (impl_PlayMix.f k a0 a1 a2) (impl_PlayMix.f (k + 1) a0 a1 a2) := by
 intro a0 a1 a2 k
 obtain ⟨ih0, ih1, ih2⟩ := impl_PlayMix.mono_l k
 unfold impl_PlayMix.f
 repeat' (first | (with_reducible first | exact ih0 _ _ _ _ _ _ _ | exact ih1 _ _ _ _ _ _ _ _ _ | exact ih2 _ _ _ _ _ _ _ _ _ _ _ _ | exact impl_PutMix.mono _ _ _ _ _ _ _ | exact impl_TickMix.mono _ _ _ _ _ _ | exact impl_areLetters.mono _ _ | exact LeO.refl _ | exact LeO.none _ | refine LeO.ite ?_ ?_ | refine LeO.bind ?_ (fun _ => ?_)) | exact ih0 _ _ _ _ _ _ _ | exact ih1 _ _ _ _ _ _ _ _ _ | exact ih2 _ _ _ _ _ _ _ _ _ _ _ _ | exact impl_PutMix.mono _ _ _ _ _ _ _ | exact impl_TickMix.mono _ _ _ _ _ _ | exact impl_areLetters.mono _ _ | exact LeO.none _ | refine LeO.ite ?_ ?_ | refine LeO.bind ?_ (fun _ => ?_))
set_option maxHeartbeats 8000000 in
set_option maxRecDepth 100000 in
theorem impl_PlayMix.calls (k : Nat) (a0 : Int) (a1 : Int) (A2 : Option Addr) (c2 : Nat) (l2 : List (List ByteArray)) (r1 : List (List ByteArray)) (r2 : Bool) (w : World) (hr2 : Kd.C (Kd.slice 9 Kd.string) w A2 l2.length l2) (hc2 : l2.length ≤ c2) (h : impl_PlayMix.f k a0 a1 l2 = some (r1, r2)) :
  Calls Try.prog 23 #[.int .i64 a0, .int .i64 a1, .slice A2 l2.length c2] w fun e w' => ∃ v0_ : Value, e = .returned (.tuple #[v0_, .bool r2]) ∧ Kd.S (Kd.slice 9 Kd.string) 22 w' w.heap.size (fun _ => True) v0_ r1 ∧ Below w.heap.size w w' := by
 have hu27 := Try.underlying27
 have HR2 := Aside0.mk hr2; have HC2 := Aside0.mk hc2; clear hr2 hc2
 have HB := Aside0.mk (Below.refl w.heap.size w)
 have H : ((impl_NewMix.f a0 a1).bind fun bt391 => (if bt391.2.2.2.2.2 = true then (impl_PlayMix.j0 k l2 (decide ((l2.length : Int) > 20)) bt391.1 bt391.2.1 bt391.2.2.1 bt391.2.2.2.1 bt391.2.2.2.2.1) else (impl_PlayMix.j0 k l2 true bt391.1 bt391.2.1 bt391.2.2.1 bt391.2.2.2.1 bt391.2.2.2.2.1))) = some (r1, r2) := h
 clear h; replace H := bS H; obtain ⟨⟨t391, t394, t395, t396, t397, t400⟩, A4, H⟩ := H
 replace H : (if t400 = true then (impl_PlayMix.j0 k l2 (decide ((l2.length : Int) > 20)) t391 t394 t395 t396 t397) else (impl_PlayMix.j0 k l2 true t391 t394 t395 t396 t397)) = some (r1, r2) := H
 have HC5 := Aside0.mk H; clear H
 go_enter Try.func23, Try.ntmps23
 go_upto_region 2 with (first | ((with_reducible refine gate_callee (f := 113) rfl ?_); refine goesLa (some 19) rfl Try.func113 #[.int .i64 a0, .int .i64 a1] rfl ?_; (with_reducible refine (impl_NewMix.calls a0 a1 t391 t394 t395 t396 t397 t400 _ A4.out).mono ?_); rintro e w6 ⟨v392, v398, rfl, ho0, ho1, hb⟩; refine ⟨_, rfl, ?_⟩; have HO393 := ak (Kd.R_lower ho0 (below_size (belowd HB))); have HO399 := ak (Kd.R_lower ho1 (below_size (belowd HB))); replace HB := ak (below_step (belowd HB) hb); (try clear hb); (try clear ho0); (try clear ho1)) | ((with_reducible refine gate_dst (N := 8) rfl ?_); (try (refine gate_guard (by rfl) ?_; dsimp only)); refine boxev 8 #[.slice none 0 0, .int .i64 0, .int .i64 0, .int .i64 0, .slice none 0 0] 27 ?_; intro gb401 hg w7 hbox hb; replace HO393 := ak (Kd.R_below (rdl HO393) hb); replace HO399 := ak (Kd.R_below (rdl HO399) hb); have BK401 := ak (hbox); have GW401 := ak (hgl hg (belowd HB)); have GE401 := ak (hgl hg (belowd HB)); replace HB := ak (below_step (belowd HB) hb); clear hb hbox hg; obtain ⟨Ao8, co8, eo8⟩ := Kd.R_slice HO393.out; subst eo8; obtain ⟨hcz9_0, hcz9_1, hcz9_2, hcz9_3, hcz9_4, hfz9_0, hfz9_1, hfz9_2, hfz9_3, hfz9_4⟩ := box5 BK401; obtain ⟨Ao10, co10, eo10⟩ := Kd.R_slice HO399.out; subst eo10))
 (try simp only [Act.put, List.setIfInBounds_toArray, List.set_cons_zero, List.set_cons_succ])
 go_cut [28] (fun v28 wc => ∃ (kq : Nat) (x28_4 : Bool), v28 = .bool x28_4 ∧ Aside0 (impl_PlayMix.j0 kq l2 x28_4 t391 t394 t395 t396 t397 = some (r1, r2)) ∧ Aside0 (kq ≤ k) ∧ Aside0 (Kd.R Kd.string 9 wc w.heap.size (fun _ => True) (.slice Ao8 t391.length co8) t391) ∧ Aside0 (Kd.R (Kd.int .i64) 3 wc w.heap.size (fun _ => True) (.slice Ao10 t397.length co10) t397) ∧ Aside0 (wc.heap[gb401]? = some (.cells #[(.slice Ao8 t391.length co8), .int .i64 t394, .int .i64 t395, .int .i64 t396, (.slice Ao10 t397.length co10)] 27 (0, 0))) ∧ Aside0 (Below w.heap.size w wc))
 case first =>
  have H := HC5.out; clear HC5
  by_cases c11 : t400 = true
  ·subst c11
   have H1 : (impl_PlayMix.j0 k l2 (decide ((l2.length : Int) > 20)) t391 t394 t395 t396 t397) = some (r1, r2) := by rw [if_pos rfl] at H; exact H
   clear H
   have H := H1
   clear H1
   have H' := Aside0.mk H
   clear H; go_wp2
   go_meet
   case rel => exact ⟨_, (decide ((l2.length : Int) > 20)), er, H', ⟨by first | omega | exact Nat.le_refl _⟩, ⟨by (with_reducible repeat (first | apply Kd.R_alloc | apply Kd.R_drewN | apply Kd.R_drew)); exact Kd.R_mono (farsR (Kd.R_types HO393.out BK401.out (by decide))) (fun _ hk => trivial)⟩, ⟨by (with_reducible repeat (first | apply Kd.R_alloc | apply Kd.R_drewN | apply Kd.R_drew)); exact Kd.R_mono (farsR (Kd.R_types HO399.out BK401.out (by decide))) (fun _ hk => trivial)⟩, ⟨by (with_reducible repeat (first | refine blk_drewN ?_ _ | refine blk_drew ?_ | refine blk_alloc ?_ _)); refine blk_put (cs := #[.slice Ao8 t391.length co8, .int .i64 t394, .int .i64 t395, .int .i64 t396, .slice none 0 0]) ?_ 4 _ rfl; (with_reducible repeat (first | refine blk_drewN ?_ _ | refine blk_drew ?_ | refine blk_alloc ?_ _)); refine blk_put (cs := #[.slice Ao8 t391.length co8, .int .i64 t394, .int .i64 t395, .int .i64 0, .slice none 0 0]) ?_ 3 _ rfl; (with_reducible repeat (first | refine blk_drewN ?_ _ | refine blk_drew ?_ | refine blk_alloc ?_ _)); refine blk_put (cs := #[.slice Ao8 t391.length co8, .int .i64 t394, .int .i64 0, .int .i64 0, .slice none 0 0]) ?_ 2 _ rfl; (with_reducible repeat (first | refine blk_drewN ?_ _ | refine blk_drew ?_ | refine blk_alloc ?_ _)); refine blk_put (cs := #[.slice Ao8 t391.length co8, .int .i64 0, .int .i64 0, .int .i64 0, .slice none 0 0]) ?_ 1 _ rfl; (with_reducible repeat (first | refine blk_drewN ?_ _ | refine blk_drew ?_ | refine blk_alloc ?_ _)); refine blk_put (cs := #[.slice none 0 0, .int .i64 0, .int .i64 0, .int .i64 0, .slice none 0 0]) ?_ 0 _ rfl; (with_reducible repeat (first | refine blk_drewN ?_ _ | refine blk_drew ?_ | refine blk_alloc ?_ _)); exact BK401.out⟩, ⟨belowg1 HB GE401⟩⟩
  ·replace c11 := Bool.eq_false_iff.mpr c11
   subst c11
   have H1 : (impl_PlayMix.j0 k l2 true t391 t394 t395 t396 t397) = some (r1, r2) := by rw [if_neg (show ¬ (false = true) by decide)] at H; exact H
   clear H
   have H := H1
   clear H1
   have H' := Aside0.mk H
   clear H; go_wp2
   go_meet
   case rel => exact ⟨_, (true), er, H', ⟨by first | omega | exact Nat.le_refl _⟩, ⟨by (with_reducible repeat (first | apply Kd.R_alloc | apply Kd.R_drewN | apply Kd.R_drew)); exact Kd.R_mono (farsR (Kd.R_types HO393.out BK401.out (by decide))) (fun _ hk => trivial)⟩, ⟨by (with_reducible repeat (first | apply Kd.R_alloc | apply Kd.R_drewN | apply Kd.R_drew)); exact Kd.R_mono (farsR (Kd.R_types HO399.out BK401.out (by decide))) (fun _ hk => trivial)⟩, ⟨by (with_reducible repeat (first | refine blk_drewN ?_ _ | refine blk_drew ?_ | refine blk_alloc ?_ _)); refine blk_put (cs := #[.slice Ao8 t391.length co8, .int .i64 t394, .int .i64 t395, .int .i64 t396, .slice none 0 0]) ?_ 4 _ rfl; (with_reducible repeat (first | refine blk_drewN ?_ _ | refine blk_drew ?_ | refine blk_alloc ?_ _)); refine blk_put (cs := #[.slice Ao8 t391.length co8, .int .i64 t394, .int .i64 t395, .int .i64 0, .slice none 0 0]) ?_ 3 _ rfl; (with_reducible repeat (first | refine blk_drewN ?_ _ | refine blk_drew ?_ | refine blk_alloc ?_ _)); refine blk_put (cs := #[.slice Ao8 t391.length co8, .int .i64 t394, .int .i64 0, .int .i64 0, .slice none 0 0]) ?_ 2 _ rfl; (with_reducible repeat (first | refine blk_drewN ?_ _ | refine blk_drew ?_ | refine blk_alloc ?_ _)); refine blk_put (cs := #[.slice Ao8 t391.length co8, .int .i64 0, .int .i64 0, .int .i64 0, .slice none 0 0]) ?_ 1 _ rfl; (with_reducible repeat (first | refine blk_drewN ?_ _ | refine blk_drew ?_ | refine blk_alloc ?_ _)); refine blk_put (cs := #[.slice none 0 0, .int .i64 0, .int .i64 0, .int .i64 0, .slice none 0 0]) ?_ 0 _ rfl; (with_reducible repeat (first | refine blk_drewN ?_ _ | refine blk_drew ?_ | refine blk_alloc ?_ _)); exact BK401.out⟩, ⟨belowg1 HB GE401⟩⟩
 case rest =>
  clear HC5; (try clear c2); (try clear hcz9_0); (try clear hcz9_1); (try clear hcz9_2); (try clear hcz9_3); (try clear hcz9_4); (try clear hfz9_0); (try clear hfz9_1); (try clear hfz9_2); (try clear hfz9_3); (try clear hfz9_4)
  obtain ⟨kq, x28_4, rfl, HA, HJ4, HO_402000, HO_402004, BK401, HB⟩ := hcut
  cases kq with
  | zero => exact absurd HA.out (by simp [impl_PlayMix.j0])
  | succ kj4 =>
   have H := HA.out; clear HA
   simp only [impl_PlayMix.j0] at H
   by_cases c12 : x28_4 = true
   ·subst c12
    have H1 : (some (([] : List (List ByteArray)), false)) = some (r1, r2) := by rw [if_pos rfl] at H; exact H
    clear H
    have H := H1
    clear H1
    simp only [Option.some.injEq, Prod.mk.injEq] at H
    obtain ⟨rfl, rfl⟩ := H; go_wp2
    go_ret2
    exact ⟨_, er2, by first | exact Kd.S_nil _ _ _ _ _ | exact Kd.N_nil _ _ _ _ _ | exact Kd.V_nil _ _ _ _ _ | exact Kd.Q_nil _ _ _ _ _ | exact Kd.R_nil _ _ _ _ _, belowg1 HB GE401⟩
   ·replace c12 := Bool.eq_false_iff.mpr c12
    subst c12
    have H1 : (impl_PlayMix.l0 kj4 (([] : List (List ByteArray))) l2 (l2.length : Int) 0 t391 t394 t395 t396 t397) = some (r1, r2) := by rw [if_neg (show ¬ (false = true) by decide)] at H; exact H
    clear H
    have H := H1
    clear H1
    obtain ⟨y402, hy_⟩ : ∃ y_ : List (List ByteArray), y_ = (([] : List (List ByteArray))) := ⟨_, rfl⟩
    replace H : (impl_PlayMix.l0 kj4 y402 l2 (l2.length : Int) 0 t391 t394 t395 t396 t397) = some (r1, r2) := yH
    have Ny402 := ak hy_; clear hy_
    have H' := Aside0.mk H
    clear H
    go_wp2_with (first | ((with_reducible refine gate_dst (N := 29) rfl ?_); (try (refine gate_guard (by rfl) ?_; dsimp only)); refine Kd.S_lit (Kd.slice 9 Kd.string) _ 22 ?hg (N := 29) ?hd (xs := ([] : List (List ByteArray))) (inner := []) (ok := fun _ => True) (okp := fun _ => True) ?hr ?hp (fun _ hk => hk) trivial (Below.refl _ _) (Nat.le_refl _) (by simp) ?_; (case hd => rfl); (case hg => rfl); (case hr => first | (go_simp; done) | (go_simp; rfl)); (case hp => exact (Reps.none _ _)); intro v403 w13 ho14 hb hg_ hnew_; clear hg_ hnew_; (first | rw [← Ny402.out] at ho14 | (simp only [Int.reduceToNat] at ho14; rw [← Ny402.out] at ho14)); replace HO_402004 := ak (Kd.R_below (rdl HO_402004) hb); have HO404 := ak (Kd.S_lower (Kd.S_new' ho14 (Kd.R_lt (rdl HO_402000))) (below_size (belowg1 HB GE401))); replace HO_402000 := ak (Kd.R_below (rdl HO_402000) hb); replace BK401 := ak (blk_below (blkd BK401) hb); replace HB := ak (below_step (belowg1 HB GE401) hb); clear hb ho14))
    go_loopg [10, 32] kj4 (fun kq v10 v32 w' => ∃ (x10_2 : List (List ByteArray)) (x32_2 : Int) (x402000_2 : List ByteArray) (x402001_2 : Int) (x402002_2 : Int) (x402003_2 : Int) (x402004_2 : List Int) (u402000 : Value) (u402004 : Value), v32 = .int .i64 x32_2 ∧ Aside0 (impl_PlayMix.l0 kq x10_2 l2 (l2.length : Int) x32_2 x402000_2 x402001_2 x402002_2 x402003_2 x402004_2 = some (r1, r2)) ∧ Aside0 (kq ≤ kj4) ∧ Aside0 (Kd.S (Kd.slice 9 Kd.string) 22 w' w.heap.size (fun k_ => some k_ ≠ (u402000 : Value).ownBlock) v10 x10_2) ∧ Aside0 (Kd.R Kd.string 9 w' w.heap.size (fun _ => True) u402000 x402000_2) ∧ Aside0 (Kd.R (Kd.int .i64) 3 w' w.heap.size (fun _ => True) u402004 x402004_2) ∧ Aside0 (w'.heap[gb401]? = some (.cells #[u402000, .int .i64 x402001_2, .int .i64 x402002_2, .int .i64 x402003_2, u402004] 27 (0, 0))) ∧ Aside0 (Below w.heap.size w w'))
    case atStart => exact ⟨(y402), (0), (t391), (t394), (t395), (t396), (t397), (.slice Ao8 t391.length co8), (.slice Ao10 t397.length co10), er, H', ⟨Nat.le_refl _⟩, ⟨by (with_reducible repeat (first | apply Kd.S_alloc | apply Kd.S_drewN | apply Kd.S_drew)); exact Kd.S_mono HO404.out (fun _ hk => hk.2)⟩, ⟨rdl HO_402000⟩, ⟨rdl HO_402004⟩, ⟨blkd BK401⟩, ⟨belowg1 HB GE401⟩⟩
    case round =>
     clear H'
     (try clear c12)
     obtain ⟨x10_2, x32_2, x402000_2, x402001_2, x402002_2, x402003_2, x402004_2, u402000, u402004, rfl, HA, HK2, HO_10, HO_402000, HO_402004, BK401, HB⟩ := hrel
     cases gk with
     | zero => exact absurd HA.out (by simp [impl_PlayMix.l0])
     | succ k2 =>
      have H := HA.out; clear HA
      simp only [impl_PlayMix.l0] at H
      by_cases c15 : x32_2 < (l2.length : Int)
      ·rw [if_pos c15] at H
       have c15b0 : decide (x32_2 < (l2.length : Int)) = true := decide_eq_true c15
       clear c15; replace H := ifS H; obtain ⟨c16, H⟩ := H; have c16b0 := decide_eq_true c16; clear c16; replace H := ifS H; obtain ⟨c17, H⟩ := H; have c17b0 := decide_eq_true c17; clear c17; replace H := bS H; obtain ⟨t406, A18, H⟩ := H
       replace H : (if t406 = true then (impl_PlayMix.l1 k2 x10_2 l2 (l2.length : Int) x32_2 (rd_L1 l2 x32_2) ((rd_L1 l2 x32_2).length : Int) 0 x402000_2 x402001_2 x402002_2 x402003_2 x402004_2) else (some (([] : List (List ByteArray)), false))) = some (r1, r2) := H
       by_cases c19 : t406 = true
       ·subst c19
        have H1 : (impl_PlayMix.l1 k2 x10_2 l2 (l2.length : Int) x32_2 (rd_L1 l2 x32_2) ((rd_L1 l2 x32_2).length : Int) 0 x402000_2 x402001_2 x402002_2 x402003_2 x402004_2) = some (r1, r2) := by rw [if_pos rfl] at H; exact H
        clear H
        have H := H1
        clear H1
        have H' := Aside0.mk H
        clear H
        have p405 : 0 ≤ (x32_2 : Int) := da
        have q405 : x32_2 < (l2.length : Int) := da
        obtain ⟨ad405, A405_0, c405_0, e405, hx405_0, hl405_0, hi405_0⟩ := at_L1 HR2.out x32_2 p405 q405
        cases e405
        replace hx405_0 := (HB.out.cell (World.block_lt_of_cell? w _ hx405_0)).trans hx405_0
        have HR405_0 := Aside0.mk hi405_0; have HC405_0 := Aside0.mk hl405_0; clear hi405_0 hl405_0; replace p405 := eq_true p405; replace q405 := eq_true q405
        go_wp2_with (first | ((with_reducible refine gate_callee (f := 114) rfl ?_); refine goesLa (some 37) rfl Try.func114 #[.slice A405_0 (rd_L1 l2 x32_2).length c405_0] rfl ?_; (with_reducible refine (impl_areLetters.calls k2 _ _ (rd_L1 l2 x32_2) true _ ?side1 ?side2 A18.out).mono ?_); (case side1 => exact cd (Kd.C_below HR405_0.out HB.out)); (case side2 => exact HC405_0.out); rintro e w' ⟨rfl, ⟨nd, rfl⟩⟩; refine ⟨_, rfl, ?_⟩))
        go_loopg [41] k2 (fun kq v41 w' => ∃ (x41_3 : Int) (x402000_3 : List ByteArray) (x402001_3 : Int) (x402002_3 : Int) (x402003_3 : Int) (x402004_3 : List Int) (u402000 : Value) (u402004 : Value), v41 = .int .i64 x41_3 ∧ Aside0 (impl_PlayMix.l1 kq x10_2 l2 (l2.length : Int) x32_2 (rd_L1 l2 x32_2) ((rd_L1 l2 x32_2).length : Int) x41_3 x402000_3 x402001_3 x402002_3 x402003_3 x402004_3 = some (r1, r2)) ∧ Aside0 (kq ≤ k2) ∧ Aside0 (Kd.S (Kd.slice 9 Kd.string) 22 w' w.heap.size (fun k_ => some k_ ≠ (u402000 : Value).ownBlock) u10 x10_2) ∧ Aside0 (Kd.R Kd.string 9 w' w.heap.size (fun _ => True) u402000 x402000_3) ∧ Aside0 (Kd.R (Kd.int .i64) 3 w' w.heap.size (fun _ => True) u402004 x402004_3) ∧ Aside0 (w'.heap[gb401]? = some (.cells #[u402000, .int .i64 x402001_3, .int .i64 x402002_3, .int .i64 x402003_3, u402004] 27 (0, 0))) ∧ Aside0 (Below w.heap.size w w'))
        case atStart => exact ⟨(0), (x402000_2), (x402001_2), (x402002_2), (x402003_2), (x402004_2), (u402000), (u402004), er, H', ⟨Nat.le_refl _⟩, ⟨sd HO_10⟩, ⟨rdl HO_402000⟩, ⟨rdl HO_402004⟩, ⟨blkd BK401⟩, ⟨belowg1 HB GE401⟩⟩
        case round =>
         clear H'
         (try clear c15b0); (try clear c16b0); (try clear c17b0); (try clear c19); (try clear hx405_0); (try clear p405); (try clear q405)
         obtain ⟨x41_3, x402000_3, x402001_3, x402002_3, x402003_3, x402004_3, u402000, u402004, rfl, HA, HK3, HO_10, HO_402000, HO_402004, BK401, HB⟩ := hrel
         cases gk with
         | zero => exact absurd HA.out (by simp [impl_PlayMix.l1])
         | succ k3 =>
          have H := HA.out; clear HA
          simp only [impl_PlayMix.l1] at H
          by_cases c20 : x41_3 < ((rd_L1 l2 x32_2).length : Int)
          ·rw [if_pos c20] at H
           have c20b0 : decide (x41_3 < ((rd_L1 l2 x32_2).length : Int)) = true := decide_eq_true c20
           clear c20; replace H := ifS H; obtain ⟨c21, H⟩ := H; have c21b0 := decide_eq_true c21; clear c21; replace H := ifS H; obtain ⟨c22, H⟩ := H; have c22b0 := decide_eq_true c22; clear c22; replace H := bS H; obtain ⟨⟨t408, t411, t412, t413, t414, t417, t418⟩, A23, H⟩ := H
           replace H : (impl_PlayMix.l1 k3 x10_2 l2 (l2.length : Int) x32_2 (rd_L1 l2 x32_2) ((rd_L1 l2 x32_2).length : Int) (wrap64 (x41_3 + 1)) t408 t411 t412 t413 t414) = some (r1, r2) := H
           have H' := Aside0.mk H
           clear H
           have p407 : 0 ≤ (x41_3 : Int) := da
           have q407 : x41_3 < ((rd_L1 l2 x32_2).length : Int) := da
           obtain ⟨ad407, e407, hx407_0⟩ := Kd.at_string HR405_0.out x41_3 p407 q407
           cases e407
           replace hx407_0 := (HB.out.cell (World.block_lt_of_cell? w _ hx407_0)).trans hx407_0
           replace p407 := eq_true p407; replace q407 := eq_true q407; obtain ⟨hcz24_0, hcz24_1, hcz24_2, hcz24_3, hcz24_4, hfz24_0, hfz24_1, hfz24_2, hfz24_3, hfz24_4⟩ := box5 BK401
           obtain ⟨Ao25, co25, eo25⟩ := Kd.R_slice HO_402000.out
           subst eo25
           obtain ⟨Ao26, co26, eo26⟩ := Kd.R_slice HO_402004.out
           subst eo26
           go_wp2_with (first | ((with_reducible refine gate_callee (f := 16) rfl ?_); refine goesLa (some 48) rfl Try.func16 #[.agg #[.slice Ao25 x402000_3.length co25, .int .i64 x402001_3, .int .i64 x402002_3, .int .i64 x402003_3, .slice Ao26 x402004_3.length co26], .string (rdOf ByteArray.empty (rd_L1 l2 x32_2) x41_3)] rfl ?_; (with_reducible refine (impl_PutMix.calls k3 _ _ x402000_3 x402001_3 x402002_3 x402003_3 _ _ x402004_3 (rdOf ByteArray.empty (rd_L1 l2 x32_2) x41_3) t408 t411 t412 t413 t414 t417 t418 _ ?side1 ?side2 ?side3 ?side4 A23.out).mono ?_); (case side1 => exact cd (Kd.R_reads' HO_402000.out).2.2); (case side2 => exact (Kd.R_reads' HO_402000.out).2.1); (case side3 => exact cd (Kd.R_reads' HO_402004.out).2.2); (case side4 => exact (Kd.R_reads' HO_402004.out).2.1); rintro e w27 ⟨v409, v415, rfl, ho0, ho1, hb⟩; refine ⟨_, rfl, ?_⟩; replace HO_10 := ak (Kd.S_elder' (sd HO_10) (Kd.R_base ho0) hb); have HO410 := ak (Kd.R_lower (Kd.R_new' ho0 (Kd.R_lt (rdl HO_402000))) (below_size (belowg1 HB GE401))); replace HO_402000 := ak (Kd.R_elder' (rdl HO_402000) (Kd.R_base ho0) hb); have HO416 := ak (Kd.R_lower (Kd.R_new' ho1 (Kd.R_lt (rdl HO_402004))) (below_size (belowg1 HB GE401))); replace HO_402004 := ak (Kd.R_elder' (rdl HO_402004) (Kd.R_base ho1) hb); replace BK401 := ak (blk_below (blkd BK401) hb); replace HB := ak (below_step (belowg1 HB GE401) hb); (try clear hb); (try clear ho0); (try clear ho1); obtain ⟨Ao28, co28, eo28⟩ := Kd.R_slice HO410.out; subst eo28; obtain ⟨hcz29_0, hcz29_1, hcz29_2, hcz29_3, hcz29_4, hfz29_0, hfz29_1, hfz29_2, hfz29_3, hfz29_4⟩ := box5 BK401; obtain ⟨Ao30, co30, eo30⟩ := Kd.R_slice HO416.out; subst eo30))
           go_roundg k3
           case measure => have := HJ4.out; have := HK2.out; have := HK3.out; omega
           case rel => exact ⟨(wrap64 (x41_3 + 1)), (t408), (t411), (t412), (t413), (t414), (.slice Ao28 t408.length co28), (.slice Ao30 t414.length co30), er, H', ⟨by have := HJ4.out; have := HK2.out; have := HK3.out; omega⟩, ⟨by (with_reducible repeat (first | apply Kd.S_alloc | apply Kd.S_drewN | apply Kd.S_drew)); exact Kd.S_mono (farsS (Kd.S_types HO_10.out BK401.out (by decide))) (fun _ hk => hk.1.2)⟩, ⟨by (with_reducible repeat (first | apply Kd.R_alloc | apply Kd.R_drewN | apply Kd.R_drew)); exact Kd.R_mono (farsR (Kd.R_types HO410.out BK401.out (by decide))) (fun _ hk => trivial)⟩, ⟨by (with_reducible repeat (first | apply Kd.R_alloc | apply Kd.R_drewN | apply Kd.R_drew)); exact Kd.R_mono (farsR (Kd.R_types HO416.out BK401.out (by decide))) (fun _ hk => trivial)⟩, ⟨by (with_reducible repeat (first | refine blk_drewN ?_ _ | refine blk_drew ?_ | refine blk_alloc ?_ _)); refine blk_put (cs := #[.slice Ao28 t408.length co28, .int .i64 t411, .int .i64 t412, .int .i64 t413, .slice Ao26 x402004_3.length co26]) ?_ 4 _ rfl; (with_reducible repeat (first | refine blk_drewN ?_ _ | refine blk_drew ?_ | refine blk_alloc ?_ _)); refine blk_put (cs := #[.slice Ao28 t408.length co28, .int .i64 t411, .int .i64 t412, .int .i64 x402003_3, .slice Ao26 x402004_3.length co26]) ?_ 3 _ rfl; (with_reducible repeat (first | refine blk_drewN ?_ _ | refine blk_drew ?_ | refine blk_alloc ?_ _)); refine blk_put (cs := #[.slice Ao28 t408.length co28, .int .i64 t411, .int .i64 x402002_3, .int .i64 x402003_3, .slice Ao26 x402004_3.length co26]) ?_ 2 _ rfl; (with_reducible repeat (first | refine blk_drewN ?_ _ | refine blk_drew ?_ | refine blk_alloc ?_ _)); refine blk_put (cs := #[.slice Ao28 t408.length co28, .int .i64 x402001_3, .int .i64 x402002_3, .int .i64 x402003_3, .slice Ao26 x402004_3.length co26]) ?_ 1 _ rfl; (with_reducible repeat (first | refine blk_drewN ?_ _ | refine blk_drew ?_ | refine blk_alloc ?_ _)); refine blk_put (cs := #[.slice Ao25 x402000_3.length co25, .int .i64 x402001_3, .int .i64 x402002_3, .int .i64 x402003_3, .slice Ao26 x402004_3.length co26]) ?_ 0 _ rfl; (with_reducible repeat (first | refine blk_drewN ?_ _ | refine blk_drew ?_ | refine blk_alloc ?_ _)); exact BK401.out⟩, ⟨belowg1 HB GE401⟩⟩
          ·rw [if_neg c20] at H
           have c20b0 : decide (x41_3 < ((rd_L1 l2 x32_2).length : Int)) = false := decide_eq_false c20
           clear c20; replace H := bS H; obtain ⟨⟨t419, t422, t423, t424, t425, t428, t431⟩, A31, H⟩ := H
           replace H : (if x10_2.length < 5864062014805 then (impl_PlayMix.l0 k3 (x10_2 ++ [t428]) l2 (l2.length : Int) (wrap64 (x32_2 + 1)) t419 t422 t423 t424 t425) else (none)) = some (r1, r2) := H
           replace H := ifS H; obtain ⟨c32, H⟩ := H; have LMc32 := Aside0.mk c32; clear c32
           obtain ⟨y432, hy_⟩ : ∃ y_ : List (List ByteArray), y_ = (x10_2 ++ [t428]) := ⟨_, rfl⟩
           replace H : (impl_PlayMix.l0 k3 y432 l2 (l2.length : Int) (wrap64 (x32_2 + 1)) t419 t422 t423 t424 t425) = some (r1, r2) := yH
           have Ny432 := ak hy_; clear hy_
           have H' := Aside0.mk H
           clear H; obtain ⟨hcz33_0, hcz33_1, hcz33_2, hcz33_3, hcz33_4, hfz33_0, hfz33_1, hfz33_2, hfz33_3, hfz33_4⟩ := box5 BK401
           obtain ⟨Ao34, co34, eo34⟩ := Kd.R_slice HO_402000.out
           subst eo34
           obtain ⟨Ao35, co35, eo35⟩ := Kd.R_slice HO_402004.out
           subst eo35
           go_wp2_with (first | ((with_reducible refine gate_callee (f := 115) rfl ?_); refine goesLa (some 55) rfl Try.func115 #[.agg #[.slice Ao34 x402000_3.length co34, .int .i64 x402001_3, .int .i64 x402002_3, .int .i64 x402003_3, .slice Ao35 x402004_3.length co35]] rfl ?_; (with_reducible refine (impl_TickMix.calls k3 _ _ x402000_3 x402001_3 x402002_3 x402003_3 _ _ x402004_3 t419 t422 t423 t424 t425 t428 t431 _ ?side1 ?side2 ?side3 ?side4 A31.out).mono ?_); (case side1 => exact cd (Kd.R_reads' HO_402000.out).2.2); (case side2 => exact (Kd.R_reads' HO_402000.out).2.1); (case side3 => exact cd (Kd.R_reads' HO_402004.out).2.2); (case side4 => exact (Kd.R_reads' HO_402004.out).2.1); rintro e w36 ⟨v420, v426, v429, rfl, ho0, ho1, ho2, hb⟩; refine ⟨_, rfl, ?_⟩; replace HO_10 := ak (Kd.S_mono (Kd.S_told (Kd.S_told (Kd.S_old (sd HO_10) hb) (Kd.R_base ho0)) (Kd.R_base ho2)) (fun _ h_ => h_.1)); have HO421 := ak (Kd.R_lower (Kd.R_new' ho0 (Kd.R_lt (rdl HO_402000))) (below_size (belowg1 HB GE401))); have HO427 := ak (Kd.R_lower (Kd.R_new' ho1 (Kd.R_lt (rdl HO_402004))) (below_size (belowg1 HB GE401))); replace HO_402004 := ak (Kd.R_elder' (rdl HO_402004) (Kd.R_base ho1) hb); have HO430 := ak (Kd.R_lower (Kd.R_new' ho2 (Kd.R_lt (rdl HO_402000))) (below_size (belowg1 HB GE401))); replace HO_402000 := ak (Kd.R_mono (Kd.R_told (Kd.R_told (Kd.R_old (rdl HO_402000) hb) (Kd.R_base ho0)) (Kd.R_base ho2)) (fun _ h_ => h_.1)); replace BK401 := ak (blk_below (blkd BK401) hb); replace HB := ak (below_step (belowg1 HB GE401) hb); (try clear hb); (try clear ho0); (try clear ho1); (try clear ho2); obtain ⟨Ao37, co37, eo37⟩ := Kd.R_slice HO421.out; subst eo37; obtain ⟨hcz38_0, hcz38_1, hcz38_2, hcz38_3, hcz38_4, hfz38_0, hfz38_1, hfz38_2, hfz38_3, hfz38_4⟩ := box5 BK401; obtain ⟨Ao39, co39, eo39⟩ := Kd.R_slice HO427.out; subst eo39) | ((with_reducible refine gate_store (t := 27) (p := 8) rfl ?_); refine store_event (t := 27) (p := 8) (v := ?vo_w40) (w1 := (((((w36.setCell ⟨gb401, 0, none⟩ (.slice Ao37 t419.length co37)).setCell ⟨gb401, 1, none⟩ (.int .i64 t422)).setCell ⟨gb401, 2, none⟩ (.int .i64 t423)).setCell ⟨gb401, 3, none⟩ (.int .i64 t424)).setCell ⟨gb401, 4, none⟩ (.slice Ao39 t425.length co39))) ?hg ?ho ?hn ?hr ?_; (case ho => rfl); (case hg => rfl); (case hn => rfl); (case hr => first | (go_simp; done) | (go_simp; rfl)); intro w40 hw; have n0_ : Aside0 (Kd.S (Kd.slice 9 Kd.string) 22 w40 w.heap.size (fun k_ => some k_ ≠ (.slice Ao34 x402000_3.length co34 : Value).ownBlock ∧ some k_ ≠ (.slice Ao37 t419.length co37 : Value).ownBlock ∧ some k_ ≠ (v429 : Value).ownBlock) u10 x10_2) := ⟨(by rw [hw]; exact (by (with_reducible repeat (first | apply Kd.S_alloc | apply Kd.S_drewN | apply Kd.S_drew)); exact Kd.S_mono (farsS (Kd.S_types HO_10.out BK401.out (by decide))) (fun _ hk => ⟨hk.1.1.1, ⟨hk.1.1.2, hk.1.2⟩⟩)))⟩; have n1_ : Aside0 (Kd.R Kd.string 9 w40 w.heap.size (fun k_ => some k_ ≠ (.slice Ao37 t419.length co37 : Value).ownBlock ∧ some k_ ≠ (v429 : Value).ownBlock) (.slice Ao34 x402000_3.length co34) x402000_3) := ⟨(by rw [hw]; exact (by (with_reducible repeat (first | apply Kd.R_alloc | apply Kd.R_drewN | apply Kd.R_drew)); exact Kd.R_mono (farsR (Kd.R_types HO_402000.out BK401.out (by decide))) (fun _ hk => ⟨hk.1.1.2, hk.1.2⟩)))⟩; have n2_ : Aside0 (Kd.R (Kd.int .i64) 3 w40 w.heap.size (fun k_ => some k_ ≠ (.slice Ao39 t425.length co39 : Value).ownBlock) (.slice Ao35 x402004_3.length co35) x402004_3) := ⟨(by rw [hw]; exact (by (with_reducible repeat (first | apply Kd.R_alloc | apply Kd.R_drewN | apply Kd.R_drew)); exact Kd.R_mono (farsR (Kd.R_types HO_402004.out BK401.out (by decide))) (fun _ hk => hk.1.2)))⟩; have n3_ : Aside0 (Kd.R Kd.string 9 w40 w.heap.size (fun k_ => some k_ ≠ (.slice Ao34 x402000_3.length co34 : Value).ownBlock ∧ some k_ ≠ (v429 : Value).ownBlock) (.slice Ao37 t419.length co37) t419) := ⟨(by rw [hw]; exact (by (with_reducible repeat (first | apply Kd.R_alloc | apply Kd.R_drewN | apply Kd.R_drew)); exact Kd.R_mono (farsR (Kd.R_types HO421.out BK401.out (by decide))) (fun _ hk => ⟨hk.1.2, hk.1.1⟩)))⟩; have n4_ : Aside0 (Kd.R (Kd.int .i64) 3 w40 w.heap.size (fun k_ => some k_ ≠ (.slice Ao35 x402004_3.length co35 : Value).ownBlock) (.slice Ao39 t425.length co39) t425) := ⟨(by rw [hw]; exact (by (with_reducible repeat (first | apply Kd.R_alloc | apply Kd.R_drewN | apply Kd.R_drew)); exact Kd.R_mono (farsR (Kd.R_types HO427.out BK401.out (by decide))) (fun _ hk => hk.1.2)))⟩; have n5_ : Aside0 (Kd.R Kd.string 9 w40 w.heap.size (fun k_ => some k_ ≠ (.slice Ao34 x402000_3.length co34 : Value).ownBlock ∧ some k_ ≠ (.slice Ao37 t419.length co37 : Value).ownBlock) v429 t428) := ⟨(by rw [hw]; exact (by (with_reducible repeat (first | apply Kd.R_alloc | apply Kd.R_drewN | apply Kd.R_drew)); exact Kd.R_mono (farsR (Kd.R_types HO430.out BK401.out (by decide))) (fun _ hk => ⟨hk.1.2, hk.1.1⟩)))⟩; have n6_ : Aside0 (w40.heap[gb401]? = some (.cells #[.slice Ao37 t419.length co37, .int .i64 t422, .int .i64 t423, .int .i64 t424, .slice Ao39 t425.length co39] 27 (0, 0))) := ⟨(by rw [hw]; exact (by (with_reducible repeat (first | refine blk_drewN ?_ _ | refine blk_drew ?_ | refine blk_alloc ?_ _)); refine blk_put (cs := #[.slice Ao37 t419.length co37, .int .i64 t422, .int .i64 t423, .int .i64 t424, .slice Ao35 x402004_3.length co35]) ?_ 4 _ rfl; (with_reducible repeat (first | refine blk_drewN ?_ _ | refine blk_drew ?_ | refine blk_alloc ?_ _)); refine blk_put (cs := #[.slice Ao37 t419.length co37, .int .i64 t422, .int .i64 t423, .int .i64 x402003_3, .slice Ao35 x402004_3.length co35]) ?_ 3 _ rfl; (with_reducible repeat (first | refine blk_drewN ?_ _ | refine blk_drew ?_ | refine blk_alloc ?_ _)); refine blk_put (cs := #[.slice Ao37 t419.length co37, .int .i64 t422, .int .i64 x402002_3, .int .i64 x402003_3, .slice Ao35 x402004_3.length co35]) ?_ 2 _ rfl; (with_reducible repeat (first | refine blk_drewN ?_ _ | refine blk_drew ?_ | refine blk_alloc ?_ _)); refine blk_put (cs := #[.slice Ao37 t419.length co37, .int .i64 x402001_3, .int .i64 x402002_3, .int .i64 x402003_3, .slice Ao35 x402004_3.length co35]) ?_ 1 _ rfl; (with_reducible repeat (first | refine blk_drewN ?_ _ | refine blk_drew ?_ | refine blk_alloc ?_ _)); refine blk_put (cs := #[.slice Ao34 x402000_3.length co34, .int .i64 x402001_3, .int .i64 x402002_3, .int .i64 x402003_3, .slice Ao35 x402004_3.length co35]) ?_ 0 _ rfl; (with_reducible repeat (first | refine blk_drewN ?_ _ | refine blk_drew ?_ | refine blk_alloc ?_ _)); exact BK401.out))⟩; have n7_ : Aside0 (Below w.heap.size w w40) := ⟨(by rw [hw]; exact (belowg1 HB GE401))⟩; clear hw; clear HO_10; clear HO_402000; clear HO_402004; clear HO421; clear HO427; clear HO430; clear BK401; clear HB; have HO_10 := n0_; have HO_402000 := n1_; have HO_402004 := n2_; have HO421 := n3_; have HO427 := n4_; have HO430 := n5_; have BK401 := n6_; have HB := n7_; clear n0_ n1_ n2_ n3_ n4_ n5_ n6_ n7_; obtain ⟨Ao42, co42, eo42⟩ := Kd.R_slice HO430.out; subst eo42) | ((with_reducible refine gate_builtin (b := .append) (xs := #[.tmp 59, .tmp 61]) rfl ?_); (try (refine gate_guard (by rfl) ?_; dsimp only)); at_builtin; refine Kd.S_append (Kd.slice 9 Kd.string) (w0 := w) w.heap.size rfl (.tmp 59) (.tmp 61) 34 22 (.slice none 0 0) 24 rfl Try.underlying34 info22 rfl (by decide) (by omega) u10 x10_2 t428 [.slice Ao42 t428.length co42] (fun k_ => some k_ ≠ (.slice Ao34 x402000_3.length co34 : Value).ownBlock ∧ some k_ ≠ (.slice Ao37 t419.length co37 : Value).ownBlock) (fun k_ => some k_ = (.slice Ao42 t428.length co42 : Value).ownBlock) rfl rfl ?aP (fun k_ hk_ => ((Kd.R_mono (ok' := fun k_ => ((fun k_ => some k_ ≠ (.slice Ao34 x402000_3.length co34 : Value).ownBlock ∧ some k_ ≠ (.slice Ao37 t419.length co37 : Value).ownBlock)) k_ ∧ some k_ ≠ (u10 : Value).ownBlock) (Kd.R_apart' (HO430.out) (Kd.S_typed HO_10.out) (by decide)) (fun k_ hk => ⟨⟨hk.1.1, hk.1.2⟩, hk.2⟩))).1 k_ hk_.symm) ?aF ?aO ?aB ?aS ?aL ?_; (case aP => exact Kd.M_row (Kd.R_mono (Kd.R_tight rfl (Kd.R_mono (ok' := fun k_ => ((fun k_ => some k_ ≠ (.slice Ao34 x402000_3.length co34 : Value).ownBlock ∧ some k_ ≠ (.slice Ao37 t419.length co37 : Value).ownBlock)) k_ ∧ some k_ ≠ (u10 : Value).ownBlock) (Kd.R_apart' (HO430.out) (Kd.S_typed HO_10.out) (by decide)) (fun k_ hk => ⟨⟨hk.1.1, hk.1.2⟩, hk.2⟩))) (fun _ h_ => h_))); (case aB => exact (belowg1 HB GE401)); (case aF => exact (fun k_ hk => ⟨Kd.fresh' (Kd.R_lt (rdl HO_402000)) k_ hk, Kd.fresh' (Kd.R_lt (rdl HO421)) k_ hk⟩)); (case aO => exact (by (with_reducible repeat (first | apply Kd.S_alloc | apply Kd.S_drewN | apply Kd.S_drew)); exact Kd.S_mono HO_10.out (fun k_ hk => ⟨⟨hk.1, hk.2.1⟩, fun e_ => hk.2.2 e_⟩))); (case aS => exact (below_size (belowg1 HB GE401))); (case aL => have := LMc32.out; omega); intro v433 w41 ho hb hg hat; rw [← Ny432.out] at ho; replace HO_402000 := ak (Kd.R_over' (rdl HO_402000) (Kd.S_typed (sd HO_10)) (by decide) hg); replace HO_402004 := ak (Kd.R_over' (rdl HO_402004) (Kd.S_typed (sd HO_10)) (by decide) hg); replace BK401 := ak (blk_grown (blkd BK401) hg (Kd.S_ne HO_10.out BK401.out (by decide))); replace HO421 := ak (Kd.R_over' (rdl HO421) (Kd.S_typed (sd HO_10)) (by decide) hg); replace HO427 := ak (Kd.R_over' (rdl HO427) (Kd.S_typed (sd HO_10)) (by decide) hg); replace HB := ak (hb); have HO434 := ak (ho); clear HO_10 HO430; clear ho hb hg hat))
           go_roundg k3
           case measure => have := HJ4.out; have := HK2.out; have := HK3.out; omega
           case rel => exact ⟨(y432), (wrap64 (x32_2 + 1)), (t419), (t422), (t423), (t424), (t425), (.slice Ao37 t419.length co37), (.slice Ao39 t425.length co39), er, H', ⟨by have := HJ4.out; have := HK2.out; have := HK3.out; omega⟩, ⟨by (with_reducible repeat (first | apply Kd.S_alloc | apply Kd.S_drewN | apply Kd.S_drew)); exact Kd.S_mono HO434.out (fun _ hk => hk.2)⟩, ⟨by (with_reducible repeat (first | apply Kd.R_alloc | apply Kd.R_drewN | apply Kd.R_drew)); exact Kd.R_mono HO421.out (fun _ hk => trivial)⟩, ⟨by (with_reducible repeat (first | apply Kd.R_alloc | apply Kd.R_drewN | apply Kd.R_drew)); exact Kd.R_mono HO427.out (fun _ hk => trivial)⟩, ⟨blkd BK401⟩, ⟨belowg1 HB GE401⟩⟩
       ·replace c19 := Bool.eq_false_iff.mpr c19
        subst c19
        have H1 : (some (([] : List (List ByteArray)), false)) = some (r1, r2) := by rw [if_neg (show ¬ (false = true) by decide)] at H; exact H
        clear H
        have H := H1
        clear H1
        simp only [Option.some.injEq, Prod.mk.injEq] at H
        obtain ⟨rfl, rfl⟩ := H
        have p405 : 0 ≤ (x32_2 : Int) := da
        have q405 : x32_2 < (l2.length : Int) := da
        obtain ⟨ad405, A405_0, c405_0, e405, hx405_0, hl405_0, hi405_0⟩ := at_L1 HR2.out x32_2 p405 q405
        cases e405
        replace hx405_0 := (HB.out.cell (World.block_lt_of_cell? w _ hx405_0)).trans hx405_0
        have HR405_0 := Aside0.mk hi405_0; have HC405_0 := Aside0.mk hl405_0; clear hi405_0 hl405_0; replace p405 := eq_true p405; replace q405 := eq_true q405
        go_wp2_with (first | ((with_reducible refine gate_callee (f := 114) rfl ?_); refine goesLa (some 37) rfl Try.func114 #[.slice A405_0 (rd_L1 l2 x32_2).length c405_0] rfl ?_; (with_reducible refine (impl_areLetters.calls k2 _ _ (rd_L1 l2 x32_2) false _ ?side1 ?side2 A18.out).mono ?_); (case side1 => exact cd (Kd.C_below HR405_0.out HB.out)); (case side2 => exact HC405_0.out); rintro e w' ⟨rfl, ⟨nd, rfl⟩⟩; refine ⟨_, rfl, ?_⟩))
        go_ret2
        exact ⟨_, er2, by first | exact Kd.S_nil _ _ _ _ _ | exact Kd.N_nil _ _ _ _ _ | exact Kd.V_nil _ _ _ _ _ | exact Kd.Q_nil _ _ _ _ _ | exact Kd.R_nil _ _ _ _ _, belowg1 HB GE401⟩
      ·rw [if_neg c15] at H
       have c15b0 : decide (x32_2 < (l2.length : Int)) = false := decide_eq_false c15
       clear c15
       simp only [Option.some.injEq, Prod.mk.injEq] at H
       obtain ⟨rfl, rfl⟩ := H; go_wp2
       go_ret2
       exact ⟨_, er2, by (with_reducible repeat (first | apply Kd.S_alloc | apply Kd.S_drewN | apply Kd.S_drew)); exact Kd.S_mono HO_10.out (fun _ hk => trivial), belowg1 HB GE401⟩

/-! ### laws_eqStringS: function 106 -/
def laws_eqStringS.l0 : Nat → List ByteArray → List ByteArray → Int → Option (Bool)
  | 0, _, _, _ => none
  | k + 1, x0, x1, x5 => if x5 < (x0.length : Int) then (if 0 ≤ x5 then (if x5 < (x1.length : Int) then (if (rdOf ByteArray.empty x0 x5).toList = (rdOf ByteArray.empty x1 x5).toList then (laws_eqStringS.l0 k x0 x1 (wrap64 (x5 + 1))) else (some false)) else (none)) else (none)) else (some true)
def laws_eqStringS.f (k : Nat) (l0 : List ByteArray) (l1 : List ByteArray) : Option (Bool) := if (l0.length : Int) = (l1.length : Int) then (laws_eqStringS.l0 k l0 l1 0) else (some false)
theorem laws_eqStringS.mono_l : ∀ k, (∀ y0 y1 y2, LeO (laws_eqStringS.l0 k y0 y1 y2) (laws_eqStringS.l0 (k + 1) y0 y1 y2))
 | 0 => fun _ _ _ r h => by simp [laws_eqStringS.l0] at h
 | k + 1 => by
  have ih0 := laws_eqStringS.mono_l k
  ·intro y0 y1 y2
   unfold laws_eqStringS.l0
   repeat' (first | (with_reducible first | exact ih0 _ _ _ | exact LeO.refl _ | exact LeO.none _ | refine LeO.ite ?_ ?_ | refine LeO.bind ?_ (fun _ => ?_)) | exact ih0 _ _ _ | exact LeO.none _ | refine LeO.ite ?_ ?_ | refine LeO.bind ?_ (fun _ => ?_))
theorem laws_eqStringS.mono : ∀ a0 a1 k, LeO (laws_eqStringS.f k a0 a1) (laws_eqStringS.f (k + 1) a0 a1) := by
 intro a0 a1 k
 have ih0 := laws_eqStringS.mono_l k
 unfold laws_eqStringS.f
 repeat' (first | (with_reducible first | exact ih0 _ _ _ | exact LeO.refl _ | exact LeO.none _ | refine LeO.ite ?_ ?_ | refine LeO.bind ?_ (fun _ => ?_)) | exact ih0 _ _ _ | exact LeO.none _ | refine LeO.ite ?_ ?_ | refine LeO.bind ?_ (fun _ => ?_))
set_option maxHeartbeats 8000000 in
set_option maxRecDepth 100000 in
theorem laws_eqStringS.calls (k : Nat) (A0 : Option Addr) (c0 : Nat) (l0 : List ByteArray) (A1 : Option Addr) (c1 : Nat) (l1 : List ByteArray) (r : Bool) (w : World) (hr0 : Kd.C Kd.string w A0 l0.length l0) (hc0 : l0.length ≤ c0) (hr1 : Kd.C Kd.string w A1 l1.length l1) (hc1 : l1.length ≤ c1) (h : laws_eqStringS.f k l0 l1 = some r) :
  Calls Try.prog 106 #[.slice A0 l0.length c0, .slice A1 l1.length c1] w fun e w' => e = .returned (.bool r) ∧ Drawn0 w w' := by
 have HR0 := Aside0.mk hr0; have HC0 := Aside0.mk hc0; clear hr0 hc0; have HR1 := Aside0.mk hr1; have HC1 := Aside0.mk hc1; clear hr1 hc1
 have H : (if (l0.length : Int) = (l1.length : Int) then (laws_eqStringS.l0 k l0 l1 0) else (some false)) = some r := h
 clear h
 by_cases c3 : (l0.length : Int) = (l1.length : Int)
 ·rw [if_pos c3] at H
  have c3b0 : ((l0.length : Int) == (l1.length : Int)) = true := beq_iff_eq.mpr c3
  have c3b1 : ((l0.length : Int) != (l1.length : Int)) = false := bne_eq_false_iff_eq.mpr c3
  have c3b2 : (l0.length == l1.length) = true := by first | simpa using c3 | (simp at c3 ⊢; omega)
  clear c3
  have H' := Aside0.mk H
  clear H
  go_enter Try.func106, Try.ntmps106
  go_wp2
  repeat (go_quiet (fail); try go_wp2)
  go_loopg [5] k (fun kq v5 w' => ∃ (x5_1 : Int), v5 = .int .i64 x5_1 ∧ Aside0 (laws_eqStringS.l0 kq l0 l1 x5_1 = some r) ∧ Aside0 (kq ≤ k) ∧ Drawn0 w w')
  case atStart => exact ⟨(0), er, H', ⟨Nat.le_refl _⟩, drw⟩
  case round =>
   clear H'
   (try clear c1); (try clear c3b0); (try clear c3b1); (try clear c3b2)
   obtain ⟨x5_1, rfl, HA, HK1, ⟨m1, rfl⟩⟩ := hrel
   cases gk with
   | zero => exact absurd HA.out (by simp [laws_eqStringS.l0])
   | succ k1 =>
    have H := HA.out; clear HA
    simp only [laws_eqStringS.l0] at H
    by_cases c4 : x5_1 < (l0.length : Int)
    ·rw [if_pos c4] at H
     have c4b0 : decide (x5_1 < (l0.length : Int)) = true := decide_eq_true c4
     clear c4; replace H := ifS H; obtain ⟨c5, H⟩ := H; have c5b0 := decide_eq_true c5; clear c5; replace H := ifS H; obtain ⟨c6, H⟩ := H; have c6b0 := decide_eq_true c6; clear c6
     by_cases c7 : (rdOf ByteArray.empty l0 x5_1).toList = (rdOf ByteArray.empty l1 x5_1).toList
     ·rw [if_pos c7] at H
      have c7b0 : ((rdOf ByteArray.empty l0 x5_1).toList == (rdOf ByteArray.empty l1 x5_1).toList) = true := beq_iff_eq.mpr c7
      have c7b1 : ((rdOf ByteArray.empty l0 x5_1).toList != (rdOf ByteArray.empty l1 x5_1).toList) = false := bne_eq_false_iff_eq.mpr c7
      clear c7
      have H' := Aside0.mk H
      clear H
      have p435 : 0 ≤ (x5_1 : Int) := da
      have q435 : x5_1 < (l0.length : Int) := da
      obtain ⟨ad435, e435, hx435_0⟩ := Kd.at_string HR0.out x5_1 p435 q435
      cases e435
      replace p435 := eq_true p435; replace q435 := eq_true q435
      have p436 : 0 ≤ (x5_1 : Int) := da
      have q436 : x5_1 < (l1.length : Int) := da
      obtain ⟨ad436, e436, hx436_0⟩ := Kd.at_string HR1.out x5_1 p436 q436
      cases e436
      replace p436 := eq_true p436; replace q436 := eq_true q436; go_wp2
      repeat (go_quiet (fail); try go_wp2)
      go_roundg k1
      case measure => have := HK1.out; omega
      case rel => exact ⟨(wrap64 (x5_1 + 1)), er, H', ⟨by have := HK1.out; omega⟩, drw⟩
     ·rw [if_neg c7] at H
      have c7b0 : ((rdOf ByteArray.empty l0 x5_1).toList == (rdOf ByteArray.empty l1 x5_1).toList) = false := beq_eq_false_iff_ne.mpr c7
      have c7b1 : ((rdOf ByteArray.empty l0 x5_1).toList != (rdOf ByteArray.empty l1 x5_1).toList) = true := bne_iff_ne.mpr c7
      obtain rfl := Option.some.inj H
      have p435 : 0 ≤ (x5_1 : Int) := da
      have q435 : x5_1 < (l0.length : Int) := da
      obtain ⟨ad435, e435, hx435_0⟩ := Kd.at_string HR0.out x5_1 p435 q435
      cases e435
      replace p435 := eq_true p435; replace q435 := eq_true q435
      have p436 : 0 ≤ (x5_1 : Int) := da
      have q436 : x5_1 < (l1.length : Int) := da
      obtain ⟨ad436, e436, hx436_0⟩ := Kd.at_string HR1.out x5_1 p436 q436
      cases e436
      replace p436 := eq_true p436; replace q436 := eq_true q436; go_wp2
      repeat (go_quiet (fail); try go_wp2)
      go_ret
      exact ⟨er, drw⟩
    ·rw [if_neg c4] at H
     have c4b0 : decide (x5_1 < (l0.length : Int)) = false := decide_eq_false c4
     clear c4
     obtain rfl := Option.some.inj H
     go_wp2
     repeat (go_quiet (fail); try go_wp2)
     go_ret
     exact ⟨er, drw⟩
 ·rw [if_neg c3] at H
  have c3b0 : ((l0.length : Int) == (l1.length : Int)) = false := beq_eq_false_iff_ne.mpr c3
  have c3b1 : ((l0.length : Int) != (l1.length : Int)) = true := bne_iff_ne.mpr c3
  have c3b2 : (l0.length == l1.length) = false := by first | simpa using c3 | (simp at c3 ⊢; omega)
  obtain rfl := Option.some.inj H
  go_enter Try.func106, Try.ntmps106
  go_wp2
  repeat (go_quiet (fail); try go_wp2)
  go_ret
  exact ⟨er, drw⟩

/-! ### laws_eqStringSS: function 24 -/
def laws_eqStringSS.l0 : Nat → List (List ByteArray) → List (List ByteArray) → Int → Option (Bool)
  | 0, _, _, _ => none
  | k + 1, x0, x1, x5 => if x5 < (x0.length : Int) then (if 0 ≤ x5 then (if x5 < (x1.length : Int) then ((laws_eqStringS.f k (rd_L1 x0 x5) (rd_L1 x1 x5)).bind fun t439 => (if t439 = true then (laws_eqStringSS.l0 k x0 x1 (wrap64 (x5 + 1))) else (some false))) else (none)) else (none)) else (some true)
def laws_eqStringSS.f (k : Nat) (l0 : List (List ByteArray)) (l1 : List (List ByteArray)) : Option (Bool) := if (l0.length : Int) = (l1.length : Int) then (laws_eqStringSS.l0 k l0 l1 0) else (some false)
theorem laws_eqStringSS.mono_l : ∀ k, (∀ y0 y1 y2, LeO (laws_eqStringSS.l0 k y0 y1 y2) (laws_eqStringSS.l0 (k + 1) y0 y1 y2))
 | 0 => fun _ _ _ r h => by simp [laws_eqStringSS.l0] at h
 | k + 1 => by
  have ih0 := laws_eqStringSS.mono_l k
  ·intro y0 y1 y2
   unfold laws_eqStringSS.l0
   repeat' (first | (with_reducible first | exact ih0 _ _ _ | exact laws_eqStringS.mono _ _ _ | exact LeO.refl _ | exact LeO.none _ | refine LeO.ite ?_ ?_ | refine LeO.bind ?_ (fun _ => ?_)) | exact ih0 _ _ _ | exact laws_eqStringS.mono _ _ _ | exact LeO.none _ | refine LeO.ite ?_ ?_ | refine LeO.bind ?_ (fun _ => ?_))
theorem laws_eqStringSS.mono : ∀ a0 a1 k, LeO (laws_eqStringSS.f k a0 a1) (laws_eqStringSS.f (k + 1) a0 a1) := by
 intro a0 a1 k
 have ih0 := laws_eqStringSS.mono_l k
 unfold laws_eqStringSS.f
 repeat' (first | (with_reducible first | exact ih0 _ _ _ | exact laws_eqStringS.mono _ _ _ | exact LeO.refl _ | exact LeO.none _ | refine LeO.ite ?_ ?_ | refine LeO.bind ?_ (fun _ => ?_)) | exact ih0 _ _ _ | exact laws_eqStringS.mono _ _ _ | exact LeO.none _ | refine LeO.ite ?_ ?_ | refine LeO.bind ?_ (fun _ => ?_))
set_option maxHeartbeats 8000000 in
set_option maxRecDepth 100000 in
theorem laws_eqStringSS.calls (k : Nat) (A0 : Option Addr) (c0 : Nat) (l0 : List (List ByteArray)) (A1 : Option Addr) (c1 : Nat) (l1 : List (List ByteArray)) (r : Bool) (w : World) (hr0 : Kd.C (Kd.slice 9 Kd.string) w A0 l0.length l0) (hc0 : l0.length ≤ c0) (hr1 : Kd.C (Kd.slice 9 Kd.string) w A1 l1.length l1) (hc1 : l1.length ≤ c1) (h : laws_eqStringSS.f k l0 l1 = some r) :
  Calls Try.prog 24 #[.slice A0 l0.length c0, .slice A1 l1.length c1] w fun e w' => e = .returned (.bool r) ∧ Drawn0 w w' := by
 have HR0 := Aside0.mk hr0; have HC0 := Aside0.mk hc0; clear hr0 hc0; have HR1 := Aside0.mk hr1; have HC1 := Aside0.mk hc1; clear hr1 hc1
 have H : (if (l0.length : Int) = (l1.length : Int) then (laws_eqStringSS.l0 k l0 l1 0) else (some false)) = some r := h
 clear h
 by_cases c3 : (l0.length : Int) = (l1.length : Int)
 ·rw [if_pos c3] at H
  have c3b0 : ((l0.length : Int) == (l1.length : Int)) = true := beq_iff_eq.mpr c3
  have c3b1 : ((l0.length : Int) != (l1.length : Int)) = false := bne_eq_false_iff_eq.mpr c3
  have c3b2 : (l0.length == l1.length) = true := by first | simpa using c3 | (simp at c3 ⊢; omega)
  clear c3
  have H' := Aside0.mk H
  clear H
  go_enter Try.func24, Try.ntmps24
  go_wp2
  repeat (go_quiet (fail); try go_wp2)
  go_loopg [5] k (fun kq v5 w' => ∃ (x5_1 : Int), v5 = .int .i64 x5_1 ∧ Aside0 (laws_eqStringSS.l0 kq l0 l1 x5_1 = some r) ∧ Aside0 (kq ≤ k) ∧ Drawn0 w w')
  case atStart => exact ⟨(0), er, H', ⟨Nat.le_refl _⟩, drw⟩
  case round =>
   clear H'
   (try clear c1); (try clear c3b0); (try clear c3b1); (try clear c3b2)
   obtain ⟨x5_1, rfl, HA, HK1, ⟨m1, rfl⟩⟩ := hrel
   cases gk with
   | zero => exact absurd HA.out (by simp [laws_eqStringSS.l0])
   | succ k1 =>
    have H := HA.out; clear HA
    simp only [laws_eqStringSS.l0] at H
    by_cases c4 : x5_1 < (l0.length : Int)
    ·rw [if_pos c4] at H
     have c4b0 : decide (x5_1 < (l0.length : Int)) = true := decide_eq_true c4
     clear c4; replace H := ifS H; obtain ⟨c5, H⟩ := H; have c5b0 := decide_eq_true c5; clear c5; replace H := ifS H; obtain ⟨c6, H⟩ := H; have c6b0 := decide_eq_true c6; clear c6; replace H := bS H; obtain ⟨t439, A7, H⟩ := H
     replace H : (if t439 = true then (laws_eqStringSS.l0 k1 l0 l1 (wrap64 (x5_1 + 1))) else (some false)) = some r := H
     by_cases c8 : t439 = true
     ·subst c8
      have H1 : (laws_eqStringSS.l0 k1 l0 l1 (wrap64 (x5_1 + 1))) = some r := by rw [if_pos rfl] at H; exact H
      clear H
      have H := H1
      clear H1
      have H' := Aside0.mk H
      clear H
      have p437 : 0 ≤ (x5_1 : Int) := da
      have q437 : x5_1 < (l0.length : Int) := da
      obtain ⟨ad437, A437_0, c437_0, e437, hx437_0, hl437_0, hi437_0⟩ := at_L1 HR0.out x5_1 p437 q437
      cases e437
      have HR437_0 := Aside0.mk hi437_0; have HC437_0 := Aside0.mk hl437_0; clear hi437_0 hl437_0; replace p437 := eq_true p437; replace q437 := eq_true q437
      have p438 : 0 ≤ (x5_1 : Int) := da
      have q438 : x5_1 < (l1.length : Int) := da
      obtain ⟨ad438, A438_0, c438_0, e438, hx438_0, hl438_0, hi438_0⟩ := at_L1 HR1.out x5_1 p438 q438
      cases e438
      have HR438_0 := Aside0.mk hi438_0; have HC438_0 := Aside0.mk hl438_0; clear hi438_0 hl438_0; replace p438 := eq_true p438; replace q438 := eq_true q438
      go_wp2_with (first | (go_at_call 106; (with_reducible refine (laws_eqStringS.calls k1 _ _ (rd_L1 l0 x5_1) _ _ (rd_L1 l1 x5_1) true _ ?side1 ?side2 ?side3 ?side4 A7.out).mono ?_); (case side1 => exact cd HR437_0.out); (case side2 => exact HC437_0.out); (case side3 => exact cd HR438_0.out); (case side4 => exact HC438_0.out); rintro e w' ⟨rfl, ⟨nd, rfl⟩⟩; (try first | exact ⟨rfl, _, World.drewN_drewN _ _ _⟩ | exact ⟨rfl, _, Eq.trans (World.drewN_drewN _ _ _) (congrArg (World.drewN _) (Nat.add_assoc _ _ _))⟩)))
      repeat (go_quiet (first | (go_at_call 106; (with_reducible refine (laws_eqStringS.calls k1 _ _ (rd_L1 l0 x5_1) _ _ (rd_L1 l1 x5_1) true _ ?side1 ?side2 ?side3 ?side4 A7.out).mono ?_); (case side1 => exact cd HR437_0.out); (case side2 => exact HC437_0.out); (case side3 => exact cd HR438_0.out); (case side4 => exact HC438_0.out); rintro e w' ⟨rfl, ⟨nd, rfl⟩⟩; (try first | exact ⟨rfl, _, World.drewN_drewN _ _ _⟩ | exact ⟨rfl, _, Eq.trans (World.drewN_drewN _ _ _) (congrArg (World.drewN _) (Nat.add_assoc _ _ _))⟩))); try go_wp2_with (first | (go_at_call 106; (with_reducible refine (laws_eqStringS.calls k1 _ _ (rd_L1 l0 x5_1) _ _ (rd_L1 l1 x5_1) true _ ?side1 ?side2 ?side3 ?side4 A7.out).mono ?_); (case side1 => exact cd HR437_0.out); (case side2 => exact HC437_0.out); (case side3 => exact cd HR438_0.out); (case side4 => exact HC438_0.out); rintro e w' ⟨rfl, ⟨nd, rfl⟩⟩; (try first | exact ⟨rfl, _, World.drewN_drewN _ _ _⟩ | exact ⟨rfl, _, Eq.trans (World.drewN_drewN _ _ _) (congrArg (World.drewN _) (Nat.add_assoc _ _ _))⟩))))
      go_roundg k1
      case measure => have := HK1.out; omega
      case rel => exact ⟨(wrap64 (x5_1 + 1)), er, H', ⟨by have := HK1.out; omega⟩, drw⟩
     ·replace c8 := Bool.eq_false_iff.mpr c8
      subst c8
      have H1 : (some false) = some r := by rw [if_neg (show ¬ (false = true) by decide)] at H; exact H
      clear H
      have H := H1
      clear H1
      obtain rfl := Option.some.inj H
      have p437 : 0 ≤ (x5_1 : Int) := da
      have q437 : x5_1 < (l0.length : Int) := da
      obtain ⟨ad437, A437_0, c437_0, e437, hx437_0, hl437_0, hi437_0⟩ := at_L1 HR0.out x5_1 p437 q437
      cases e437
      have HR437_0 := Aside0.mk hi437_0; have HC437_0 := Aside0.mk hl437_0; clear hi437_0 hl437_0; replace p437 := eq_true p437; replace q437 := eq_true q437
      have p438 : 0 ≤ (x5_1 : Int) := da
      have q438 : x5_1 < (l1.length : Int) := da
      obtain ⟨ad438, A438_0, c438_0, e438, hx438_0, hl438_0, hi438_0⟩ := at_L1 HR1.out x5_1 p438 q438
      cases e438
      have HR438_0 := Aside0.mk hi438_0; have HC438_0 := Aside0.mk hl438_0; clear hi438_0 hl438_0; replace p438 := eq_true p438; replace q438 := eq_true q438
      go_wp2_with (first | (go_at_call 106; (with_reducible refine (laws_eqStringS.calls k1 _ _ (rd_L1 l0 x5_1) _ _ (rd_L1 l1 x5_1) false _ ?side1 ?side2 ?side3 ?side4 A7.out).mono ?_); (case side1 => exact cd HR437_0.out); (case side2 => exact HC437_0.out); (case side3 => exact cd HR438_0.out); (case side4 => exact HC438_0.out); rintro e w' ⟨rfl, ⟨nd, rfl⟩⟩; (try first | exact ⟨rfl, _, World.drewN_drewN _ _ _⟩ | exact ⟨rfl, _, Eq.trans (World.drewN_drewN _ _ _) (congrArg (World.drewN _) (Nat.add_assoc _ _ _))⟩)))
      repeat (go_quiet (first | (go_at_call 106; (with_reducible refine (laws_eqStringS.calls k1 _ _ (rd_L1 l0 x5_1) _ _ (rd_L1 l1 x5_1) false _ ?side1 ?side2 ?side3 ?side4 A7.out).mono ?_); (case side1 => exact cd HR437_0.out); (case side2 => exact HC437_0.out); (case side3 => exact cd HR438_0.out); (case side4 => exact HC438_0.out); rintro e w' ⟨rfl, ⟨nd, rfl⟩⟩; (try first | exact ⟨rfl, _, World.drewN_drewN _ _ _⟩ | exact ⟨rfl, _, Eq.trans (World.drewN_drewN _ _ _) (congrArg (World.drewN _) (Nat.add_assoc _ _ _))⟩))); try go_wp2_with (first | (go_at_call 106; (with_reducible refine (laws_eqStringS.calls k1 _ _ (rd_L1 l0 x5_1) _ _ (rd_L1 l1 x5_1) false _ ?side1 ?side2 ?side3 ?side4 A7.out).mono ?_); (case side1 => exact cd HR437_0.out); (case side2 => exact HC437_0.out); (case side3 => exact cd HR438_0.out); (case side4 => exact HC438_0.out); rintro e w' ⟨rfl, ⟨nd, rfl⟩⟩; (try first | exact ⟨rfl, _, World.drewN_drewN _ _ _⟩ | exact ⟨rfl, _, Eq.trans (World.drewN_drewN _ _ _) (congrArg (World.drewN _) (Nat.add_assoc _ _ _))⟩))))
      go_ret
      exact ⟨er, drw⟩
    ·rw [if_neg c4] at H
     have c4b0 : decide (x5_1 < (l0.length : Int)) = false := decide_eq_false c4
     clear c4
     obtain rfl := Option.some.inj H
     go_wp2
     repeat (go_quiet (fail); try go_wp2)
     go_ret
     exact ⟨er, drw⟩
 ·rw [if_neg c3] at H
  have c3b0 : ((l0.length : Int) == (l1.length : Int)) = false := beq_eq_false_iff_ne.mpr c3
  have c3b1 : ((l0.length : Int) != (l1.length : Int)) = true := bne_iff_ne.mpr c3
  have c3b2 : (l0.length == l1.length) = false := by first | simpa using c3 | (simp at c3 ⊢; omega)
  obtain rfl := Option.some.inj H
  go_enter Try.func24, Try.ntmps24
  go_wp2
  repeat (go_quiet (fail); try go_wp2)
  go_ret
  exact ⟨er, drw⟩

/-! ### laws_markText: function 185 -/
def laws_markText.l0 : Nat → Int → ByteArray → Option (ByteArray)
  | 0, _, _ => none
  | k + 1, x0, x3 => if x0 > 0 then ((some (([(wrap64 (48 + (Int.tmod x0 10))) % 256] : List Int) : List Int)).bind fun y440 => (if (strOfNums y440).size + x3.size ≤ 9223372036854775807 then (laws_markText.l0 k (wrap64 (Int.tdiv x0 10)) ((strOfNums y440) ++ x3)) else (none))) else (if 1 + x3.size ≤ 9223372036854775807 then (some ((⟨#[109]⟩ : ByteArray) ++ x3)) else (none))
def laws_markText.f (k : Nat) (a0 : Int) : Option (ByteArray) := if a0 ≤ 0 then (some (⟨#[109, 48]⟩ : ByteArray)) else (laws_markText.l0 k a0 (⟨#[]⟩ : ByteArray))
theorem laws_markText.mono_l : ∀ k, (∀ y0 y1, LeO (laws_markText.l0 k y0 y1) (laws_markText.l0 (k + 1) y0 y1))
 | 0 => fun _ _ r h => by simp [laws_markText.l0] at h
 | k + 1 => by
  have ih0 := laws_markText.mono_l k
  ·intro y0 y1
   unfold laws_markText.l0
   repeat' (first | (with_reducible first | exact ih0 _ _ | exact LeO.refl _ | exact LeO.none _ | refine LeO.ite ?_ ?_ | refine LeO.bind ?_ (fun _ => ?_)) | exact ih0 _ _ | exact LeO.none _ | refine LeO.ite ?_ ?_ | refine LeO.bind ?_ (fun _ => ?_))
theorem laws_markText.mono : ∀ a0 k, LeO (laws_markText.f k a0) (laws_markText.f (k + 1) a0) := by
 intro a0 k
 have ih0 := laws_markText.mono_l k
 unfold laws_markText.f
 repeat' (first | (with_reducible first | exact ih0 _ _ | exact LeO.refl _ | exact LeO.none _ | refine LeO.ite ?_ ?_ | refine LeO.bind ?_ (fun _ => ?_)) | exact ih0 _ _ | exact LeO.none _ | refine LeO.ite ?_ ?_ | refine LeO.bind ?_ (fun _ => ?_))
set_option maxHeartbeats 8000000 in
set_option maxRecDepth 100000 in
theorem laws_markText.calls (k : Nat) (a0 : Int) (r : ByteArray) (w : World) (h : laws_markText.f k a0 = some r) :
  Calls Try.prog 185 #[.int .i64 a0] w fun e w' => e = .returned (.string r) ∧ Below w.heap.size w w' := by
 have HB := Aside0.mk (Below.refl w.heap.size w)
 have H : (if a0 ≤ 0 then (some (⟨#[109, 48]⟩ : ByteArray)) else (laws_markText.l0 k a0 (⟨#[]⟩ : ByteArray))) = some r := h
 clear h
 by_cases c2 : a0 ≤ 0
 ·rw [if_pos c2] at H
  have c2b0 : decide (a0 ≤ 0) = true := decide_eq_true c2
  clear c2
  obtain rfl := Option.some.inj H
  go_enter Try.func185, Try.ntmps185
  go_wp2
  go_ret
  exact ⟨er2, belowd HB⟩
 ·rw [if_neg c2] at H
  have c2b0 : decide (a0 ≤ 0) = false := decide_eq_false c2
  clear c2
  have H' := Aside0.mk H
  clear H
  go_enter Try.func185, Try.ntmps185
  go_wp2
  go_loopg [0, 3] k (fun kq v0 v3 w' => ∃ (x0_1 : Int) (x3_1 : ByteArray), v0 = .int .i64 x0_1 ∧ v3 = .string x3_1 ∧ Aside0 (laws_markText.l0 kq x0_1 x3_1 = some r) ∧ Aside0 (kq ≤ k) ∧ Aside0 (Below w.heap.size w w'))
  case atStart => exact ⟨(a0), ((⟨#[]⟩ : ByteArray)), er, er, H', ⟨Nat.le_refl _⟩, ⟨belowd HB⟩⟩
  case round =>
   clear H'
   (try clear c2b0)
   obtain ⟨x0_1, x3_1, rfl, rfl, HA, HK1, HB⟩ := hrel
   cases gk with
   | zero => exact absurd HA.out (by simp [laws_markText.l0])
   | succ k1 =>
    have H := HA.out; clear HA
    simp only [laws_markText.l0] at H
    by_cases c3 : x0_1 > 0
    ·rw [if_pos c3] at H
     have c3b0 : decide (0 < x0_1) = true := decide_eq_true c3
     clear c3
     obtain ⟨y440, hy_⟩ : ∃ y_ : List Int, y_ = (([(wrap64 (48 + (Int.tmod x0_1 10))) % 256] : List Int)) := ⟨_, rfl⟩
     replace H : (if (strOfNums y440).size + x3_1.size ≤ 9223372036854775807 then (laws_markText.l0 k1 (wrap64 (Int.tdiv x0_1 10)) ((strOfNums y440) ++ x3_1)) else (none)) = some r := yH
     have Ny440 := ak hy_; clear hy_; replace H := ifS H; obtain ⟨c4, H⟩ := H; have c4b0 := eq_true c4
     have c4b1 : decide ((strOfNums y440).size + x3_1.size ≤ 9223372036854775807) = true := decide_eq_true c4
     try have c4b2 : (9223372036854775807 < (strOfNums y440).size + x3_1.size) = False := eq_false (Nat.not_lt.2 c4)
     have H' := Aside0.mk H
     clear H
     go_wp2_with (first | ((with_reducible refine gate_dst (N := 12) rfl ?_); refine Kd.R_lit (Kd.int .u8) _ 5 ?hg (N := 12) ?hd (xs := ([(wrap64 (48 + (Int.tmod x0_1 10))) % 256] : List Int)) (inner := [.int .u8 ((wrap64 (48 + (Int.tmod x0_1 10))) % 256)]) (ok := fun _ => True) (okp := fun _ => True) ?hr ?hp (fun _ hk => hk) trivial (Below.refl _ _) (Nat.le_refl _) (by simp) ?_; (case hd => rfl); (case hg => rfl); (case hr => first | (go_simp; done) | (go_simp; rfl)); (case hp => exact (Reps.one (show Kd.M (Kd.int .u8) _ _ _ ((wrap64 (48 + (Int.tmod x0_1 10))) % 256) [.int .u8 ((wrap64 (48 + (Int.tmod x0_1 10))) % 256)] from rfl) (Reps.none _ _))); intro v441 w5 ho6 hb hg_ hnew_; clear hg_ hnew_; (first | rw [← Ny440.out] at ho6 | (simp only [Int.reduceToNat] at ho6; rw [← Ny440.out] at ho6)); have HO442 := ak (Kd.R_lower ho6 (below_size (belowd HB))); replace HB := ak (below_step (belowd HB) hb); clear hb ho6; have hcv7 := own_string (P := Try.prog) Try.underlying41 Try.underlying5 Try.underlying9 (Kd.own_of_R HO442.out)))
     go_roundg k1
     case measure => have := HK1.out; omega
     case rel => exact ⟨(wrap64 (Int.tdiv x0_1 10)), ((strOfNums y440) ++ x3_1), er, er, H', ⟨by have := HK1.out; omega⟩, ⟨belowd HB⟩⟩
    ·rw [if_neg c3] at H
     have c3b0 : decide (0 < x0_1) = false := decide_eq_false c3
     clear c3; replace H := ifS H; obtain ⟨c8, H⟩ := H; have c8b0 := eq_true c8
     have c8b1 : decide (1 + x3_1.size ≤ 9223372036854775807) = true := decide_eq_true c8
     try have c8b2 : (9223372036854775807 < 1 + x3_1.size) = False := eq_false (Nat.not_lt.2 c8)
     obtain rfl := Option.some.inj H
     go_wp2
     go_ret
     exact ⟨er2, belowd HB⟩

/-! ### laws_markStringS: function 107 -/
def laws_markStringS.l0 : Nat → List ByteArray → Int → Int → Option (Int × List ByteArray)
  | 0, _, _, _ => none
  | k + 1, x0, x1, x5 => if x5 < (x0.length : Int) then ((laws_markText.f k x1).bind fun t443 => (if 0 ≤ x5 then (laws_markStringS.l0 k (x0.set (x5 : Int).toNat t443) (wrap64 (x1 + 1)) (wrap64 (x5 + 1))) else (none))) else (some (x1, x0))
def laws_markStringS.f (k : Nat) (l0 : List ByteArray) (a1 : Int) : Option (Int × List ByteArray) := laws_markStringS.l0 k l0 a1 0
theorem laws_markStringS.mono_l : ∀ k, (∀ y0 y1 y2, LeO (laws_markStringS.l0 k y0 y1 y2) (laws_markStringS.l0 (k + 1) y0 y1 y2))
 | 0 => fun _ _ _ r h => by simp [laws_markStringS.l0] at h
 | k + 1 => by
  have ih0 := laws_markStringS.mono_l k
  ·intro y0 y1 y2
   unfold laws_markStringS.l0
   repeat' (first | (with_reducible first | exact ih0 _ _ _ | exact laws_markText.mono _ _ | exact LeO.refl _ | exact LeO.none _ | refine LeO.ite ?_ ?_ | refine LeO.bind ?_ (fun _ => ?_)) | exact ih0 _ _ _ | exact laws_markText.mono _ _ | exact LeO.none _ | refine LeO.ite ?_ ?_ | refine LeO.bind ?_ (fun _ => ?_))
theorem laws_markStringS.mono : ∀ a0 a1 k, LeO (laws_markStringS.f k a0 a1) (laws_markStringS.f (k + 1) a0 a1) := by
 intro a0 a1 k
 have ih0 := laws_markStringS.mono_l k
 unfold laws_markStringS.f
 repeat' (first | (with_reducible first | exact ih0 _ _ _ | exact laws_markText.mono _ _ | exact LeO.refl _ | exact LeO.none _ | refine LeO.ite ?_ ?_ | refine LeO.bind ?_ (fun _ => ?_)) | exact ih0 _ _ _ | exact laws_markText.mono _ _ | exact LeO.none _ | refine LeO.ite ?_ ?_ | refine LeO.bind ?_ (fun _ => ?_))
set_option maxHeartbeats 8000000 in
set_option maxRecDepth 100000 in
theorem laws_markStringS.calls (k : Nat) (P0_ : Nat → Prop) (u9000_ : Value) (l0 : List ByteArray) (a1 : Int) (r1 : Int) (r2 : List ByteArray) (w0 w : World) (hB : Below w0.heap.size w0 w) (ho0 : Kd.R Kd.string 9 w w0.heap.size P0_ u9000_ l0) (h : laws_markStringS.f k l0 a1 = some (r1, r2)) :
  Calls Try.prog 107 #[u9000_, .int .i64 a1] w fun e w' => e = .returned (.int .i64 r1) ∧ Kd.R Kd.string 9 w' w0.heap.size (fun k_ => (P0_ k_ ∨ w.heap.size ≤ k_)) u9000_ r2 ∧ Below w0.heap.size w0 w' ∧ Kept w w' (fun k_ => P0_ k_) := by
 have HO0 := Aside0.mk (show Kd.R Kd.string 9 w w0.heap.size (fun k_ => (P0_ k_ ∨ w.heap.size ≤ k_)) u9000_ l0 from Kd.R_mono ho0 (fun k_ hk => (.inl hk)))
 have HK := Aside0.mk (Kept.refl w (fun k_ => P0_ k_))
 have HW0 := Aside0.mk hB.size
 have HB := Aside0.mk hB; clear hB
 have H : (laws_markStringS.l0 k l0 a1 0) = some (r1, r2) := h
 clear h
 have H' := Aside0.mk H
 clear H
 go_enter Try.func107, Try.ntmps107
 go_wp2
 go_loopg [1, 5] k (fun kq v1 v5 w' => ∃ (x0_1 : List ByteArray) (x1_1 : Int) (x5_1 : Int), v1 = .int .i64 x1_1 ∧ v5 = .int .i64 x5_1 ∧ Aside0 (laws_markStringS.l0 kq x0_1 x1_1 x5_1 = some (r1, r2)) ∧ Aside0 (kq ≤ k) ∧ Aside0 (Kd.R Kd.string 9 w' w0.heap.size (fun k_ => (P0_ k_ ∨ w.heap.size ≤ k_)) u9000_ x0_1) ∧ Aside0 (Kept w w' (fun k_ => P0_ k_)) ∧ Aside0 (Below w0.heap.size w0 w'))
 case atStart => exact ⟨(l0), (a1), (0), er, er, H', ⟨Nat.le_refl _⟩, ⟨rdl HO0⟩, ⟨by repeat (first | (with_reducible first | exact HK.out | apply Kept.alloc | apply Kept.drewN | apply Kept.drew) | exact HK.out)⟩, ⟨belowd HB⟩⟩
 case round =>
  clear H'
  obtain ⟨x0_1, x1_1, x5_1, rfl, rfl, HA, HK1, HO_0, HK, HB⟩ := hrel
  cases gk with
  | zero => exact absurd HA.out (by simp [laws_markStringS.l0])
  | succ k1 =>
   have H := HA.out; clear HA
   simp only [laws_markStringS.l0] at H
   by_cases c3 : x5_1 < (x0_1.length : Int)
   ·rw [if_pos c3] at H
    have c3b0 : decide (x5_1 < (x0_1.length : Int)) = true := decide_eq_true c3
    clear c3; replace H := bS H; obtain ⟨t443, A4, H⟩ := H
    replace H : (if 0 ≤ x5_1 then (laws_markStringS.l0 k1 (x0_1.set (x5_1 : Int).toNat t443) (wrap64 (x1_1 + 1)) (wrap64 (x5_1 + 1))) else (none)) = some (r1, r2) := H
    replace H := ifS H; obtain ⟨c5, H⟩ := H; have c5b0 := decide_eq_true c5; clear c5
    obtain ⟨y444, hy_⟩ : ∃ y_ : List ByteArray, y_ = (x0_1.set (x5_1 : Int).toNat t443) := ⟨_, rfl⟩
    replace H : (laws_markStringS.l0 k1 y444 (wrap64 (x1_1 + 1)) (wrap64 (x5_1 + 1))) = some (r1, r2) := yH
    have Ny444 := ak hy_; clear hy_
    have H' := Aside0.mk H
    clear H
    obtain ⟨Ao7, co7, eo7⟩ := Kd.R_slice HO_0.out
    subst eo7
    go_wp2_with (first | ((with_reducible refine gate_callee (f := 185) rfl ?_); refine goesLa (some 15) rfl Try.func185 #[.int .i64 x1_1] rfl ?_; (with_reducible refine (laws_markText.calls k1 x1_1 t443 _ A4.out).mono ?_); rintro e w8 ⟨rfl, hb⟩; refine ⟨_, rfl, ?_⟩; replace HO_0 := ak (Kd.R_below (rdl HO_0) hb); replace HK := ak (Kept.below (S := (fun k_ => P0_ k_)) (by repeat (first | (with_reducible first | exact HK.out | apply Kept.alloc | apply Kept.drewN | apply Kept.drew) | exact HK.out)) hb); replace HB := ak (below_step (belowd HB) hb); (try clear hb); have p6 : 0 ≤ (x5_1 : Int) := da; have q6 : (x5_1 : Int) < ((x0_1.length : Int) : Int) := da; obtain ⟨go6, co6, eo6, gb6, gl6, cl6, HG6⟩ := Kd.R_form HO_0.out (by omega); (first | cases eo6 | (injection eo6 with ea_ en_ ec_; (first | subst ea_ | (injection ea_ with ea_; subst ea_)); subst ec_; clear en_)); have GB6 := Aside0.mk gb6; have GG6 := Aside0.mk HG6; clear gb6 gl6 HG6; have HMgo6 := Aside0.mk (show (P0_ go6 ∨ w.heap.size ≤ go6) from (HO_0.out.1 _ rfl)); obtain ⟨hx6_0, hf6_0⟩ := Kd.R_celln (⟨#[]⟩ : ByteArray) HO_0.out (x5_1 : Int) p6 q6; replace p6 := eq_true p6; replace q6 := eq_true q6; obtain ⟨hy9_, hz9_⟩ := Kd.R_celln (⟨#[]⟩ : ByteArray) HO_0.out (x5_1 : Int) (da) (da); have HP9 := Kd.R_putg HO_0.out (x5_1 : Int) t443) | ((with_reducible refine gate_store (t := 9) (p := 16) rfl ?_); refine store_event (t := 9) (p := 16) (v := ?vo_w10) (w1 := (w8.setCell ⟨go6, (x5_1 : Int).toNat, none⟩ (.string t443))) ?hg ?ho ?hn ?hr ?_; (case ho => rfl); (case hg => rfl); (case hn => rfl); (case hr => first | (go_simp; done) | (go_simp; rfl)); intro w10 hw; have hg : w8.grownBy w10 (some go6) := (by rw [hw]; exact HP9.2); have hp_ : Kd.R Kd.string 9 w10 w0.heap.size (fun k_ => (P0_ k_ ∨ w.heap.size ≤ k_)) (.slice (some ⟨go6, 0, none⟩) x0_1.length co7) y444 := (by rw [hw, Ny444.out]; exact HP9.1); clear HP9; replace HB := ak ((by rw [hw]; exact below_set (HB.out) GB6.out : Below w0.heap.size w0 w10)); replace HK := ak (Kept.of_grown (S := (fun k_ => P0_ k_)) hg (by repeat (first | (with_reducible first | exact HK.out | apply Kept.alloc | apply Kept.drewN | apply Kept.drew) | exact HK.out)) (fun k_ e_ => (HO_0.out.1 k_ e_))); replace HO_0 := ak (hp_); clear hg hw hp_))
    go_roundg k1
    case measure => have := HK1.out; omega
    case rel => exact ⟨(y444), (wrap64 (x1_1 + 1)), (wrap64 (x5_1 + 1)), er, er, H', ⟨by have := HK1.out; omega⟩, ⟨rdl HO_0⟩, ⟨by repeat (first | (with_reducible first | exact HK.out | apply Kept.alloc | apply Kept.drewN | apply Kept.drew) | exact HK.out)⟩, ⟨belowd HB⟩⟩
   ·rw [if_neg c3] at H
    have c3b0 : decide (x5_1 < (x0_1.length : Int)) = false := decide_eq_false c3
    clear c3
    simp only [Option.some.injEq, Prod.mk.injEq] at H
    obtain ⟨rfl, rfl⟩ := H
    obtain ⟨Ao11, co11, eo11⟩ := Kd.R_slice HO_0.out
    subst eo11; go_wp2
    go_ret
    exact ⟨er2, by (with_reducible repeat (first | apply Kd.R_alloc | apply Kd.R_drewN | apply Kd.R_drew)); exact HO_0.out, belowd HB, by repeat (first | (with_reducible first | exact HK.out | apply Kept.alloc | apply Kept.drewN | apply Kept.drew) | exact HK.out)⟩

/-! ### laws_markStringSS: function 25 -/
def laws_markStringSS.rd (xs : List (List ByteArray)) (i : Int) : List ByteArray := xs.getD i.toNat ([] : List ByteArray)
def laws_markStringSS.l0 : Nat → List (List ByteArray) → Int → Int → Option (Int × (List (List ByteArray)))
  | 0, _, _, _ => none
  | k + 1, x0, x1, x5 => if x5 < (x0.length : Int) then (if 0 ≤ x5 then ((laws_markStringS.f k (laws_markStringSS.rd x0 x5) x1).bind fun bt => (laws_markStringSS.l0 k (x0.set (x5 : Int).toNat bt.2) bt.1 (wrap64 (x5 + 1)))) else (none)) else (some (x1, x0))
def laws_markStringSS.f (k : Nat) (l0 : List (List ByteArray)) (a1 : Int) : Option (Int × (List (List ByteArray))) := laws_markStringSS.l0 k l0 a1 0
theorem laws_markStringSS.mono_l : ∀ k, (∀ y0 y1 y2, LeO (laws_markStringSS.l0 k y0 y1 y2) (laws_markStringSS.l0 (k + 1) y0 y1 y2))
 | 0 => fun _ _ _ r h => by simp [laws_markStringSS.l0] at h
 | k + 1 => by
  have ih0 := laws_markStringSS.mono_l k
  ·intro y0 y1 y2
   unfold laws_markStringSS.l0
   repeat' (first | (with_reducible first | exact ih0 _ _ _ | exact laws_markStringS.mono _ _ _ | exact LeO.refl _ | exact LeO.none _ | refine LeO.ite ?_ ?_ | refine LeO.bind ?_ (fun _ => ?_)) | exact ih0 _ _ _ | exact laws_markStringS.mono _ _ _ | exact LeO.none _)
theorem laws_markStringSS.mono : ∀ a0 a1 k, LeO (laws_markStringSS.f k a0 a1) (laws_markStringSS.f (k + 1) a0 a1) := fun a0 a1 k => laws_markStringSS.mono_l k a0 a1 0
set_option maxHeartbeats 8000000 in
set_option maxRecDepth 100000 in
theorem laws_markStringSS.calls (k : Nat) (P0_ : Nat → Prop) (u9000_ : Value) (l0 : List (List ByteArray)) (a1 : Int) (r1 : Int) (r2 : List (List ByteArray)) (w0 w : World) (hB : Below w0.heap.size w0 w) (ho0 : Kd.S (Kd.slice 9 Kd.string) 22 w w0.heap.size P0_ u9000_ l0) (h : laws_markStringSS.f k l0 a1 = some (r1, r2)) :
  Calls Try.prog 25 #[u9000_, .int .i64 a1] w fun e w' => e = .returned (.int .i64 r1) ∧ Kd.S (Kd.slice 9 Kd.string) 22 w' w0.heap.size P0_ u9000_ r2 ∧ Below w0.heap.size w0 w' ∧ Kept w w' P0_ := by
 have HO0 := Aside0.mk ho0
 have HK := Aside0.mk (Kept.refl w P0_)
 have HW0 := Aside0.mk hB.size
 have HB := Aside0.mk hB; clear hB
 have H : (laws_markStringSS.l0 k l0 a1 0) = some (r1, r2) := h
 clear h
 have H' := Aside0.mk H
 clear H
 go_enter Try.func25, Try.ntmps25
 go_wp2
 go_loopg [1, 5] k (fun kq v1 v5 w' => ∃ (x0_1 : List (List ByteArray)) (x1_1 : Int) (x5_1 : Int), v1 = .int .i64 x1_1 ∧ v5 = .int .i64 x5_1 ∧ Aside0 (laws_markStringSS.l0 kq x0_1 x1_1 x5_1 = some (r1, r2)) ∧ Aside0 (kq ≤ k) ∧ Aside0 (Kd.S (Kd.slice 9 Kd.string) 22 w' w0.heap.size P0_ u9000_ x0_1) ∧ Aside0 (Kept w w' P0_) ∧ Aside0 (Below w0.heap.size w0 w'))
 case atStart => exact ⟨(l0), (a1), (0), er, er, H', ⟨Nat.le_refl _⟩, ⟨sd HO0⟩, ⟨by repeat (first | (with_reducible first | exact HK.out | apply Kept.alloc | apply Kept.drewN | apply Kept.drew) | exact HK.out)⟩, ⟨belowd HB⟩⟩
 case round =>
  clear H'
  obtain ⟨x0_1, x1_1, x5_1, rfl, rfl, HA, HK1, HO_0, HK, HB⟩ := hrel
  cases gk with
  | zero => exact absurd HA.out (by simp [laws_markStringSS.l0])
  | succ k1 =>
   have H := HA.out; clear HA
   simp only [laws_markStringSS.l0] at H
   obtain ⟨Ao6, co6, eo6⟩ := Kd.S_slice HO_0.out
   subst eo6
   by_cases c3 : x5_1 < (x0_1.length : Int)
   ·rw [if_pos c3] at H
    have c3b0 : decide (x5_1 < (x0_1.length : Int)) = true := decide_eq_true c3
    replace H := ifS H; obtain ⟨c4, H⟩ := H; have c4b0 := decide_eq_true c4; replace H := bS H; obtain ⟨⟨t1, t2⟩, A6, H⟩ := H
    replace H : (laws_markStringSS.l0 k1 (x0_1.set (x5_1 : Int).toNat t2) t1 (wrap64 (x5_1 + 1))) = some (r1, r2) := H
    have H' := Aside0.mk H
    clear H
    obtain ⟨go5, co5, eo5, gb5, gl5, cl5, HG5⟩ := Kd.S_form HO_0.out (by omega)
    (first | cases eo5 | (injection eo5 with ea_ en_ ec_; (first | subst ea_ | (injection ea_ with ea_; subst ea_)); subst ec_; clear en_))
    obtain ⟨oki5, v5e, hR5, hx5, hok5, hback5⟩ := S_borrowK HO_0.out (x5_1 : Int) c4 c3
    replace hR5 : Kd.R Kd.string 9 wr w0.heap.size oki5 v5e (laws_markStringSS.rd x0_1 x5_1) := hR5
    obtain ⟨A5, c5, e5, _, _⟩ := Kd.R_reads hR5
    subst e5
    replace hx5 : wr.cell? ⟨go5, (x5_1 : Int).toNat, none⟩ = some (.slice A5 (laws_markStringSS.rd x0_1 x5_1).length c5) := by rw [add_at, Nat.zero_add] at hx5; exact hx5
    have HR5 := Aside0.mk hR5; have HOK5 := Aside0.mk hok5
    have HBK5 := Aside0.mk @hback5
    clear gb5 gl5 HG5 hR5 hok5 hback5; replace c4 := eq_true c4; replace c3 := eq_true c3
    go_wp2_with (first | ((with_reducible refine gate_callee (f := 107) rfl ?_); refine goesLa (some 17) rfl Try.func107 #[.slice A5 (laws_markStringSS.rd x0_1 x5_1).length c5, .int .i64 x1_1] rfl ?_; refine (laws_markStringS.calls k1 oki5 _ (laws_markStringSS.rd x0_1 x5_1) x1_1 t1 t2 w0 _ HB.out HR5.out A6.out).mono ?_; rintro e w9 ⟨rfl, ho9, hb9, hk9⟩; refine ⟨_, rfl, ?_⟩; have n0_ := Aside0.mk (HBK5.out hk9 (Kd.R_reok rfl ho9 (fun k_ e_ => HR5.out.1 k_ e_))); have n1_ := Aside0.mk hb9; have n2_ := Aside0.mk (Kept.then_ HK.out hk9 (fun k_ hk => Or.inl (HOK5.out k_ hk))); clear HO_0 HB HK; have HO_0 := n0_; have HB := n1_; have HK := n2_; clear n0_ n1_ n2_ ho9 hb9 hk9))
    go_roundg k1
    case measure => have := HK1.out; omega
    case rel => exact ⟨(x0_1.set (x5_1 : Int).toNat t2), (t1), (wrap64 (x5_1 + 1)), er, er, H', ⟨by have := HK1.out; omega⟩, ⟨sd HO_0⟩, ⟨by repeat (first | (with_reducible first | exact HK.out | apply Kept.alloc | apply Kept.drewN | apply Kept.drew) | exact HK.out)⟩, ⟨belowd HB⟩⟩
   ·rw [if_neg c3] at H
    have c3b0 : decide (x5_1 < (x0_1.length : Int)) = false := decide_eq_false c3
    clear c3
    simp only [Option.some.injEq, Prod.mk.injEq] at H
    obtain ⟨rfl, rfl⟩ := H; go_wp2
    go_ret
    exact ⟨er2, by (with_reducible repeat (first | apply Kd.S_alloc | apply Kd.S_drewN | apply Kd.S_drew)); exact HO_0.out, belowd HB, by repeat (first | (with_reducible first | exact HK.out | apply Kept.alloc | apply Kept.drewN | apply Kept.drew) | exact HK.out)⟩

end Go.Proofs.Ytkgogglnipdcfaa.QFnExactPlayMix
