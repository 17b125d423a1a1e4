-- printed by this session's own program (wip/tools/pp.py: the kit's print.py with changes); Lean checks it
import Derived.Test.YtkgogglnipdcfaaQFnExactPlayMixx0
import Derived.Test.YtkgogglnipdcfaaQFnExactPlayMixx1
namespace Go.Proofs.Ytkgogglnipdcfaa.QFnExactPlayMix
open Go.RowKit Go.Proofs.YtkgogglnipdcfaaW.PrintWords Go.Proofs.YtkgogglnipdcfaaW.PrintLast Go.Proofs.YtkgogglnipdcfaaW.PrintMore
attribute [local go_sem] max2_int min2_int max_two min_two max_three min_three max_four min_four strLss strGtr strLeq strGeq   -- for this text's walks alone
set_option linter.unusedVariables false
set_option linter.unusedSimpArgs false

/-! ### spec_l8Put: function 96 -/
def spec_l8Put.j0 : Nat → ByteArray → List Int → Bool → List ByteArray → Int → Int → Int → Option (List ByteArray × Int × Int × Int × List Int × Int)
  | 0, _, _, _, _, _, _, _ => none
  | k + 1, x1, x7, x21, x177000, x177001, x177002, x177003 => if x21 = true then (some (x177000, x177001, x177002, x177003, x7, 2)) else ((spec_l8Place.f k x177000 x1).bind fun t180 => ((spec_l8Tag.f k x1).bind fun t183 => ((spec_l1Put.f k x7 t183).bind fun t184 => (some (t180, x177001, x177002, x177003, t184, 0)))))
def spec_l8Put.f (k : Nat) (l0_0 : List ByteArray) (a0_1 : Int) (a0_2 : Int) (a0_3 : Int) (l0_4 : List Int) (a1 : ByteArray) : Option (List ByteArray × Int × Int × Int × List Int × Int) := (spec_l8Tag.f k a1).bind fun t178 => ((spec_l1Has.f k l0_4 t178).bind fun t179 => (if t179 = true then (some (l0_0, a0_1, a0_2, a0_3, l0_4, 1)) else (if (l0_0.length : Int) = 12 then (spec_l8Put.j0 k a1 l0_4 true l0_0 a0_1 a0_2 a0_3) else (spec_l8Put.j0 k a1 l0_4 ((l0_4.length : Int) == 100) l0_0 a0_1 a0_2 a0_3))))
theorem spec_l8Put.mono_l : ∀ k, (∀ y0 y1 y2 y3 y4 y5 y6, LeO (spec_l8Put.j0 k y0 y1 y2 y3 y4 y5 y6) (spec_l8Put.j0 (k + 1) y0 y1 y2 y3 y4 y5 y6))
 | 0 => fun _ _ _ _ _ _ _ r h => by simp [spec_l8Put.j0] at h
 | k + 1 => by
  have ih0 := spec_l8Put.mono_l k
  ·intro y0 y1 y2 y3 y4 y5 y6
   unfold spec_l8Put.j0
   repeat' (first | (with_reducible first | exact ih0 _ _ _ _ _ _ _ | exact spec_l1Has.mono _ _ _ | exact spec_l1Put.mono _ _ _ | exact spec_l8Place.mono _ _ _ | exact spec_l8Tag.mono _ _ | exact LeO.refl _ | exact LeO.none _ | refine LeO.ite ?_ ?_ | refine LeO.bind ?_ (fun _ => ?_)) | exact ih0 _ _ _ _ _ _ _ | exact spec_l1Has.mono _ _ _ | exact spec_l1Put.mono _ _ _ | exact spec_l8Place.mono _ _ _ | exact spec_l8Tag.mono _ _ | exact LeO.none _ | refine LeO.ite ?_ ?_ | refine LeO.bind ?_ (fun _ => ?_))
theorem spec_l8Put.mono : ∀ a0 a1 a2 a3 a4 a5 k, LeO (spec_l8Put.f k a0 a1 a2 a3 a4 a5) (spec_l8Put.f (k + 1) a0 a1 a2 a3 a4 a5) := by
 intro a0 a1 a2 a3 a4 a5 k
 have ih0 := spec_l8Put.mono_l k
 unfold spec_l8Put.f
 repeat' (first | (with_reducible first | exact ih0 _ _ _ _ _ _ _ | exact spec_l1Has.mono _ _ _ | exact spec_l1Put.mono _ _ _ | exact spec_l8Place.mono _ _ _ | exact spec_l8Tag.mono _ _ | exact LeO.refl _ | exact LeO.none _ | refine LeO.ite ?_ ?_ | refine LeO.bind ?_ (fun _ => ?_)) | exact ih0 _ _ _ _ _ _ _ | exact spec_l1Has.mono _ _ _ | exact spec_l1Put.mono _ _ _ | exact spec_l8Place.mono _ _ _ | exact spec_l8Tag.mono _ _ | exact LeO.none _ | refine LeO.ite ?_ ?_ | refine LeO.bind ?_ (fun _ => ?_))
set_option maxHeartbeats 8000000 in
set_option maxRecDepth 100000 in
theorem spec_l8Put.calls (k : Nat) (P0_0_ : Nat → Prop) (u9000_ : Value) (l0_0 : List ByteArray) (a0_1 : Int) (a0_2 : Int) (a0_3 : Int) (P0_4_ : Nat → Prop) (u9001_ : Value) (l0_4 : List Int) (a1 : ByteArray) (r1 : List ByteArray) (r2 : Int) (r3 : Int) (r4 : Int) (r5 : List Int) (r6 : Int) (w0 w : World) (hB : Below w0.heap.size w0 w) (ho0_0 : Kd.R Kd.string 9 w w0.heap.size P0_0_ u9000_ l0_0) (ho0_4 : Kd.R (Kd.int .i64) 3 w w0.heap.size P0_4_ u9001_ l0_4) (h : spec_l8Put.f k l0_0 a0_1 a0_2 a0_3 l0_4 a1 = some (r1, r2, r3, r4, r5, r6)) :
  Calls Try.prog 96 #[.agg #[u9000_, .int .i64 a0_1, .int .i64 a0_2, .int .i64 a0_3, u9001_], .string a1] w fun e w' => ∃ v0_ v4_ : Value, e = .returned (.tuple #[.agg #[v0_, .int .i64 r2, .int .i64 r3, .int .i64 r4, v4_], .int .i64 r6]) ∧ Kd.R Kd.string 9 w' w0.heap.size (fun k_ => ((P0_0_ k_ ∨ P0_4_ k_) ∨ w.heap.size ≤ k_)) v0_ r1 ∧ Kd.R (Kd.int .i64) 3 w' w0.heap.size (fun k_ => ((P0_0_ k_ ∨ P0_4_ k_) ∨ w.heap.size ≤ k_)) v4_ r5 ∧ Below w0.heap.size w0 w' ∧ Kept w w' (fun k_ => P0_0_ k_ ∨ P0_4_ k_) := by
 have hu27 := Try.underlying27
 have HO0_0 := Aside0.mk (show Kd.R Kd.string 9 w w0.heap.size (fun k_ => ((P0_0_ k_ ∨ P0_4_ k_) ∨ w.heap.size ≤ k_)) u9000_ l0_0 from Kd.R_mono ho0_0 (fun k_ hk => (.inl (.inl hk))))
 have HO0_4 := Aside0.mk (show Kd.R (Kd.int .i64) 3 w w0.heap.size (fun k_ => ((P0_0_ k_ ∨ P0_4_ k_) ∨ w.heap.size ≤ k_)) u9001_ l0_4 from Kd.R_mono ho0_4 (fun k_ hk => (.inl (.inr hk))))
 have HK := Aside0.mk (Kept.refl w (fun k_ => P0_0_ k_ ∨ P0_4_ k_))
 have HW0 := Aside0.mk hB.size
 have HB := Aside0.mk hB; clear hB
 have H : ((spec_l8Tag.f k a1).bind fun t178 => ((spec_l1Has.f k l0_4 t178).bind fun t179 => (if t179 = true then (some (l0_0, a0_1, a0_2, a0_3, l0_4, 1)) else (if (l0_0.length : Int) = 12 then (spec_l8Put.j0 k a1 l0_4 true l0_0 a0_1 a0_2 a0_3) else (spec_l8Put.j0 k a1 l0_4 ((l0_4.length : Int) == 100) l0_0 a0_1 a0_2 a0_3))))) = some (r1, r2, r3, r4, r5, r6) := h
 clear h; replace H := bS H; obtain ⟨t178, A3, H⟩ := H
 replace H : ((spec_l1Has.f k l0_4 t178).bind fun t179 => (if t179 = true then (some (l0_0, a0_1, a0_2, a0_3, l0_4, 1)) else (if (l0_0.length : Int) = 12 then (spec_l8Put.j0 k a1 l0_4 true l0_0 a0_1 a0_2 a0_3) else (spec_l8Put.j0 k a1 l0_4 ((l0_4.length : Int) == 100) l0_0 a0_1 a0_2 a0_3)))) = some (r1, r2, r3, r4, r5, r6) := H
 replace H := bS H; obtain ⟨t179, A4, H⟩ := H
 replace H : (if t179 = true then (some (l0_0, a0_1, a0_2, a0_3, l0_4, 1)) else (if (l0_0.length : Int) = 12 then (spec_l8Put.j0 k a1 l0_4 true l0_0 a0_1 a0_2 a0_3) else (spec_l8Put.j0 k a1 l0_4 ((l0_4.length : Int) == 100) l0_0 a0_1 a0_2 a0_3))) = some (r1, r2, r3, r4, r5, r6) := H
 by_cases c5 : t179 = true
 ·subst c5
  have H1 : (some (l0_0, a0_1, a0_2, a0_3, l0_4, 1)) = some (r1, r2, r3, r4, r5, r6) := by rw [if_pos rfl] at H; exact H
  clear H
  have H := H1
  clear H1
  simp only [Option.some.injEq, Prod.mk.injEq] at H
  obtain ⟨rfl, rfl, rfl, rfl, rfl, rfl⟩ := H
  obtain ⟨Ao6, co6, eo6⟩ := Kd.R_slice HO0_0.out
  subst eo6
  obtain ⟨Ao7, co7, eo7⟩ := Kd.R_slice HO0_4.out
  subst eo7
  go_enter Try.func96, Try.ntmps96
  try go_wp2_with (first | ((with_reducible refine gate_dst (N := 2) rfl ?_); (try (refine gate_guard (by rfl) ?_; dsimp only)); refine boxev 2 #[.slice Ao6 l0_0.length co6, .int .i64 a0_1, .int .i64 a0_2, .int .i64 a0_3, .slice Ao7 l0_4.length co7] 27 ?_; intro gb176 hg w8 hbox hb; replace HO0_0 := ak (Kd.R_below (rdl HO0_0) hb); replace HO0_4 := ak (Kd.R_below (rdl HO0_4) hb); have BK176 := ak (hbox); have GW176 := ak ((by rw [hg]; exact (by first | exact HK.out.1 | exact (show Kept w _ (fun k_ => P0_0_ k_ ∨ P0_4_ k_) from by repeat (first | (with_reducible first | exact HK.out | apply Kept.alloc | apply Kept.drewN | apply Kept.drew) | exact HK.out)).1) : w.heap.size ≤ gb176)); replace HK := ak (Kept.below (S := (fun k_ => P0_0_ k_ ∨ P0_4_ k_)) (by repeat (first | (with_reducible first | exact HK.out | apply Kept.alloc | apply Kept.drewN | apply Kept.drew) | exact HK.out)) hb); have GE176 := ak ((by rw [hg]; exact (below_size (belowd HB)) : w0.heap.size ≤ gb176)); replace HB := ak (below_step (belowd HB) hb); clear hb hbox hg) | ((with_reducible refine gate_dst (N := 4) rfl ?_); (try (refine gate_guard (by rfl) ?_; dsimp only)); refine boxev 4 #[.slice none 0 0, .int .i64 0, .int .i64 0, .int .i64 0, .slice none 0 0] 27 ?_; intro gb177 hg w9 hbox hb; replace HO0_0 := ak (Kd.R_below (rdl HO0_0) hb); replace HO0_4 := ak (Kd.R_below (rdl HO0_4) hb); have BK177 := ak (hbox); have GW177 := ak ((by rw [hg]; exact (by first | exact HK.out.1 | exact (show Kept w _ (fun k_ => P0_0_ k_ ∨ P0_4_ k_) from by repeat (first | (with_reducible first | exact HK.out | apply Kept.alloc | apply Kept.drewN | apply Kept.drew | refine Kept.setCell ?_ (.inr GW176.out) _) | exact HK.out)).1) : w.heap.size ≤ gb177)); replace HK := ak (Kept.below (S := (fun k_ => P0_0_ k_ ∨ P0_4_ k_)) (by repeat (first | (with_reducible first | exact HK.out | apply Kept.alloc | apply Kept.drewN | apply Kept.drew | refine Kept.setCell ?_ (.inr GW176.out) _) | exact HK.out)) hb); have GE177 := ak ((by rw [hg]; exact (below_size (belowg1 HB GE176)) : w0.heap.size ≤ gb177)); replace HB := ak (below_step (belowg1 HB GE176) hb); have NB176_177 := ak ((by rw [hg]; exact Nat.ne_of_lt (blk_lt (blkd BK176)) : gb176 ≠ gb177)); have NB177_176 := ak ((by rw [hg]; exact Nat.ne_of_gt (blk_lt (blkd BK176)) : gb177 ≠ gb176)); replace BK176 := ak (blk_below (blkd BK176) hb); clear hb hbox hg))
  replace HO0_0 := ak (Kd.R_drew HO0_0.out)
  replace HO0_4 := ak (Kd.R_drew HO0_4.out)
  replace BK176 := ak (blk_drew BK176.out)
  replace BK177 := ak (blk_drew BK177.out)
  replace HK := ak (Kept.drew HK.out)
  replace HB := ak (below_drew1 HB.out)
  refine start_ (n := 5) (S := fun w' => w'.cell? ⟨gb176, 0, none⟩ = some (.slice Ao6 l0_0.length co6) ∧ w'.cell? ⟨gb176, 1, none⟩ = some (.int .i64 a0_1) ∧ w'.cell? ⟨gb176, 2, none⟩ = some (.int .i64 a0_2) ∧ w'.cell? ⟨gb176, 3, none⟩ = some (.int .i64 a0_3) ∧ w'.cell? ⟨gb176, 4, none⟩ = some (.slice Ao7 l0_4.length co7)) (ds := []) (bl 5 0) (by kernel_rfl) rfl rfl ⟨bq BK176 0, bq BK176 1, bq BK176 2, bq BK176 3, bq BK176 4⟩ (fun hHeld => ?_)
  generalize w9.drew = w10 at HO0_0 HO0_4 BK176 BK177 HK HB hHeld ⊢
  refine pure_ (i := 0) (N := some 6) (v := ?_) (a' := ?_) (bl 5 1) rfl rfl (by kernel_rfl) (fun _ _ _ h => h) (Or.inl ⟨by rfl, ?_⟩) ?_ ?_
  rotate_left
  ·intro w'
   go_simp
   with_reducible rfl
  rotate_left
  ·simp only [Act.put, List.setIfInBounds_toArray, List.set_cons_zero, List.set_cons_succ, i64_w, i32_w]
   rfl
  refine pure_ (i := 2) (N := some 8) (v := ?_) (a' := ?_) (bl 5 5) rfl rfl (by kernel_rfl) (fun _ _ _ h => h) (Or.inl ⟨by rfl, ?_⟩) ?_ ?_
  rotate_left
  ·intro w'
   go_simp
   with_reducible rfl
  rotate_left
  ·simp only [Act.put, List.setIfInBounds_toArray, List.set_cons_zero, List.set_cons_succ, i64_w, i32_w]
   rfl
  refine take_ (i := 1) (N := some 7) (v := ?_) (a' := ?_) (bl 5 7) rfl rfl (by kernel_rfl) (fun _ _ _ h => h) (Or.inl ⟨by rfl, ?_⟩) hHeld ?_ ?_
  rotate_left
  ·rintro w' ⟨s0, s1, s2, s3, s4⟩
   go_simp
   with_reducible rfl
  rotate_left
  ·simp only [Act.put, List.setIfInBounds_toArray, List.set_cons_zero, List.set_cons_succ, i64_w, i32_w]
   rfl
  refine one_ (i := 3) (N := some 9) (bl 5 15) rfl rfl (by kernel_rfl) (by decide) (fun K hK => ?_)
  refine goes_ Try.func172 (by kernel_rfl) rfl #[.string a1] (by rfl) rfl rfl (by (try simp only [List.map_toArray, List.map_cons, List.map_nil]); first | done | rfl | (simp only [List.length_drop, List.length_take]; rfl)) ?_
  with_reducible refine (spec_l8Tag.calls k a1 t178 _ A3.out).mono ?_
  rintro e w' ⟨rfl, ⟨nd, rfl⟩⟩
  refine ⟨_, rfl, ?_⟩
  refine hK.out _ _ ⟨bq BK176 0, bq BK176 1, bq BK176 2, bq BK176 3, bq BK176 4⟩ (fun hHeld => ?_)
  clear hK K
  refine norm_ (a' := ?_) ?_ ?_
  rotate_left
  ·show Act.put _ (some 9) _ = _
   simp only [Act.put, List.setIfInBounds_toArray, List.set_cons_zero, List.set_cons_succ, i64_w, i32_w]
   rfl
  refine one_ (i := 4) (N := some 10) (bl 5 31) rfl rfl (by kernel_rfl) (by decide) (fun K hK => ?_)
  refine goes_ Try.func173 (by kernel_rfl) rfl #[.slice Ao7 l0_4.length co7, .int .i64 t178] (by rfl) rfl rfl (by (try simp only [List.map_toArray, List.map_cons, List.map_nil]); first | done | rfl | (simp only [List.length_drop, List.length_take]; rfl)) ?_
  with_reducible refine (spec_l1Has.calls k _ _ l0_4 t178 true _ ?side1 ?side2 A4.out).mono ?_
  (case side1 => exact cd (Kd.R_reads' HO0_4.out).2.2)
  (case side2 => exact (Kd.R_reads' HO0_4.out).2.1)
  rintro e w' ⟨rfl, ⟨nd, rfl⟩⟩
  refine ⟨_, rfl, ?_⟩
  refine hK.out _ _ ⟨bq BK176 0, bq BK176 1, bq BK176 2, bq BK176 3, bq BK176 4⟩ (fun hHeld => ?_)
  clear hK K
  refine norm_ (a' := ?_) ?_ ?_
  rotate_left
  ·show Act.put _ (some 10) _ = _
   simp only [Act.put, List.setIfInBounds_toArray, List.set_cons_zero, List.set_cons_succ, i64_w, i32_w]
   rfl
  refine done_ (by kernel_rfl) ?_
  have hnb11 := NB176_177.out; have hnc11 := NB177_176.out; obtain ⟨hcz12_0, hcz12_1, hcz12_2, hcz12_3, hcz12_4, hfz12_0, hfz12_1, hfz12_2, hfz12_3, hfz12_4⟩ := box5 BK176; obtain ⟨hcz13_0, hcz13_1, hcz13_2, hcz13_3, hcz13_4, hfz13_0, hfz13_1, hfz13_2, hfz13_3, hfz13_4⟩ := box5 BK177
  try go_wp2
  refine bodyPost_ret (results_ct rfl _ _ gb177 27 #[.slice Ao6 l0_0.length co6, .int .i64 a0_1, .int .i64 a0_2, .int .i64 a0_3, .slice Ao7 l0_4.length co7] (0, 0) _ rfl (by (with_reducible repeat (first | refine blk_drewN ?_ _ | refine blk_drew ?_ | refine blk_alloc ?_ _)); refine blk_put (cs := #[.slice Ao6 l0_0.length co6, .int .i64 a0_1, .int .i64 a0_2, .int .i64 a0_3, .slice none 0 0]) ?_ 4 _ rfl; (with_reducible repeat (first | refine blk_drewN ?_ _ | refine blk_drew ?_ | refine blk_alloc ?_ _)); refine blk_put (cs := #[.slice Ao6 l0_0.length co6, .int .i64 a0_1, .int .i64 a0_2, .int .i64 0, .slice none 0 0]) ?_ 3 _ rfl; (with_reducible repeat (first | refine blk_drewN ?_ _ | refine blk_drew ?_ | refine blk_alloc ?_ _)); refine blk_put (cs := #[.slice Ao6 l0_0.length co6, .int .i64 a0_1, .int .i64 0, .int .i64 0, .slice none 0 0]) ?_ 2 _ rfl; (with_reducible repeat (first | refine blk_drewN ?_ _ | refine blk_drew ?_ | refine blk_alloc ?_ _)); refine blk_put (cs := #[.slice Ao6 l0_0.length co6, .int .i64 0, .int .i64 0, .int .i64 0, .slice none 0 0]) ?_ 1 _ rfl; (with_reducible repeat (first | refine blk_drewN ?_ _ | refine blk_drew ?_ | refine blk_alloc ?_ _)); refine blk_put (cs := #[.slice none 0 0, .int .i64 0, .int .i64 0, .int .i64 0, .slice none 0 0]) ?_ 0 _ rfl; (with_reducible repeat (first | refine blk_drewN ?_ _ | refine blk_drew ?_ | refine blk_alloc ?_ _)); exact BK177.out) Try.underlying27 rfl (by kernel_rfl)) rfl ?_
  exact ⟨_, _, er2, by (with_reducible repeat (first | apply Kd.R_alloc | apply Kd.R_drewN | apply Kd.R_drew)); exact Kd.R_mono (farsR (Kd.R_types HO0_0.out BK177.out (by decide))) (fun _ hk => hk.1), by (with_reducible repeat (first | apply Kd.R_alloc | apply Kd.R_drewN | apply Kd.R_drew)); exact Kd.R_mono (farsR (Kd.R_types HO0_4.out BK177.out (by decide))) (fun _ hk => hk.1), belowg2 HB GE176 GE177, by repeat (first | (with_reducible first | exact HK.out | apply Kept.alloc | apply Kept.drewN | apply Kept.drew | refine Kept.setCell ?_ (.inr GW176.out) _ | refine Kept.setCell ?_ (.inr GW177.out) _) | exact HK.out)⟩
 ·replace c5 := Bool.eq_false_iff.mpr c5
  subst c5
  have H1 : (if (l0_0.length : Int) = 12 then (spec_l8Put.j0 k a1 l0_4 true l0_0 a0_1 a0_2 a0_3) else (spec_l8Put.j0 k a1 l0_4 ((l0_4.length : Int) == 100) l0_0 a0_1 a0_2 a0_3)) = some (r1, r2, r3, r4, r5, r6) := by rw [if_neg (show ¬ (false = true) by decide)] at H; exact H
  clear H
  have H := H1
  clear H1; have HC14 := Aside0.mk H; clear H
  obtain ⟨Ao15, co15, eo15⟩ := Kd.R_slice HO0_0.out
  subst eo15
  obtain ⟨Ao16, co16, eo16⟩ := Kd.R_slice HO0_4.out
  subst eo16
  go_enter Try.func96, Try.ntmps96
  try go_wp2_with (first | ((with_reducible refine gate_dst (N := 2) rfl ?_); (try (refine gate_guard (by rfl) ?_; dsimp only)); refine boxev 2 #[.slice Ao15 l0_0.length co15, .int .i64 a0_1, .int .i64 a0_2, .int .i64 a0_3, .slice Ao16 l0_4.length co16] 27 ?_; intro gb176 hg w17 hbox hb; replace HO0_0 := ak (Kd.R_below (rdl HO0_0) hb); replace HO0_4 := ak (Kd.R_below (rdl HO0_4) hb); have BK176 := ak (hbox); have GW176 := ak ((by rw [hg]; exact (by first | exact HK.out.1 | exact (show Kept w _ (fun k_ => P0_0_ k_ ∨ P0_4_ k_) from by repeat (first | (with_reducible first | exact HK.out | apply Kept.alloc | apply Kept.drewN | apply Kept.drew) | exact HK.out)).1) : w.heap.size ≤ gb176)); replace HK := ak (Kept.below (S := (fun k_ => P0_0_ k_ ∨ P0_4_ k_)) (by repeat (first | (with_reducible first | exact HK.out | apply Kept.alloc | apply Kept.drewN | apply Kept.drew) | exact HK.out)) hb); have GE176 := ak ((by rw [hg]; exact (below_size (belowd HB)) : w0.heap.size ≤ gb176)); replace HB := ak (below_step (belowd HB) hb); clear hb hbox hg) | ((with_reducible refine gate_dst (N := 4) rfl ?_); (try (refine gate_guard (by rfl) ?_; dsimp only)); refine boxev 4 #[.slice none 0 0, .int .i64 0, .int .i64 0, .int .i64 0, .slice none 0 0] 27 ?_; intro gb177 hg w18 hbox hb; replace HO0_0 := ak (Kd.R_below (rdl HO0_0) hb); replace HO0_4 := ak (Kd.R_below (rdl HO0_4) hb); have BK177 := ak (hbox); have GW177 := ak ((by rw [hg]; exact (by first | exact HK.out.1 | exact (show Kept w _ (fun k_ => P0_0_ k_ ∨ P0_4_ k_) from by repeat (first | (with_reducible first | exact HK.out | apply Kept.alloc | apply Kept.drewN | apply Kept.drew | refine Kept.setCell ?_ (.inr GW176.out) _) | exact HK.out)).1) : w.heap.size ≤ gb177)); replace HK := ak (Kept.below (S := (fun k_ => P0_0_ k_ ∨ P0_4_ k_)) (by repeat (first | (with_reducible first | exact HK.out | apply Kept.alloc | apply Kept.drewN | apply Kept.drew | refine Kept.setCell ?_ (.inr GW176.out) _) | exact HK.out)) hb); have GE177 := ak ((by rw [hg]; exact (below_size (belowg1 HB GE176)) : w0.heap.size ≤ gb177)); replace HB := ak (below_step (belowg1 HB GE176) hb); have NB176_177 := ak ((by rw [hg]; exact Nat.ne_of_lt (blk_lt (blkd BK176)) : gb176 ≠ gb177)); have NB177_176 := ak ((by rw [hg]; exact Nat.ne_of_gt (blk_lt (blkd BK176)) : gb177 ≠ gb176)); replace BK176 := ak (blk_below (blkd BK176) hb); clear hb hbox hg))
  replace HO0_0 := ak (Kd.R_drew HO0_0.out)
  replace HO0_4 := ak (Kd.R_drew HO0_4.out)
  replace BK176 := ak (blk_drew BK176.out)
  replace BK177 := ak (blk_drew BK177.out)
  replace HK := ak (Kept.drew HK.out)
  replace HB := ak (below_drew1 HB.out)
  refine start_ (n := 5) (S := fun w' => w'.cell? ⟨gb176, 0, none⟩ = some (.slice Ao15 l0_0.length co15) ∧ w'.cell? ⟨gb176, 1, none⟩ = some (.int .i64 a0_1) ∧ w'.cell? ⟨gb176, 2, none⟩ = some (.int .i64 a0_2) ∧ w'.cell? ⟨gb176, 3, none⟩ = some (.int .i64 a0_3) ∧ w'.cell? ⟨gb176, 4, none⟩ = some (.slice Ao16 l0_4.length co16)) (ds := []) (bl 5 0) (by kernel_rfl) rfl rfl ⟨bq BK176 0, bq BK176 1, bq BK176 2, bq BK176 3, bq BK176 4⟩ (fun hHeld => ?_)
  generalize w18.drew = w19 at HO0_0 HO0_4 BK176 BK177 HK HB hHeld ⊢
  refine pure_ (i := 0) (N := some 6) (v := ?_) (a' := ?_) (bl 5 1) rfl rfl (by kernel_rfl) (fun _ _ _ h => h) (Or.inl ⟨by rfl, ?_⟩) ?_ ?_
  rotate_left
  ·intro w'
   go_simp
   with_reducible rfl
  rotate_left
  ·simp only [Act.put, List.setIfInBounds_toArray, List.set_cons_zero, List.set_cons_succ, i64_w, i32_w]
   rfl
  refine pure_ (i := 2) (N := some 8) (v := ?_) (a' := ?_) (bl 5 5) rfl rfl (by kernel_rfl) (fun _ _ _ h => h) (Or.inl ⟨by rfl, ?_⟩) ?_ ?_
  rotate_left
  ·intro w'
   go_simp
   with_reducible rfl
  rotate_left
  ·simp only [Act.put, List.setIfInBounds_toArray, List.set_cons_zero, List.set_cons_succ, i64_w, i32_w]
   rfl
  refine take_ (i := 1) (N := some 7) (v := ?_) (a' := ?_) (bl 5 7) rfl rfl (by kernel_rfl) (fun _ _ _ h => h) (Or.inl ⟨by rfl, ?_⟩) hHeld ?_ ?_
  rotate_left
  ·rintro w' ⟨s0, s1, s2, s3, s4⟩
   go_simp
   with_reducible rfl
  rotate_left
  ·simp only [Act.put, List.setIfInBounds_toArray, List.set_cons_zero, List.set_cons_succ, i64_w, i32_w]
   rfl
  refine one_ (i := 3) (N := some 9) (bl 5 15) rfl rfl (by kernel_rfl) (by decide) (fun K hK => ?_)
  refine goes_ Try.func172 (by kernel_rfl) rfl #[.string a1] (by rfl) rfl rfl (by (try simp only [List.map_toArray, List.map_cons, List.map_nil]); first | done | rfl | (simp only [List.length_drop, List.length_take]; rfl)) ?_
  with_reducible refine (spec_l8Tag.calls k a1 t178 _ A3.out).mono ?_
  rintro e w' ⟨rfl, ⟨nd, rfl⟩⟩
  refine ⟨_, rfl, ?_⟩
  refine hK.out _ _ ⟨bq BK176 0, bq BK176 1, bq BK176 2, bq BK176 3, bq BK176 4⟩ (fun hHeld => ?_)
  clear hK K
  refine norm_ (a' := ?_) ?_ ?_
  rotate_left
  ·show Act.put _ (some 9) _ = _
   simp only [Act.put, List.setIfInBounds_toArray, List.set_cons_zero, List.set_cons_succ, i64_w, i32_w]
   rfl
  refine one_ (i := 4) (N := some 10) (bl 5 31) rfl rfl (by kernel_rfl) (by decide) (fun K hK => ?_)
  refine goes_ Try.func173 (by kernel_rfl) rfl #[.slice Ao16 l0_4.length co16, .int .i64 t178] (by rfl) rfl rfl (by (try simp only [List.map_toArray, List.map_cons, List.map_nil]); first | done | rfl | (simp only [List.length_drop, List.length_take]; rfl)) ?_
  with_reducible refine (spec_l1Has.calls k _ _ l0_4 t178 false _ ?side1 ?side2 A4.out).mono ?_
  (case side1 => exact cd (Kd.R_reads' HO0_4.out).2.2)
  (case side2 => exact (Kd.R_reads' HO0_4.out).2.1)
  rintro e w' ⟨rfl, ⟨nd, rfl⟩⟩
  refine ⟨_, rfl, ?_⟩
  refine hK.out _ _ ⟨bq BK176 0, bq BK176 1, bq BK176 2, bq BK176 3, bq BK176 4⟩ (fun hHeld => ?_)
  clear hK K
  refine norm_ (a' := ?_) ?_ ?_
  rotate_left
  ·show Act.put _ (some 10) _ = _
   simp only [Act.put, List.setIfInBounds_toArray, List.set_cons_zero, List.set_cons_succ, i64_w, i32_w]
   rfl
  refine done_ (by kernel_rfl) ?_
  go_upto_region 3 with (fail)
  go_cut [21] (fun v21 wc => ∃ (kq : Nat) (x21_13 : Bool), v21 = .bool x21_13 ∧ Aside0 (spec_l8Put.j0 kq a1 l0_4 x21_13 l0_0 a0_1 a0_2 a0_3 = some (r1, r2, r3, r4, r5, r6)) ∧ Aside0 (kq ≤ k) ∧ Aside0 (Kd.R (Kd.int .i64) 3 wc w0.heap.size (fun k_ => ((P0_0_ k_ ∨ P0_4_ k_) ∨ w.heap.size ≤ k_)) (.slice Ao16 l0_4.length co16) l0_4) ∧ Aside0 (Kd.R Kd.string 9 wc w0.heap.size (fun k_ => ((P0_0_ k_ ∨ P0_4_ k_) ∨ w.heap.size ≤ k_)) (.slice Ao15 l0_0.length co15) l0_0) ∧ Aside0 (wc.heap[gb176]? = some (.cells #[(.slice Ao15 l0_0.length co15), .int .i64 a0_1, .int .i64 a0_2, .int .i64 a0_3, (.slice Ao16 l0_4.length co16)] 27 (0, 0))) ∧ Aside0 (wc.heap[gb177]? = some (.cells #[(.slice none 0 0), .int .i64 0, .int .i64 0, .int .i64 0, (.slice none 0 0)] 27 (0, 0))) ∧ Aside0 (Kept w wc (fun k_ => P0_0_ k_ ∨ P0_4_ k_)) ∧ Aside0 (Below w0.heap.size w0 wc))
  case first =>
   have H := HC14.out; clear HC14
   by_cases c20 : (l0_0.length : Int) = 12
   ·rw [if_pos c20] at H
    have c20b0 : ((l0_0.length : Int) == 12) = true := beq_iff_eq.mpr c20
    have c20b1 : ((l0_0.length : Int) != 12) = false := bne_eq_false_iff_eq.mpr c20
    clear c20
    (first | rw [c20b0] | (simp only [i64_w, i32_w]; rw [c20b0]) | skip)
    have H' := Aside0.mk H
    clear H; have hnb21 := NB176_177.out; have hnc21 := NB177_176.out; obtain ⟨hcz22_0, hcz22_1, hcz22_2, hcz22_3, hcz22_4, hfz22_0, hfz22_1, hfz22_2, hfz22_3, hfz22_4⟩ := box5 BK176; go_wp2
    go_meet
    case rel => exact ⟨_, (true), er, H', ⟨by first | omega | exact Nat.le_refl _⟩, ⟨rdl HO0_4⟩, ⟨rdl HO0_0⟩, ⟨blkd BK176⟩, ⟨blkd BK177⟩, ⟨by repeat (first | (with_reducible first | exact HK.out | apply Kept.alloc | apply Kept.drewN | apply Kept.drew | refine Kept.setCell ?_ (.inr GW176.out) _ | refine Kept.setCell ?_ (.inr GW177.out) _) | exact HK.out)⟩, ⟨belowg2 HB GE176 GE177⟩⟩
   ·rw [if_neg c20] at H
    have c20b0 : ((l0_0.length : Int) == 12) = false := beq_eq_false_iff_ne.mpr c20
    have c20b1 : ((l0_0.length : Int) != 12) = true := bne_iff_ne.mpr c20
    (first | rw [c20b0] | (simp only [i64_w, i32_w]; rw [c20b0]) | skip)
    have H' := Aside0.mk H
    clear H; have hnb23 := NB176_177.out; have hnc23 := NB177_176.out; obtain ⟨hcz24_0, hcz24_1, hcz24_2, hcz24_3, hcz24_4, hfz24_0, hfz24_1, hfz24_2, hfz24_3, hfz24_4⟩ := box5 BK176; go_wp2
    go_meet
    case rel => exact ⟨_, (((l0_4.length : Int) == 100)), er, H', ⟨by first | omega | exact Nat.le_refl _⟩, ⟨rdl HO0_4⟩, ⟨rdl HO0_0⟩, ⟨blkd BK176⟩, ⟨blkd BK177⟩, ⟨by repeat (first | (with_reducible first | exact HK.out | apply Kept.alloc | apply Kept.drewN | apply Kept.drew | refine Kept.setCell ?_ (.inr GW176.out) _ | refine Kept.setCell ?_ (.inr GW177.out) _) | exact HK.out)⟩, ⟨belowg2 HB GE176 GE177⟩⟩
  case rest =>
   clear HC14; (try clear c5)
   obtain ⟨kq, x21_13, rfl, HA, HJ13, HO_7, HO_177000, BK176, BK177, HK, HB⟩ := hcut
   cases kq with
   | zero => exact absurd HA.out (by simp [spec_l8Put.j0])
   | succ kj13 =>
    have H := HA.out; clear HA
    simp only [spec_l8Put.j0] at H
    by_cases c25 : x21_13 = true
    ·subst c25
     have H1 : (some (l0_0, a0_1, a0_2, a0_3, l0_4, 2)) = some (r1, r2, r3, r4, r5, r6) := by rw [if_pos rfl] at H; exact H
     clear H
     have H := H1
     clear H1
     simp only [Option.some.injEq, Prod.mk.injEq] at H
     obtain ⟨rfl, rfl, rfl, rfl, rfl, rfl⟩ := H; have hnb26 := NB176_177.out; have hnc26 := NB177_176.out; obtain ⟨hcz27_0, hcz27_1, hcz27_2, hcz27_3, hcz27_4, hfz27_0, hfz27_1, hfz27_2, hfz27_3, hfz27_4⟩ := box5 BK176; obtain ⟨hcz28_0, hcz28_1, hcz28_2, hcz28_3, hcz28_4, hfz28_0, hfz28_1, hfz28_2, hfz28_3, hfz28_4⟩ := box5 BK177; go_wp2
     refine bodyPost_ret (results_ct rfl _ _ gb177 27 #[.slice Ao15 l0_0.length co15, .int .i64 a0_1, .int .i64 a0_2, .int .i64 a0_3, .slice Ao16 l0_4.length co16] (0, 0) _ rfl (by (with_reducible repeat (first | refine blk_drewN ?_ _ | refine blk_drew ?_ | refine blk_alloc ?_ _)); refine blk_put (cs := #[.slice Ao15 l0_0.length co15, .int .i64 a0_1, .int .i64 a0_2, .int .i64 a0_3, .slice none 0 0]) ?_ 4 _ rfl; (with_reducible repeat (first | refine blk_drewN ?_ _ | refine blk_drew ?_ | refine blk_alloc ?_ _)); refine blk_put (cs := #[.slice Ao15 l0_0.length co15, .int .i64 a0_1, .int .i64 a0_2, .int .i64 0, .slice none 0 0]) ?_ 3 _ rfl; (with_reducible repeat (first | refine blk_drewN ?_ _ | refine blk_drew ?_ | refine blk_alloc ?_ _)); refine blk_put (cs := #[.slice Ao15 l0_0.length co15, .int .i64 a0_1, .int .i64 0, .int .i64 0, .slice none 0 0]) ?_ 2 _ rfl; (with_reducible repeat (first | refine blk_drewN ?_ _ | refine blk_drew ?_ | refine blk_alloc ?_ _)); refine blk_put (cs := #[.slice Ao15 l0_0.length co15, .int .i64 0, .int .i64 0, .int .i64 0, .slice none 0 0]) ?_ 1 _ rfl; (with_reducible repeat (first | refine blk_drewN ?_ _ | refine blk_drew ?_ | refine blk_alloc ?_ _)); refine blk_put (cs := #[.slice none 0 0, .int .i64 0, .int .i64 0, .int .i64 0, .slice none 0 0]) ?_ 0 _ rfl; (with_reducible repeat (first | refine blk_drewN ?_ _ | refine blk_drew ?_ | refine blk_alloc ?_ _)); exact BK177.out) Try.underlying27 rfl (by kernel_rfl)) rfl ?_
     exact ⟨_, _, er2, by (with_reducible repeat (first | apply Kd.R_alloc | apply Kd.R_drewN | apply Kd.R_drew)); exact Kd.R_mono (farsR (Kd.R_types HO_177000.out BK177.out (by decide))) (fun _ hk => hk.1), by (with_reducible repeat (first | apply Kd.R_alloc | apply Kd.R_drewN | apply Kd.R_drew)); exact Kd.R_mono (farsR (Kd.R_types HO_7.out BK177.out (by decide))) (fun _ hk => hk.1), belowg2 HB GE176 GE177, by repeat (first | (with_reducible first | exact HK.out | apply Kept.alloc | apply Kept.drewN | apply Kept.drew | refine Kept.setCell ?_ (.inr GW176.out) _ | refine Kept.setCell ?_ (.inr GW177.out) _) | exact HK.out)⟩
    ·replace c25 := Bool.eq_false_iff.mpr c25
     subst c25
     have H1 : ((spec_l8Place.f kj13 l0_0 a1).bind fun t180 => ((spec_l8Tag.f kj13 a1).bind fun t183 => ((spec_l1Put.f kj13 l0_4 t183).bind fun t184 => (some (t180, a0_1, a0_2, a0_3, t184, 0))))) = some (r1, r2, r3, r4, r5, r6) := by rw [if_neg (show ¬ (false = true) by decide)] at H; exact H
     clear H
     have H := H1
     clear H1; replace H := bS H; obtain ⟨t180, A29, H⟩ := H
     replace H : ((spec_l8Tag.f kj13 a1).bind fun t183 => ((spec_l1Put.f kj13 l0_4 t183).bind fun t184 => (some (t180, a0_1, a0_2, a0_3, t184, 0)))) = some (r1, r2, r3, r4, r5, r6) := H
     replace H := bS H; obtain ⟨t183, A30, H⟩ := H
     replace H : ((spec_l1Put.f kj13 l0_4 t183).bind fun t184 => (some (t180, a0_1, a0_2, a0_3, t184, 0))) = some (r1, r2, r3, r4, r5, r6) := H
     replace H := bS H; obtain ⟨t184, A31, H⟩ := H
     replace H : (some (t180, a0_1, a0_2, a0_3, t184, 0)) = some (r1, r2, r3, r4, r5, r6) := H
     simp only [Option.some.injEq, Prod.mk.injEq] at H
     obtain ⟨rfl, rfl, rfl, rfl, rfl, rfl⟩ := H; have hnb32 := NB176_177.out; have hnc32 := NB177_176.out; obtain ⟨hcz33_0, hcz33_1, hcz33_2, hcz33_3, hcz33_4, hfz33_0, hfz33_1, hfz33_2, hfz33_3, hfz33_4⟩ := box5 BK176
     try go_wp2_with (first | ((with_reducible refine gate_callee (f := 175) rfl ?_); refine goesLa (some 26) rfl Try.func175 #[.slice Ao15 l0_0.length co15, .string a1] rfl ?_; (with_reducible refine (spec_l8Place.calls kj13 _ _ l0_0 a1 t180 _ ?side1 ?side2 A29.out).mono ?_); (case side1 => exact cd (Kd.R_reads' HO_177000.out).2.2); (case side2 => exact (Kd.R_reads' HO_177000.out).2.1); rintro e w34 ⟨v181, rfl, ho0, hb⟩; refine ⟨_, rfl, ?_⟩; replace HO_7 := ak (Kd.R_below (rdl HO_7) hb); have HO182 := ak (Kd.R_lower (Kd.R_new' (Kd.R_newM (M := fun k_ => ((P0_0_ k_ ∨ P0_4_ k_) ∨ w.heap.size ≤ k_)) ho0 (by first | exact HK.out.1 | exact (show Kept w _ (fun k_ => P0_0_ k_ ∨ P0_4_ k_) from by repeat (first | (with_reducible first | exact HK.out | apply Kept.alloc | apply Kept.drewN | apply Kept.drew | refine Kept.setCell ?_ (.inr GW176.out) _ | refine Kept.setCell ?_ (.inr GW177.out) _) | exact HK.out)).1) (fun k_ h_ => .inr h_)) (Kd.R_lt (rdl HO_177000))) (below_size (belowg2 HB GE176 GE177))); replace HO_177000 := ak (Kd.R_elder' (rdl HO_177000) (Kd.R_base ho0) hb); replace BK176 := ak (blk_below (blkd BK176) hb); replace BK177 := ak (blk_below (blkd BK177) hb); replace HK := ak (Kept.below (S := (fun k_ => P0_0_ k_ ∨ P0_4_ k_)) (by repeat (first | (with_reducible first | exact HK.out | apply Kept.alloc | apply Kept.drewN | apply Kept.drew | refine Kept.setCell ?_ (.inr GW176.out) _ | refine Kept.setCell ?_ (.inr GW177.out) _) | exact HK.out)) hb); replace HB := ak (below_step (belowg2 HB GE176 GE177) hb); (try clear hb); (try clear ho0); obtain ⟨Ao35, co35, eo35⟩ := Kd.R_slice HO182.out; subst eo35; obtain ⟨hcz36_0, hcz36_1, hcz36_2, hcz36_3, hcz36_4, hfz36_0, hfz36_1, hfz36_2, hfz36_3, hfz36_4⟩ := box5 BK176))
     have n0_ : Aside0 (Kd.R (Kd.int .i64) 3 (w34.setCell ⟨gb176, 0, none⟩ (.slice Ao35 t180.length co35)) w0.heap.size (fun k_ => ((P0_0_ k_ ∨ P0_4_ k_) ∨ w.heap.size ≤ k_)) (.slice Ao16 l0_4.length co16) l0_4) := ⟨by (with_reducible repeat (first | apply Kd.R_alloc | apply Kd.R_drewN | apply Kd.R_drew)); exact Kd.R_mono (Kd.R_far (p := ⟨gb176, 0, none⟩) (Kd.R_types HO_7.out BK176.out (by decide)) (fun _ hk => hk.2) (.slice Ao35 t180.length co35)) (fun _ hk => hk.1)⟩
     have n1_ : Aside0 (Kd.R Kd.string 9 (w34.setCell ⟨gb176, 0, none⟩ (.slice Ao35 t180.length co35)) w0.heap.size (fun k_ => ((P0_0_ k_ ∨ P0_4_ k_) ∨ w.heap.size ≤ k_) ∧ some k_ ≠ (.slice Ao35 t180.length co35 : Value).ownBlock) (.slice Ao15 l0_0.length co15) l0_0) := ⟨by (with_reducible repeat (first | apply Kd.R_alloc | apply Kd.R_drewN | apply Kd.R_drew)); exact Kd.R_mono (Kd.R_far (p := ⟨gb176, 0, none⟩) (Kd.R_types HO_177000.out BK176.out (by decide)) (fun _ hk => hk.2) (.slice Ao35 t180.length co35)) (fun _ hk => ⟨hk.1.1, hk.1.2⟩)⟩
     have n2_ : Aside0 (Kd.R Kd.string 9 (w34.setCell ⟨gb176, 0, none⟩ (.slice Ao35 t180.length co35)) w0.heap.size (fun k_ => ((P0_0_ k_ ∨ P0_4_ k_) ∨ w.heap.size ≤ k_) ∧ some k_ ≠ (.slice Ao15 l0_0.length co15 : Value).ownBlock) (.slice Ao35 t180.length co35) t180) := ⟨by (with_reducible repeat (first | apply Kd.R_alloc | apply Kd.R_drewN | apply Kd.R_drew)); exact Kd.R_mono (Kd.R_far (p := ⟨gb176, 0, none⟩) (Kd.R_types HO182.out BK176.out (by decide)) (fun _ hk => hk.2) (.slice Ao35 t180.length co35)) (fun _ hk => ⟨hk.1.1.1, hk.1.2⟩)⟩
     have n3_ : Aside0 ((w34.setCell ⟨gb176, 0, none⟩ (.slice Ao35 t180.length co35)).heap[gb176]? = some (.cells #[.slice Ao35 t180.length co35, .int .i64 a0_1, .int .i64 a0_2, .int .i64 a0_3, .slice Ao16 l0_4.length co16] 27 (0, 0))) := ⟨by (with_reducible repeat (first | refine blk_drewN ?_ _ | refine blk_drew ?_ | refine blk_alloc ?_ _)); refine blk_put (cs := #[.slice Ao15 l0_0.length co15, .int .i64 a0_1, .int .i64 a0_2, .int .i64 a0_3, .slice Ao16 l0_4.length co16]) ?_ 0 _ rfl; (with_reducible repeat (first | refine blk_drewN ?_ _ | refine blk_drew ?_ | refine blk_alloc ?_ _)); exact BK176.out⟩
     have n4_ : Aside0 ((w34.setCell ⟨gb176, 0, none⟩ (.slice Ao35 t180.length co35)).heap[gb177]? = some (.cells #[.slice none 0 0, .int .i64 0, .int .i64 0, .int .i64 0, .slice none 0 0] 27 (0, 0))) := ⟨by (with_reducible repeat (first | refine blk_drewN ?_ _ | refine blk_drew ?_ | refine blk_alloc ?_ _)); refine blk_far ?_ NB177_176.out _; (with_reducible repeat (first | refine blk_drewN ?_ _ | refine blk_drew ?_ | refine blk_alloc ?_ _)); exact BK177.out⟩
     have n5_ : Aside0 (Kept w (w34.setCell ⟨gb176, 0, none⟩ (.slice Ao35 t180.length co35)) (fun k_ => P0_0_ k_ ∨ P0_4_ k_)) := ⟨by repeat (first | (with_reducible first | exact HK.out | apply Kept.alloc | apply Kept.drewN | apply Kept.drew | refine Kept.setCell ?_ (.inr GW176.out) _ | refine Kept.setCell ?_ (.inr GW177.out) _) | exact HK.out)⟩
     have n6_ : Aside0 (Below w0.heap.size w0 (w34.setCell ⟨gb176, 0, none⟩ (.slice Ao35 t180.length co35))) := ⟨belowg2 HB GE176 GE177⟩
     (try clear HO_7); (try clear HO_177000); (try clear HO182); (try clear BK176); (try clear BK177); (try clear HK); (try clear HB)
     generalize (w34.setCell ⟨gb176, 0, none⟩ (.slice Ao35 t180.length co35)) = w37 at n0_ n1_ n2_ n3_ n4_ n5_ n6_ ⊢
     have HO_7 := n0_
     have HO_177000 := n1_
     have HO182 := n2_
     have BK176 := n3_
     have BK177 := n4_
     have HK := n5_
     have HB := n6_
     clear n0_ n1_ n2_ n3_ n4_ n5_ n6_
     replace HO_7 := ak (Kd.R_drew HO_7.out)
     replace HO_177000 := ak (Kd.R_drew HO_177000.out)
     replace HO182 := ak (Kd.R_drew HO182.out)
     replace BK176 := ak (blk_drew BK176.out)
     replace BK177 := ak (blk_drew BK177.out)
     replace HK := ak (Kept.drew HK.out)
     replace HB := ak (below_drew1 HB.out)
     refine start_ (n := 7) (S := fun w' => w'.cell? ⟨gb176, 0, none⟩ = some (.slice Ao35 t180.length co35) ∧ w'.cell? ⟨gb176, 1, none⟩ = some (.int .i64 a0_1) ∧ w'.cell? ⟨gb176, 2, none⟩ = some (.int .i64 a0_2) ∧ w'.cell? ⟨gb176, 3, none⟩ = some (.int .i64 a0_3) ∧ w'.cell? ⟨gb176, 4, none⟩ = some (.slice Ao16 l0_4.length co16)) (ds := [6]) (bl 7 0) (by kernel_rfl) rfl rfl ⟨bq BK176 0, bq BK176 1, bq BK176 2, bq BK176 3, bq BK176 4⟩ (fun hHeld => ?_)
     generalize w37.drew = w38 at HO_7 HO_177000 HO182 BK176 BK177 HK HB hHeld ⊢
     refine pure_ (i := 0) (N := some 28) (v := ?_) (a' := ?_) (bl 7 1) rfl rfl (by kernel_rfl) (fun _ _ _ h => h) (Or.inl ⟨by rfl, ?_⟩) ?_ ?_
     rotate_left
     ·intro w'
      go_simp
      with_reducible rfl
     rotate_left
     ·simp only [Act.put, List.setIfInBounds_toArray, List.set_cons_zero, List.set_cons_succ, i64_w, i32_w]
      rfl
     refine pure_ (i := 2) (N := some 30) (v := ?_) (a' := ?_) (bl 7 5) rfl rfl (by kernel_rfl) (fun _ _ _ h => h) (Or.inl ⟨by rfl, ?_⟩) ?_ ?_
     rotate_left
     ·intro w'
      go_simp
      with_reducible rfl
     rotate_left
     ·simp only [Act.put, List.setIfInBounds_toArray, List.set_cons_zero, List.set_cons_succ, i64_w, i32_w]
      rfl
     refine take_ (i := 1) (N := some 29) (v := ?_) (a' := ?_) (bl 7 7) rfl rfl (by kernel_rfl) (fun _ _ _ h => h) (Or.inl ⟨by rfl, ?_⟩) hHeld ?_ ?_
     rotate_left
     ·rintro w' ⟨s0, s1, s2, s3, s4⟩
      go_simp
      with_reducible rfl
     rotate_left
     ·simp only [Act.put, List.setIfInBounds_toArray, List.set_cons_zero, List.set_cons_succ, i64_w, i32_w]
      rfl
     refine one_ (i := 3) (N := some 31) (bl 7 15) rfl rfl (by kernel_rfl) (by decide) (fun K hK => ?_)
     refine goes_ Try.func172 (by kernel_rfl) rfl #[.string a1] (by rfl) rfl rfl (by (try simp only [List.map_toArray, List.map_cons, List.map_nil]); first | done | rfl | (simp only [List.length_drop, List.length_take]; rfl)) ?_
     with_reducible refine (spec_l8Tag.calls kj13 a1 t183 _ A30.out).mono ?_
     rintro e w' ⟨rfl, ⟨nd, rfl⟩⟩
     refine ⟨_, rfl, ?_⟩
     refine hK.out _ _ ⟨bq BK176 0, bq BK176 1, bq BK176 2, bq BK176 3, bq BK176 4⟩ (fun hHeld => ?_)
     clear hK K
     refine norm_ (a' := ?_) ?_ ?_
     rotate_left
     ·show Act.put _ (some 31) _ = _
      simp only [Act.put, List.setIfInBounds_toArray, List.set_cons_zero, List.set_cons_succ, i64_w, i32_w]
      rfl
     refine one_ (i := 4) (N := some 32) (bl 7 31) rfl rfl (by kernel_rfl) (by decide) (fun K hK => ?_)
     refine goes_ Try.func176 (by kernel_rfl) rfl #[.slice Ao16 l0_4.length co16, .int .i64 t183] (by rfl) rfl rfl (by (try simp only [List.map_toArray, List.map_cons, List.map_nil]); first | done | rfl | (simp only [List.length_drop, List.length_take]; rfl)) ?_
     with_reducible refine (spec_l1Put.calls kj13 (fun k_ => some k_ = (.slice Ao16 l0_4.length co16 : Value).ownBlock) (.slice Ao16 l0_4.length co16) l0_4 t183 t184 w0 _ ?side1 ?side2 A31.out).mono ?_
     (case side1 => repeat (first | (with_reducible first | exact HB.out | apply below_alloc | apply pw_below_drewN | apply below_drew1 | refine below_set ?_ GE176.out | refine below_set ?_ GE177.out) | exact HB.out))
     (case side2 => exact Kd.R_tight rfl HO_7.out)
     rintro e w39 ⟨v185, rfl, ho0, hb, hkp⟩
     refine ⟨_, rfl, ?_⟩
     replace HO_177000 := ak (Kd.R_mono (ok' := fun k_ => ((P0_0_ k_ ∨ P0_4_ k_) ∨ w.heap.size ≤ k_) ∧ some k_ ≠ (.slice Ao35 t180.length co35 : Value).ownBlock) (Kd.R_keptB ((Kd.R_apart' HO_177000.out (Kd.R_typed HO_7.out) (by decide))) hkp (fun k_ hk_ hs_ => (hk_.2) hs_)) (fun k_ hk_ => ⟨hk_.1.1.1, hk_.1.1.2⟩))
     replace BK176 := ak (blk_kept (blkd BK176) hkp (fun hs_ => (fun e_ => (Kd.R_ne HO_7.out BK176.out (by decide)) e_) hs_))
     replace BK177 := ak (blk_kept (blkd BK177) hkp (fun hs_ => (fun e_ => (Kd.R_ne HO_7.out BK177.out (by decide)) e_) hs_))
     replace HO182 := ak (Kd.R_mono (ok' := fun k_ => ((P0_0_ k_ ∨ P0_4_ k_) ∨ w.heap.size ≤ k_) ∧ some k_ ≠ (.slice Ao15 l0_0.length co15 : Value).ownBlock) (Kd.R_keptB ((Kd.R_apart' HO182.out (Kd.R_typed HO_7.out) (by decide))) hkp (fun k_ hk_ hs_ => (hk_.2) hs_)) (fun k_ hk_ => ⟨hk_.1.1.1, hk_.1.1.2⟩))
     have HO186 := ak (Kd.R_mono (ok' := fun k_ => ((P0_0_ k_ ∨ P0_4_ k_) ∨ w.heap.size ≤ k_)) ho0 (fun k_ hk_ => Or.elim hk_ (fun hs_ => (HO_7.out.1 k_ (hs_).symm)) (fun hn_ => (.inr (Nat.le_trans (by first | exact HK.out.1 | exact (show Kept w _ (fun k_ => P0_0_ k_ ∨ P0_4_ k_) from by repeat (first | (with_reducible first | exact HK.out | apply Kept.alloc | apply Kept.drewN | apply Kept.drew | refine Kept.setCell ?_ (.inr GW176.out) _ | refine Kept.setCell ?_ (.inr GW177.out) _) | exact HK.out)).1) hn_)))))
     replace HK := ak (Kept.then_ (S := (fun k_ => P0_0_ k_ ∨ P0_4_ k_)) (by repeat (first | (with_reducible first | exact HK.out | apply Kept.alloc | apply Kept.drewN | apply Kept.drew | refine Kept.setCell ?_ (.inr GW176.out) _ | refine Kept.setCell ?_ (.inr GW177.out) _) | exact HK.out)) hkp (fun k_ hs_ => (fun e_ => (HO_7.out.1 k_ e_.symm)) hs_))
     replace HB := ak (hb)
     clear HO_7; (try clear hb); (try clear hkp); (try clear ho0)
     obtain ⟨Ao40, co40, eo40⟩ := Kd.R_slice HO186.out
     (first | subst eo40 | (injection eo40 with f1_ f2_ f3_; have f4_ := f1_.symm; have f5_ := f3_.symm; clear f1_ f2_ f3_; subst f4_; subst f5_))
     refine hK.out _ _ ⟨bq BK176 0, bq BK176 1, bq BK176 2, bq BK176 3, bq BK176 4⟩ (fun hHeld => ?_)
     clear hK K
     refine norm_ (a' := ?_) ?_ ?_
     rotate_left
     ·show Act.put _ (some 32) _ = _
      simp only [Act.put, List.setIfInBounds_toArray, List.set_cons_zero, List.set_cons_succ, i64_w, i32_w]
      rfl
     refine pure_ (i := 5) (N := some 33) (v := ?_) (a' := ?_) (bl 7 63) rfl rfl (by kernel_rfl) (fun _ _ _ h => h) (Or.inl ⟨by rfl, ?_⟩) ?_ ?_
     rotate_left
     ·intro w'
      go_simp
      with_reducible rfl
     rotate_left
     ·simp only [Act.put, List.setIfInBounds_toArray, List.set_cons_zero, List.set_cons_succ, i64_w, i32_w]
      rfl
     refine last_ (i := 6) (N := none) (bl 7 127) rfl rfl (by kernel_rfl) (by decide) (fun K hK => ?_)
     have hs41 : w39.cell? ⟨gb176, 4, none⟩ = some (.slice Ao16 l0_4.length co16) := bq BK176 4
     have hfs41 := blk_frozen BK176.out 4
     have hns41_1 := NB177_176.out; have hms41_1 := NB176_177.out
     refine skip_ (w1 := ?_) (by rfl) rfl ?_ ?_
     rotate_left
     ·go_simp
      rfl
     refine hK.out _ _ ?_
     clear hK K
     refine done_ (by kernel_rfl) ?_
     obtain ⟨hcz42_0, hcz42_1, hcz42_2, hcz42_3, hcz42_4, hfz42_0, hfz42_1, hfz42_2, hfz42_3, hfz42_4⟩ := box5 BK176; obtain ⟨hcz43_0, hcz43_1, hcz43_2, hcz43_3, hcz43_4, hfz43_0, hfz43_1, hfz43_2, hfz43_3, hfz43_4⟩ := box5 BK177
     try go_wp2
     refine bodyPost_ret (results_ct rfl _ _ gb177 27 #[.slice Ao35 t180.length co35, .int .i64 a0_1, .int .i64 a0_2, .int .i64 a0_3, .slice Ao40 t184.length co40] (0, 0) _ rfl (by (with_reducible repeat (first | refine blk_drewN ?_ _ | refine blk_drew ?_ | refine blk_alloc ?_ _)); refine blk_put (cs := #[.slice Ao35 t180.length co35, .int .i64 a0_1, .int .i64 a0_2, .int .i64 a0_3, .slice none 0 0]) ?_ 4 _ rfl; (with_reducible repeat (first | refine blk_drewN ?_ _ | refine blk_drew ?_ | refine blk_alloc ?_ _)); refine blk_put (cs := #[.slice Ao35 t180.length co35, .int .i64 a0_1, .int .i64 a0_2, .int .i64 0, .slice none 0 0]) ?_ 3 _ rfl; (with_reducible repeat (first | refine blk_drewN ?_ _ | refine blk_drew ?_ | refine blk_alloc ?_ _)); refine blk_put (cs := #[.slice Ao35 t180.length co35, .int .i64 a0_1, .int .i64 0, .int .i64 0, .slice none 0 0]) ?_ 2 _ rfl; (with_reducible repeat (first | refine blk_drewN ?_ _ | refine blk_drew ?_ | refine blk_alloc ?_ _)); refine blk_put (cs := #[.slice Ao35 t180.length co35, .int .i64 0, .int .i64 0, .int .i64 0, .slice none 0 0]) ?_ 1 _ rfl; (with_reducible repeat (first | refine blk_drewN ?_ _ | refine blk_drew ?_ | refine blk_alloc ?_ _)); refine blk_put (cs := #[.slice none 0 0, .int .i64 0, .int .i64 0, .int .i64 0, .slice none 0 0]) ?_ 0 _ rfl; (with_reducible repeat (first | refine blk_drewN ?_ _ | refine blk_drew ?_ | refine blk_alloc ?_ _)); refine blk_far ?_ NB177_176.out _; (with_reducible repeat (first | refine blk_drewN ?_ _ | refine blk_drew ?_ | refine blk_alloc ?_ _)); exact BK177.out) Try.underlying27 rfl (by kernel_rfl)) rfl ?_
     exact ⟨_, _, er2, by (with_reducible repeat (first | apply Kd.R_alloc | apply Kd.R_drewN | apply Kd.R_drew)); exact Kd.R_mono (farsR (Kd.R_types (Kd.R_types HO182.out BK176.out (by decide)) BK177.out (by decide))) (fun _ hk => hk.1.1.1), by (with_reducible repeat (first | apply Kd.R_alloc | apply Kd.R_drewN | apply Kd.R_drew)); exact Kd.R_mono (farsR (Kd.R_types (Kd.R_types HO186.out BK176.out (by decide)) BK177.out (by decide))) (fun _ hk => hk.1.1), belowg2 HB GE176 GE177, by repeat (first | (with_reducible first | exact HK.out | apply Kept.alloc | apply Kept.drewN | apply Kept.drew | refine Kept.setCell ?_ (.inr GW176.out) _ | refine Kept.setCell ?_ (.inr GW177.out) _) | exact HK.out)⟩

/-! ### spec_l1In: function 153 -/
def spec_l1In.f (a0 : Int) (a1 : Int) (a2 : Int) : Option (Bool) := if a0 ≥ a1 then (some (decide (a0 ≤ a2))) else (some false)
set_option maxHeartbeats 8000000 in
set_option maxRecDepth 100000 in
theorem spec_l1In.calls (a0 : Int) (a1 : Int) (a2 : Int) (r : Bool) (w : World) (h : spec_l1In.f a0 a1 a2 = some r) :
  Calls Try.prog 153 #[.int .i64 a0, .int .i64 a1, .int .i64 a2] w fun e w' => e = .returned (.bool r) ∧ Drawn0 w w' := by
 have H : (if a0 ≥ a1 then (some (decide (a0 ≤ a2))) else (some false)) = some r := h
 clear h
 by_cases c4 : a0 ≥ a1
 ·rw [if_pos c4] at H
  have c4b0 : decide (a1 ≤ a0) = true := decide_eq_true c4
  clear c4
  obtain rfl := Option.some.inj H
  go_enter Try.func153, Try.ntmps153
  go_wp2
  go_ret
  exact ⟨er, drw⟩
 ·rw [if_neg c4] at H
  have c4b0 : decide (a1 ≤ a0) = false := decide_eq_false c4
  clear c4
  obtain rfl := Option.some.inj H
  go_enter Try.func153, Try.ntmps153
  go_wp2
  go_ret
  exact ⟨er, drw⟩

/-! ### spec_NewMix: function 110 -/
def spec_NewMix.f (a0 : Int) (a1 : Int) : Option (List ByteArray × Int × Int × Int × List Int × Bool) := (spec_l1In.f a0 1 12).bind fun t188 => (if t188 = true then ((spec_l1In.f a1 1 10).bind fun t189 => (if t189 = true then (some (([] : List ByteArray), a0, a1, 0, ([] : List Int), true)) else (some (([] : List ByteArray), 0, 0, 0, ([] : List Int), false)))) else (some (([] : List ByteArray), 0, 0, 0, ([] : List Int), false)))
set_option maxHeartbeats 8000000 in
set_option maxRecDepth 100000 in
theorem spec_NewMix.calls (a0 : Int) (a1 : Int) (r1 : List ByteArray) (r2 : Int) (r3 : Int) (r4 : Int) (r5 : List Int) (r6 : Bool) (w : World) (h : spec_NewMix.f a0 a1 = some (r1, r2, r3, r4, r5, r6)) :
  Calls Try.prog 110 #[.int .i64 a0, .int .i64 a1] w fun e w' => ∃ v0_ v4_ : Value, e = .returned (.tuple #[.agg #[v0_, .int .i64 r2, .int .i64 r3, .int .i64 r4, v4_], .bool r6]) ∧ Kd.R Kd.string 9 w' w.heap.size (fun _ => True) v0_ r1 ∧ Kd.R (Kd.int .i64) 3 w' w.heap.size (fun _ => True) v4_ r5 ∧ Below w.heap.size w w' := by
 have hu27 := Try.underlying27
 have HB := Aside0.mk (Below.refl w.heap.size w)
 have H : ((spec_l1In.f a0 1 12).bind fun t188 => (if t188 = true then ((spec_l1In.f a1 1 10).bind fun t189 => (if t189 = true then (some (([] : List ByteArray), a0, a1, 0, ([] : List Int), true)) else (some (([] : List ByteArray), 0, 0, 0, ([] : List Int), false)))) else (some (([] : List ByteArray), 0, 0, 0, ([] : List Int), false)))) = some (r1, r2, r3, r4, r5, r6) := h
 clear h; replace H := bS H; obtain ⟨t188, A3, H⟩ := H
 replace H : (if t188 = true then ((spec_l1In.f a1 1 10).bind fun t189 => (if t189 = true then (some (([] : List ByteArray), a0, a1, 0, ([] : List Int), true)) else (some (([] : List ByteArray), 0, 0, 0, ([] : List Int), false)))) else (some (([] : List ByteArray), 0, 0, 0, ([] : List Int), false))) = some (r1, r2, r3, r4, r5, r6) := H
 by_cases c4 : t188 = true
 ·subst c4
  have H1 : ((spec_l1In.f a1 1 10).bind fun t189 => (if t189 = true then (some (([] : List ByteArray), a0, a1, 0, ([] : List Int), true)) else (some (([] : List ByteArray), 0, 0, 0, ([] : List Int), false)))) = some (r1, r2, r3, r4, r5, r6) := by rw [if_pos rfl] at H; exact H
  clear H
  have H := H1
  clear H1; replace H := bS H; obtain ⟨t189, A5, H⟩ := H
  replace H : (if t189 = true then (some (([] : List ByteArray), a0, a1, 0, ([] : List Int), true)) else (some (([] : List ByteArray), 0, 0, 0, ([] : List Int), false))) = some (r1, r2, r3, r4, r5, r6) := H
  by_cases c6 : t189 = true
  ·subst c6
   have H1 : (some (([] : List ByteArray), a0, a1, 0, ([] : List Int), true)) = some (r1, r2, r3, r4, r5, r6) := by rw [if_pos rfl] at H; exact H
   clear H
   have H := H1
   clear H1
   simp only [Option.some.injEq, Prod.mk.injEq] at H
   obtain ⟨rfl, rfl, rfl, rfl, rfl, rfl⟩ := H
   go_enter Try.func110, Try.ntmps110
   go_wp2_with (first | ((with_reducible refine gate_dst (N := 4) rfl ?_); refine boxev 4 #[.slice none 0 0, .int .i64 0, .int .i64 0, .int .i64 0, .slice none 0 0] 27 ?_; intro gb187 hg w7 hbox hb; have BK187 := ak (hbox); have GW187 := ak (hgl hg (belowd HB)); have GE187 := ak (hgl hg (belowd HB)); replace HB := ak (below_step (belowd HB) hb); clear hb hbox hg) | ((with_reducible refine gate_callee (f := 153) rfl ?_); refine goesLa (some 7) rfl Try.func153 #[.int .i64 a0, .int .i64 1, .int .i64 12] rfl ?_; (with_reducible refine (spec_l1In.calls a0 1 12 true _ A3.out).mono ?_); rintro e w' ⟨rfl, ⟨nd, rfl⟩⟩; refine ⟨_, rfl, ?_⟩; (try (rw [drewN_self w7]; generalize hq_ : World.drewN w7 _ = w7; have n0_ : Aside0 (w7.heap[gb187]? = some (.cells #[.slice none 0 0, .int .i64 0, .int .i64 0, .int .i64 0, .slice none 0 0] 27 (0, 0))) := ⟨by rw [← hq_]; exact (blkd BK187)⟩; have n1_ : Aside0 (Below w.heap.size w w7) := ⟨by rw [← hq_]; exact (belowg1 HB GE187)⟩; clear BK187 HB hq_; have BK187 := n0_; have HB := n1_; clear n0_ n1_))) | (go_at_call 153; (with_reducible refine (spec_l1In.calls a1 1 10 true _ A5.out).mono ?_); rintro e w' ⟨rfl, ⟨nd, rfl⟩⟩; (try (rw [drewN_self w7]; generalize hq_ : World.drewN w7 _ = w7; have n0_ : Aside0 (w7.heap[gb187]? = some (.cells #[.slice none 0 0, .int .i64 0, .int .i64 0, .int .i64 0, .slice none 0 0] 27 (0, 0))) := ⟨by rw [← hq_]; exact (blkd BK187)⟩; have n1_ : Aside0 (Below w.heap.size w w7) := ⟨by rw [← hq_]; exact (belowg1 HB GE187)⟩; clear BK187 HB hq_; have BK187 := n0_; have HB := n1_; clear n0_ n1_)); obtain ⟨hcz8_0, hcz8_1, hcz8_2, hcz8_3, hcz8_4, hfz8_0, hfz8_1, hfz8_2, hfz8_3, hfz8_4⟩ := box5 BK187))
   refine bodyPost_ret (results_ct rfl _ _ gb187 27 #[.slice none 0 0, .int .i64 a0, .int .i64 a1, .int .i64 0, .slice none 0 0] (0, 0) _ rfl (by (with_reducible repeat (first | refine blk_drewN ?_ _ | refine blk_drew ?_ | refine blk_alloc ?_ _)); refine blk_put (cs := #[.slice none 0 0, .int .i64 a0, .int .i64 a1, .int .i64 0, .slice none 0 0]) ?_ 4 _ rfl; (with_reducible repeat (first | refine blk_drewN ?_ _ | refine blk_drew ?_ | refine blk_alloc ?_ _)); refine blk_put (cs := #[.slice none 0 0, .int .i64 a0, .int .i64 a1, .int .i64 0, .slice none 0 0]) ?_ 3 _ rfl; (with_reducible repeat (first | refine blk_drewN ?_ _ | refine blk_drew ?_ | refine blk_alloc ?_ _)); refine blk_put (cs := #[.slice none 0 0, .int .i64 a0, .int .i64 0, .int .i64 0, .slice none 0 0]) ?_ 2 _ rfl; (with_reducible repeat (first | refine blk_drewN ?_ _ | refine blk_drew ?_ | refine blk_alloc ?_ _)); refine blk_put (cs := #[.slice none 0 0, .int .i64 0, .int .i64 0, .int .i64 0, .slice none 0 0]) ?_ 1 _ rfl; (with_reducible repeat (first | refine blk_drewN ?_ _ | refine blk_drew ?_ | refine blk_alloc ?_ _)); refine blk_put (cs := #[.slice none 0 0, .int .i64 0, .int .i64 0, .int .i64 0, .slice none 0 0]) ?_ 0 _ rfl; (with_reducible repeat (first | refine blk_drewN ?_ _ | refine blk_drew ?_ | refine blk_alloc ?_ _)); exact BK187.out) Try.underlying27 rfl (by kernel_rfl)) rfl ?_
   exact ⟨_, _, er2, by first | exact Kd.R_nil _ _ _ _ _ | exact Kd.N_nil _ _ _ _ _ | exact Kd.V_nil _ _ _ _ _ | exact Kd.Q_nil _ _ _ _ _ | exact Kd.S_nil _ _ _ _ _, by first | exact Kd.R_nil _ _ _ _ _ | exact Kd.N_nil _ _ _ _ _ | exact Kd.V_nil _ _ _ _ _ | exact Kd.Q_nil _ _ _ _ _ | exact Kd.S_nil _ _ _ _ _, belowg1 HB GE187⟩
  ·replace c6 := Bool.eq_false_iff.mpr c6
   subst c6
   have H1 : (some (([] : List ByteArray), 0, 0, 0, ([] : List Int), false)) = some (r1, r2, r3, r4, r5, r6) := by rw [if_neg (show ¬ (false = true) by decide)] at H; exact H
   clear H
   have H := H1
   clear H1
   simp only [Option.some.injEq, Prod.mk.injEq] at H
   obtain ⟨rfl, rfl, rfl, rfl, rfl, rfl⟩ := H
   go_enter Try.func110, Try.ntmps110
   go_wp2_with (first | ((with_reducible refine gate_dst (N := 4) rfl ?_); refine boxev 4 #[.slice none 0 0, .int .i64 0, .int .i64 0, .int .i64 0, .slice none 0 0] 27 ?_; intro gb187 hg w9 hbox hb; have BK187 := ak (hbox); have GW187 := ak (hgl hg (belowd HB)); have GE187 := ak (hgl hg (belowd HB)); replace HB := ak (below_step (belowd HB) hb); clear hb hbox hg) | ((with_reducible refine gate_callee (f := 153) rfl ?_); refine goesLa (some 7) rfl Try.func153 #[.int .i64 a0, .int .i64 1, .int .i64 12] rfl ?_; (with_reducible refine (spec_l1In.calls a0 1 12 true _ A3.out).mono ?_); rintro e w' ⟨rfl, ⟨nd, rfl⟩⟩; refine ⟨_, rfl, ?_⟩; (try (rw [drewN_self w9]; generalize hq_ : World.drewN w9 _ = w9; have n0_ : Aside0 (w9.heap[gb187]? = some (.cells #[.slice none 0 0, .int .i64 0, .int .i64 0, .int .i64 0, .slice none 0 0] 27 (0, 0))) := ⟨by rw [← hq_]; exact (blkd BK187)⟩; have n1_ : Aside0 (Below w.heap.size w w9) := ⟨by rw [← hq_]; exact (belowg1 HB GE187)⟩; clear BK187 HB hq_; have BK187 := n0_; have HB := n1_; clear n0_ n1_))) | (go_at_call 153; (with_reducible refine (spec_l1In.calls a1 1 10 false _ A5.out).mono ?_); rintro e w' ⟨rfl, ⟨nd, rfl⟩⟩; (try (rw [drewN_self w9]; generalize hq_ : World.drewN w9 _ = w9; have n0_ : Aside0 (w9.heap[gb187]? = some (.cells #[.slice none 0 0, .int .i64 0, .int .i64 0, .int .i64 0, .slice none 0 0] 27 (0, 0))) := ⟨by rw [← hq_]; exact (blkd BK187)⟩; have n1_ : Aside0 (Below w.heap.size w w9) := ⟨by rw [← hq_]; exact (belowg1 HB GE187)⟩; clear BK187 HB hq_; have BK187 := n0_; have HB := n1_; clear n0_ n1_)); obtain ⟨hcz10_0, hcz10_1, hcz10_2, hcz10_3, hcz10_4, hfz10_0, hfz10_1, hfz10_2, hfz10_3, hfz10_4⟩ := box5 BK187))
   refine bodyPost_ret (results_ct rfl _ _ gb187 27 #[.slice none 0 0, .int .i64 0, .int .i64 0, .int .i64 0, .slice none 0 0] (0, 0) _ rfl (by (with_reducible repeat (first | refine blk_drewN ?_ _ | refine blk_drew ?_ | refine blk_alloc ?_ _)); refine blk_put (cs := #[.slice none 0 0, .int .i64 0, .int .i64 0, .int .i64 0, .slice none 0 0]) ?_ 4 _ rfl; (with_reducible repeat (first | refine blk_drewN ?_ _ | refine blk_drew ?_ | refine blk_alloc ?_ _)); refine blk_put (cs := #[.slice none 0 0, .int .i64 0, .int .i64 0, .int .i64 0, .slice none 0 0]) ?_ 3 _ rfl; (with_reducible repeat (first | refine blk_drewN ?_ _ | refine blk_drew ?_ | refine blk_alloc ?_ _)); refine blk_put (cs := #[.slice none 0 0, .int .i64 0, .int .i64 0, .int .i64 0, .slice none 0 0]) ?_ 2 _ rfl; (with_reducible repeat (first | refine blk_drewN ?_ _ | refine blk_drew ?_ | refine blk_alloc ?_ _)); refine blk_put (cs := #[.slice none 0 0, .int .i64 0, .int .i64 0, .int .i64 0, .slice none 0 0]) ?_ 1 _ rfl; (with_reducible repeat (first | refine blk_drewN ?_ _ | refine blk_drew ?_ | refine blk_alloc ?_ _)); refine blk_put (cs := #[.slice none 0 0, .int .i64 0, .int .i64 0, .int .i64 0, .slice none 0 0]) ?_ 0 _ rfl; (with_reducible repeat (first | refine blk_drewN ?_ _ | refine blk_drew ?_ | refine blk_alloc ?_ _)); exact BK187.out) Try.underlying27 rfl (by kernel_rfl)) rfl ?_
   exact ⟨_, _, er2, by first | exact Kd.R_nil _ _ _ _ _ | exact Kd.N_nil _ _ _ _ _ | exact Kd.V_nil _ _ _ _ _ | exact Kd.Q_nil _ _ _ _ _ | exact Kd.S_nil _ _ _ _ _, by first | exact Kd.R_nil _ _ _ _ _ | exact Kd.N_nil _ _ _ _ _ | exact Kd.V_nil _ _ _ _ _ | exact Kd.Q_nil _ _ _ _ _ | exact Kd.S_nil _ _ _ _ _, belowg1 HB GE187⟩
 ·replace c4 := Bool.eq_false_iff.mpr c4
  subst c4
  have H1 : (some (([] : List ByteArray), 0, 0, 0, ([] : List Int), false)) = some (r1, r2, r3, r4, r5, r6) := by rw [if_neg (show ¬ (false = true) by decide)] at H; exact H
  clear H
  have H := H1
  clear H1
  simp only [Option.some.injEq, Prod.mk.injEq] at H
  obtain ⟨rfl, rfl, rfl, rfl, rfl, rfl⟩ := H
  go_enter Try.func110, Try.ntmps110
  go_wp2_with (first | ((with_reducible refine gate_dst (N := 4) rfl ?_); refine boxev 4 #[.slice none 0 0, .int .i64 0, .int .i64 0, .int .i64 0, .slice none 0 0] 27 ?_; intro gb187 hg w11 hbox hb; have BK187 := ak (hbox); have GW187 := ak (hgl hg (belowd HB)); have GE187 := ak (hgl hg (belowd HB)); replace HB := ak (below_step (belowd HB) hb); clear hb hbox hg) | ((with_reducible refine gate_callee (f := 153) rfl ?_); refine goesLa (some 7) rfl Try.func153 #[.int .i64 a0, .int .i64 1, .int .i64 12] rfl ?_; (with_reducible refine (spec_l1In.calls a0 1 12 false _ A3.out).mono ?_); rintro e w' ⟨rfl, ⟨nd, rfl⟩⟩; refine ⟨_, rfl, ?_⟩; (try (rw [drewN_self w11]; generalize hq_ : World.drewN w11 _ = w11; have n0_ : Aside0 (w11.heap[gb187]? = some (.cells #[.slice none 0 0, .int .i64 0, .int .i64 0, .int .i64 0, .slice none 0 0] 27 (0, 0))) := ⟨by rw [← hq_]; exact (blkd BK187)⟩; have n1_ : Aside0 (Below w.heap.size w w11) := ⟨by rw [← hq_]; exact (belowg1 HB GE187)⟩; clear BK187 HB hq_; have BK187 := n0_; have HB := n1_; clear n0_ n1_)); obtain ⟨hcz12_0, hcz12_1, hcz12_2, hcz12_3, hcz12_4, hfz12_0, hfz12_1, hfz12_2, hfz12_3, hfz12_4⟩ := box5 BK187))
  refine bodyPost_ret (results_ct rfl _ _ gb187 27 #[.slice none 0 0, .int .i64 0, .int .i64 0, .int .i64 0, .slice none 0 0] (0, 0) _ rfl (by (with_reducible repeat (first | refine blk_drewN ?_ _ | refine blk_drew ?_ | refine blk_alloc ?_ _)); refine blk_put (cs := #[.slice none 0 0, .int .i64 0, .int .i64 0, .int .i64 0, .slice none 0 0]) ?_ 4 _ rfl; (with_reducible repeat (first | refine blk_drewN ?_ _ | refine blk_drew ?_ | refine blk_alloc ?_ _)); refine blk_put (cs := #[.slice none 0 0, .int .i64 0, .int .i64 0, .int .i64 0, .slice none 0 0]) ?_ 3 _ rfl; (with_reducible repeat (first | refine blk_drewN ?_ _ | refine blk_drew ?_ | refine blk_alloc ?_ _)); refine blk_put (cs := #[.slice none 0 0, .int .i64 0, .int .i64 0, .int .i64 0, .slice none 0 0]) ?_ 2 _ rfl; (with_reducible repeat (first | refine blk_drewN ?_ _ | refine blk_drew ?_ | refine blk_alloc ?_ _)); refine blk_put (cs := #[.slice none 0 0, .int .i64 0, .int .i64 0, .int .i64 0, .slice none 0 0]) ?_ 1 _ rfl; (with_reducible repeat (first | refine blk_drewN ?_ _ | refine blk_drew ?_ | refine blk_alloc ?_ _)); refine blk_put (cs := #[.slice none 0 0, .int .i64 0, .int .i64 0, .int .i64 0, .slice none 0 0]) ?_ 0 _ rfl; (with_reducible repeat (first | refine blk_drewN ?_ _ | refine blk_drew ?_ | refine blk_alloc ?_ _)); exact BK187.out) Try.underlying27 rfl (by kernel_rfl)) rfl ?_
  exact ⟨_, _, er2, by first | exact Kd.R_nil _ _ _ _ _ | exact Kd.N_nil _ _ _ _ _ | exact Kd.V_nil _ _ _ _ _ | exact Kd.Q_nil _ _ _ _ _ | exact Kd.S_nil _ _ _ _ _, by first | exact Kd.R_nil _ _ _ _ _ | exact Kd.N_nil _ _ _ _ _ | exact Kd.V_nil _ _ _ _ _ | exact Kd.Q_nil _ _ _ _ _ | exact Kd.S_nil _ _ _ _ _, belowg1 HB GE187⟩

/-! ### spec_l8Text: function 95 -/
def spec_l8Text.f (a0 : ByteArray) : Option (Bool) := some (decide ((a0.size : Int) ≤ 24))
set_option maxHeartbeats 8000000 in
set_option maxRecDepth 100000 in
theorem spec_l8Text.calls (a0 : ByteArray) (r : Bool) (w : World) (h : spec_l8Text.f a0 = some r) :
  Calls Try.prog 95 #[.string a0] w fun e w' => e = .returned (.bool r) ∧ Drawn0 w w' := by
 have H : (some (decide ((a0.size : Int) ≤ 24))) = some r := h
 clear h
 obtain rfl := Option.some.inj H
 go_enter Try.func95, Try.ntmps95
 go_wp2
 go_ret
 exact ⟨er, drw⟩

/-! ### spec_l8Pool: function 111 -/
def spec_l8Pool.l0 : Nat → List ByteArray → List ByteArray → Int → Int → Option (Bool)
  | 0, _, _, _, _ => none
  | k + 1, x0, x5, x6, x7 => if x7 < x6 then (if 0 ≤ x7 then (if x7 < (x5.length : Int) then ((spec_l8Text.f (rdOf ByteArray.empty x5 x7)).bind fun t191 => (if t191 = true then (spec_l8Pool.l0 k x0 x5 x6 (wrap64 (x7 + 1))) else (some false))) else (none)) else (none)) else (some (decide ((x0.length : Int) ≤ 12)))
def spec_l8Pool.f (k : Nat) (l0 : List ByteArray) : Option (Bool) := spec_l8Pool.l0 k l0 l0 (l0.length : Int) 0
theorem spec_l8Pool.mono_l : ∀ k, (∀ y0 y1 y2 y3, LeO (spec_l8Pool.l0 k y0 y1 y2 y3) (spec_l8Pool.l0 (k + 1) y0 y1 y2 y3))
 | 0 => fun _ _ _ _ r h => by simp [spec_l8Pool.l0] at h
 | k + 1 => by
  have ih0 := spec_l8Pool.mono_l k
  ·intro y0 y1 y2 y3
   unfold spec_l8Pool.l0
   repeat' (first | (with_reducible first | exact ih0 _ _ _ _ | exact LeO.refl _ | exact LeO.none _ | refine LeO.ite ?_ ?_ | refine LeO.bind ?_ (fun _ => ?_)) | exact ih0 _ _ _ _ | exact LeO.none _ | refine LeO.ite ?_ ?_ | refine LeO.bind ?_ (fun _ => ?_))
theorem spec_l8Pool.mono : ∀ a0 k, LeO (spec_l8Pool.f k a0) (spec_l8Pool.f (k + 1) a0) := by
 intro a0 k
 have ih0 := spec_l8Pool.mono_l k
 unfold spec_l8Pool.f
 repeat' (first | (with_reducible first | exact ih0 _ _ _ _ | exact LeO.refl _ | exact LeO.none _ | refine LeO.ite ?_ ?_ | refine LeO.bind ?_ (fun _ => ?_)) | exact ih0 _ _ _ _ | exact LeO.none _ | refine LeO.ite ?_ ?_ | refine LeO.bind ?_ (fun _ => ?_))
set_option maxHeartbeats 8000000 in
set_option maxRecDepth 100000 in
theorem spec_l8Pool.calls (k : Nat) (A0 : Option Addr) (c0 : Nat) (l0 : List ByteArray) (r : Bool) (w : World) (hr0 : Kd.C Kd.string w A0 l0.length l0) (hc0 : l0.length ≤ c0) (h : spec_l8Pool.f k l0 = some r) :
  Calls Try.prog 111 #[.slice A0 l0.length c0] w fun e w' => e = .returned (.bool r) ∧ Drawn0 w w' := by
 have HR0 := Aside0.mk hr0; have HC0 := Aside0.mk hc0; clear hr0 hc0
 have H : (spec_l8Pool.l0 k l0 l0 (l0.length : Int) 0) = some r := h
 clear h
 have H' := Aside0.mk H
 clear H
 go_enter Try.func111, Try.ntmps111
 go_wp2
 go_loopg [7] k (fun kq v7 w' => ∃ (x7_1 : Int), v7 = .int .i64 x7_1 ∧ Aside0 (spec_l8Pool.l0 kq l0 l0 (l0.length : Int) x7_1 = some r) ∧ Aside0 (kq ≤ k) ∧ Drawn0 w w')
 case atStart => exact ⟨(0), er, H', ⟨Nat.le_refl _⟩, drw⟩
 case round =>
  clear H'
  obtain ⟨x7_1, rfl, HA, HK1, ⟨m1, rfl⟩⟩ := hrel
  cases gk with
  | zero => exact absurd HA.out (by simp [spec_l8Pool.l0])
  | succ k1 =>
   have H := HA.out; clear HA
   simp only [spec_l8Pool.l0] at H
   by_cases c2 : x7_1 < (l0.length : Int)
   ·rw [if_pos c2] at H
    have c2b0 : decide (x7_1 < (l0.length : Int)) = true := decide_eq_true c2
    clear c2; replace H := ifS H; obtain ⟨c3, H⟩ := H; have c3b0 := decide_eq_true c3; clear c3; replace H := ifS H; obtain ⟨c4, H⟩ := H; have c4b0 := decide_eq_true c4; clear c4; replace H := bS H; obtain ⟨t191, A5, H⟩ := H
    replace H : (if t191 = true then (spec_l8Pool.l0 k1 l0 l0 (l0.length : Int) (wrap64 (x7_1 + 1))) else (some false)) = some r := H
    by_cases c6 : t191 = true
    ·subst c6
     have H1 : (spec_l8Pool.l0 k1 l0 l0 (l0.length : Int) (wrap64 (x7_1 + 1))) = some r := by rw [if_pos rfl] at H; exact H
     clear H
     have H := H1
     clear H1
     have H' := Aside0.mk H
     clear H
     have p190 : 0 ≤ (x7_1 : Int) := da
     have q190 : x7_1 < (l0.length : Int) := da
     obtain ⟨ad190, e190, hx190_0⟩ := Kd.at_string HR0.out x7_1 p190 q190
     cases e190
     replace p190 := eq_true p190; replace q190 := eq_true q190
     go_wp2_with (first | ((with_reducible refine gate_callee (f := 95) rfl ?_); refine goesLa (some 12) rfl Try.func95 #[.string (rdOf ByteArray.empty l0 x7_1)] rfl ?_; (with_reducible refine (spec_l8Text.calls (rdOf ByteArray.empty l0 x7_1) true _ A5.out).mono ?_); rintro e w' ⟨rfl, ⟨nd, rfl⟩⟩; refine ⟨_, rfl, ?_⟩))
     go_roundg k1
     case measure => have := HK1.out; omega
     case rel => exact ⟨(wrap64 (x7_1 + 1)), er, H', ⟨by have := HK1.out; omega⟩, drw⟩
    ·replace c6 := Bool.eq_false_iff.mpr c6
     subst c6
     have H1 : (some false) = some r := by rw [if_neg (show ¬ (false = true) by decide)] at H; exact H
     clear H
     have H := H1
     clear H1
     obtain rfl := Option.some.inj H
     have p190 : 0 ≤ (x7_1 : Int) := da
     have q190 : x7_1 < (l0.length : Int) := da
     obtain ⟨ad190, e190, hx190_0⟩ := Kd.at_string HR0.out x7_1 p190 q190
     cases e190
     replace p190 := eq_true p190; replace q190 := eq_true q190
     go_wp2_with (first | ((with_reducible refine gate_callee (f := 95) rfl ?_); refine goesLa (some 12) rfl Try.func95 #[.string (rdOf ByteArray.empty l0 x7_1)] rfl ?_; (with_reducible refine (spec_l8Text.calls (rdOf ByteArray.empty l0 x7_1) false _ A5.out).mono ?_); rintro e w' ⟨rfl, ⟨nd, rfl⟩⟩; refine ⟨_, rfl, ?_⟩))
     go_ret
     exact ⟨er, drw⟩
   ·rw [if_neg c2] at H
    have c2b0 : decide (x7_1 < (l0.length : Int)) = false := decide_eq_false c2
    clear c2
    obtain rfl := Option.some.inj H
    go_wp2
    go_ret
    exact ⟨er, drw⟩

/-! ### spec_l1Least: function 186 -/
def spec_l1Least.f (a0 : Int) (a1 : Int) : Option (Int) := if a0 < a1 then (some a0) else (some a1)
set_option maxHeartbeats 8000000 in
set_option maxRecDepth 100000 in
theorem spec_l1Least.calls (a0 : Int) (a1 : Int) (r : Int) (w : World) (h : spec_l1Least.f a0 a1 = some r) :
  Calls Try.prog 186 #[.int .i64 a0, .int .i64 a1] w fun e w' => e = .returned (.int .i64 r) ∧ Drawn0 w w' := by
 have H : (if a0 < a1 then (some a0) else (some a1)) = some r := h
 clear h
 by_cases c3 : a0 < a1
 ·rw [if_pos c3] at H
  have c3b0 : decide (a0 < a1) = true := decide_eq_true c3
  clear c3
  obtain rfl := Option.some.inj H
  go_enter Try.func186, Try.ntmps186
  go_wp2
  go_ret
  exact ⟨er, drw⟩
 ·rw [if_neg c3] at H
  have c3b0 : decide (a0 < a1) = false := decide_eq_false c3
  clear c3
  obtain rfl := Option.some.inj H
  go_enter Try.func186, Try.ntmps186
  go_wp2
  go_ret
  exact ⟨er, drw⟩

/-! ### spec_l8Tick: function 112 -/
def spec_l8Tick.f (l0_0 : List ByteArray) (a0_1 : Int) (a0_2 : Int) (a0_3 : Int) (l0_4 : List Int) : Option (List ByteArray × Int × Int × Int × List Int × List ByteArray) := if (l0_0.length : Int) = 0 then (some (l0_0, a0_1, a0_2, a0_3, l0_4, ([] : List ByteArray))) else ((spec_l1Least.f 10 (wrap64 (a0_3 + 1))).bind fun t194 => (if (l0_0.length : Int) < a0_1 then (if t194 < a0_2 then (some (l0_0, a0_1, a0_2, t194, l0_4, ([] : List ByteArray))) else (some (([] : List ByteArray), a0_1, a0_2, 0, l0_4, l0_0))) else (some (([] : List ByteArray), a0_1, a0_2, 0, l0_4, l0_0))))
set_option maxHeartbeats 8000000 in
set_option maxRecDepth 100000 in
theorem spec_l8Tick.calls (P0_0_ : Nat → Prop) (u9000_ : Value) (l0_0 : List ByteArray) (a0_1 : Int) (a0_2 : Int) (a0_3 : Int) (P0_4_ : Nat → Prop) (u9001_ : Value) (l0_4 : List Int) (r1 : List ByteArray) (r2 : Int) (r3 : Int) (r4 : Int) (r5 : List Int) (r6 : List ByteArray) (w0 w : World) (hB : Below w0.heap.size w0 w) (ho0_0 : Kd.R Kd.string 9 w w0.heap.size P0_0_ u9000_ l0_0) (ho0_4 : Kd.R (Kd.int .i64) 3 w w0.heap.size P0_4_ u9001_ l0_4) (h : spec_l8Tick.f l0_0 a0_1 a0_2 a0_3 l0_4 = some (r1, r2, r3, r4, r5, r6)) :
  Calls Try.prog 112 #[.agg #[u9000_, .int .i64 a0_1, .int .i64 a0_2, .int .i64 a0_3, u9001_]] w fun e w' => ∃ v0_ v4_ v5_ : Value, e = .returned (.tuple #[.agg #[v0_, .int .i64 r2, .int .i64 r3, .int .i64 r4, v4_], v5_]) ∧ Kd.R Kd.string 9 w' w0.heap.size (fun k_ => ((P0_0_ k_ ∨ P0_4_ k_) ∨ w.heap.size ≤ k_) ∧ some k_ ≠ (v5_ : Value).ownBlock) v0_ r1 ∧ Kd.R (Kd.int .i64) 3 w' w0.heap.size (fun k_ => ((P0_0_ k_ ∨ P0_4_ k_) ∨ w.heap.size ≤ k_)) v4_ r5 ∧ Kd.R Kd.string 9 w' w0.heap.size (fun k_ => ((P0_0_ k_ ∨ P0_4_ k_) ∨ w.heap.size ≤ k_) ∧ some k_ ≠ (v0_ : Value).ownBlock) v5_ r6 ∧ Below w0.heap.size w0 w' ∧ Kept w w' (fun k_ => P0_0_ k_ ∨ P0_4_ k_) := by
 have hu27 := Try.underlying27
 have HO0_0 := Aside0.mk (show Kd.R Kd.string 9 w w0.heap.size (fun k_ => ((P0_0_ k_ ∨ P0_4_ k_) ∨ w.heap.size ≤ k_)) u9000_ l0_0 from Kd.R_mono ho0_0 (fun k_ hk => (.inl (.inl hk))))
 have HO0_4 := Aside0.mk (show Kd.R (Kd.int .i64) 3 w w0.heap.size (fun k_ => ((P0_0_ k_ ∨ P0_4_ k_) ∨ w.heap.size ≤ k_)) u9001_ l0_4 from Kd.R_mono ho0_4 (fun k_ hk => (.inl (.inr hk))))
 have HK := Aside0.mk (Kept.refl w (fun k_ => P0_0_ k_ ∨ P0_4_ k_))
 have HW0 := Aside0.mk hB.size
 have HB := Aside0.mk hB; clear hB
 have H : (if (l0_0.length : Int) = 0 then (some (l0_0, a0_1, a0_2, a0_3, l0_4, ([] : List ByteArray))) else ((spec_l1Least.f 10 (wrap64 (a0_3 + 1))).bind fun t194 => (if (l0_0.length : Int) < a0_1 then (if t194 < a0_2 then (some (l0_0, a0_1, a0_2, t194, l0_4, ([] : List ByteArray))) else (some (([] : List ByteArray), a0_1, a0_2, 0, l0_4, l0_0))) else (some (([] : List ByteArray), a0_1, a0_2, 0, l0_4, l0_0))))) = some (r1, r2, r3, r4, r5, r6) := h
 clear h
 by_cases c2 : (l0_0.length : Int) = 0
 ·rw [if_pos c2] at H
  have c2b0 : ((l0_0.length : Int) == 0) = true := beq_iff_eq.mpr c2
  have c2b1 : ((l0_0.length : Int) != 0) = false := bne_eq_false_iff_eq.mpr c2
  clear c2
  simp only [Option.some.injEq, Prod.mk.injEq] at H
  obtain ⟨rfl, rfl, rfl, rfl, rfl, rfl⟩ := H
  obtain ⟨Ao3, co3, eo3⟩ := Kd.R_slice HO0_0.out
  subst eo3
  obtain ⟨Ao4, co4, eo4⟩ := Kd.R_slice HO0_4.out
  subst eo4
  go_enter Try.func112, Try.ntmps112
  go_wp2_with (first | ((with_reducible refine gate_dst (N := 1) rfl ?_); refine boxev 1 #[.slice Ao3 l0_0.length co3, .int .i64 a0_1, .int .i64 a0_2, .int .i64 a0_3, .slice Ao4 l0_4.length co4] 27 ?_; intro gb192 hg w5 hbox hb; replace HO0_0 := ak (Kd.R_below (rdl HO0_0) hb); replace HO0_4 := ak (Kd.R_below (rdl HO0_4) hb); have BK192 := ak (hbox); have GW192 := ak ((by rw [hg]; exact (by first | exact HK.out.1 | exact (show Kept w _ (fun k_ => P0_0_ k_ ∨ P0_4_ k_) from by repeat (first | (with_reducible first | exact HK.out | apply Kept.alloc | apply Kept.drewN | apply Kept.drew) | exact HK.out)).1) : w.heap.size ≤ gb192)); replace HK := ak (Kept.below (S := (fun k_ => P0_0_ k_ ∨ P0_4_ k_)) (by repeat (first | (with_reducible first | exact HK.out | apply Kept.alloc | apply Kept.drewN | apply Kept.drew) | exact HK.out)) hb); have GE192 := ak ((by rw [hg]; exact (below_size (belowd HB)) : w0.heap.size ≤ gb192)); replace HB := ak (below_step (belowd HB) hb); clear hb hbox hg) | ((with_reducible refine gate_dst (N := 2) rfl ?_); refine boxev 2 #[.slice none 0 0, .int .i64 0, .int .i64 0, .int .i64 0, .slice none 0 0] 27 ?_; intro gb193 hg w6 hbox hb; replace HO0_0 := ak (Kd.R_below (rdl HO0_0) hb); replace HO0_4 := ak (Kd.R_below (rdl HO0_4) hb); have BK193 := ak (hbox); have GW193 := ak ((by rw [hg]; exact (by first | exact HK.out.1 | exact (show Kept w _ (fun k_ => P0_0_ k_ ∨ P0_4_ k_) from by repeat (first | (with_reducible first | exact HK.out | apply Kept.alloc | apply Kept.drewN | apply Kept.drew | refine Kept.setCell ?_ (.inr GW192.out) _) | exact HK.out)).1) : w.heap.size ≤ gb193)); replace HK := ak (Kept.below (S := (fun k_ => P0_0_ k_ ∨ P0_4_ k_)) (by repeat (first | (with_reducible first | exact HK.out | apply Kept.alloc | apply Kept.drewN | apply Kept.drew | refine Kept.setCell ?_ (.inr GW192.out) _) | exact HK.out)) hb); have GE193 := ak ((by rw [hg]; exact (below_size (belowg1 HB GE192)) : w0.heap.size ≤ gb193)); replace HB := ak (below_step (belowg1 HB GE192) hb); have NB192_193 := ak ((by rw [hg]; exact Nat.ne_of_lt (blk_lt (blkd BK192)) : gb192 ≠ gb193)); have NB193_192 := ak ((by rw [hg]; exact Nat.ne_of_gt (blk_lt (blkd BK192)) : gb193 ≠ gb192)); replace BK192 := ak (blk_below (blkd BK192) hb); clear hb hbox hg; have hnb7 := NB192_193.out; have hnc7 := NB193_192.out; obtain ⟨hcz8_0, hcz8_1, hcz8_2, hcz8_3, hcz8_4, hfz8_0, hfz8_1, hfz8_2, hfz8_3, hfz8_4⟩ := box5 BK192; obtain ⟨hcz9_0, hcz9_1, hcz9_2, hcz9_3, hcz9_4, hfz9_0, hfz9_1, hfz9_2, hfz9_3, hfz9_4⟩ := box5 BK193))
  refine bodyPost_ret (results_ct rfl _ _ gb193 27 #[.slice Ao3 l0_0.length co3, .int .i64 a0_1, .int .i64 a0_2, .int .i64 a0_3, .slice Ao4 l0_4.length co4] (0, 0) _ rfl (by (with_reducible repeat (first | refine blk_drewN ?_ _ | refine blk_drew ?_ | refine blk_alloc ?_ _)); refine blk_put (cs := #[.slice Ao3 l0_0.length co3, .int .i64 a0_1, .int .i64 a0_2, .int .i64 a0_3, .slice none 0 0]) ?_ 4 _ rfl; (with_reducible repeat (first | refine blk_drewN ?_ _ | refine blk_drew ?_ | refine blk_alloc ?_ _)); refine blk_put (cs := #[.slice Ao3 l0_0.length co3, .int .i64 a0_1, .int .i64 a0_2, .int .i64 0, .slice none 0 0]) ?_ 3 _ rfl; (with_reducible repeat (first | refine blk_drewN ?_ _ | refine blk_drew ?_ | refine blk_alloc ?_ _)); refine blk_put (cs := #[.slice Ao3 l0_0.length co3, .int .i64 a0_1, .int .i64 0, .int .i64 0, .slice none 0 0]) ?_ 2 _ rfl; (with_reducible repeat (first | refine blk_drewN ?_ _ | refine blk_drew ?_ | refine blk_alloc ?_ _)); refine blk_put (cs := #[.slice Ao3 l0_0.length co3, .int .i64 0, .int .i64 0, .int .i64 0, .slice none 0 0]) ?_ 1 _ rfl; (with_reducible repeat (first | refine blk_drewN ?_ _ | refine blk_drew ?_ | refine blk_alloc ?_ _)); refine blk_put (cs := #[.slice none 0 0, .int .i64 0, .int .i64 0, .int .i64 0, .slice none 0 0]) ?_ 0 _ rfl; (with_reducible repeat (first | refine blk_drewN ?_ _ | refine blk_drew ?_ | refine blk_alloc ?_ _)); exact BK193.out) Try.underlying27 rfl (by kernel_rfl)) rfl ?_
  exact ⟨_, _, _, er2, by (with_reducible repeat (first | apply Kd.R_alloc | apply Kd.R_drewN | apply Kd.R_drew)); exact Kd.R_mono (farsR (Kd.R_types HO0_0.out BK193.out (by decide))) (fun _ hk => ⟨hk.1, (by simp [Value.ownBlock])⟩), by (with_reducible repeat (first | apply Kd.R_alloc | apply Kd.R_drewN | apply Kd.R_drew)); exact Kd.R_mono (farsR (Kd.R_types HO0_4.out BK193.out (by decide))) (fun _ hk => hk.1), by first | exact Kd.R_nil _ _ _ _ _ | exact Kd.N_nil _ _ _ _ _ | exact Kd.V_nil _ _ _ _ _ | exact Kd.Q_nil _ _ _ _ _ | exact Kd.S_nil _ _ _ _ _, belowg2 HB GE192 GE193, by repeat (first | (with_reducible first | exact HK.out | apply Kept.alloc | apply Kept.drewN | apply Kept.drew | refine Kept.setCell ?_ (.inr GW192.out) _ | refine Kept.setCell ?_ (.inr GW193.out) _) | exact HK.out)⟩
 ·rw [if_neg c2] at H
  have c2b0 : ((l0_0.length : Int) == 0) = false := beq_eq_false_iff_ne.mpr c2
  have c2b1 : ((l0_0.length : Int) != 0) = true := bne_iff_ne.mpr c2
  have c2b2 : ¬ (l0_0 = []) := fun h_ => c2 (by rw [h_]; rfl)
  replace H := bS H; obtain ⟨t194, A10, H⟩ := H
  replace H : (if (l0_0.length : Int) < a0_1 then (if t194 < a0_2 then (some (l0_0, a0_1, a0_2, t194, l0_4, ([] : List ByteArray))) else (some (([] : List ByteArray), a0_1, a0_2, 0, l0_4, l0_0))) else (some (([] : List ByteArray), a0_1, a0_2, 0, l0_4, l0_0))) = some (r1, r2, r3, r4, r5, r6) := H
  by_cases c11 : (l0_0.length : Int) < a0_1
  ·rw [if_pos c11] at H
   have c11b0 : decide ((l0_0.length : Int) < a0_1) = true := decide_eq_true c11
   clear c11
   by_cases c12 : t194 < a0_2
   ·rw [if_pos c12] at H
    have c12b0 : decide (t194 < a0_2) = true := decide_eq_true c12
    clear c12
    simp only [Option.some.injEq, Prod.mk.injEq] at H
    obtain ⟨rfl, rfl, rfl, rfl, rfl, rfl⟩ := H
    obtain ⟨Ao13, co13, eo13⟩ := Kd.R_slice HO0_0.out
    subst eo13
    obtain ⟨Ao14, co14, eo14⟩ := Kd.R_slice HO0_4.out
    subst eo14
    go_enter Try.func112, Try.ntmps112
    go_wp2_with (first | ((with_reducible refine gate_dst (N := 1) rfl ?_); refine boxev 1 #[.slice Ao13 l0_0.length co13, .int .i64 a0_1, .int .i64 a0_2, .int .i64 a0_3, .slice Ao14 l0_4.length co14] 27 ?_; intro gb192 hg w15 hbox hb; replace HO0_0 := ak (Kd.R_below (rdl HO0_0) hb); replace HO0_4 := ak (Kd.R_below (rdl HO0_4) hb); have BK192 := ak (hbox); have GW192 := ak ((by rw [hg]; exact (by first | exact HK.out.1 | exact (show Kept w _ (fun k_ => P0_0_ k_ ∨ P0_4_ k_) from by repeat (first | (with_reducible first | exact HK.out | apply Kept.alloc | apply Kept.drewN | apply Kept.drew) | exact HK.out)).1) : w.heap.size ≤ gb192)); replace HK := ak (Kept.below (S := (fun k_ => P0_0_ k_ ∨ P0_4_ k_)) (by repeat (first | (with_reducible first | exact HK.out | apply Kept.alloc | apply Kept.drewN | apply Kept.drew) | exact HK.out)) hb); have GE192 := ak ((by rw [hg]; exact (below_size (belowd HB)) : w0.heap.size ≤ gb192)); replace HB := ak (below_step (belowd HB) hb); clear hb hbox hg) | ((with_reducible refine gate_dst (N := 2) rfl ?_); refine boxev 2 #[.slice none 0 0, .int .i64 0, .int .i64 0, .int .i64 0, .slice none 0 0] 27 ?_; intro gb193 hg w16 hbox hb; replace HO0_0 := ak (Kd.R_below (rdl HO0_0) hb); replace HO0_4 := ak (Kd.R_below (rdl HO0_4) hb); have BK193 := ak (hbox); have GW193 := ak ((by rw [hg]; exact (by first | exact HK.out.1 | exact (show Kept w _ (fun k_ => P0_0_ k_ ∨ P0_4_ k_) from by repeat (first | (with_reducible first | exact HK.out | apply Kept.alloc | apply Kept.drewN | apply Kept.drew | refine Kept.setCell ?_ (.inr GW192.out) _) | exact HK.out)).1) : w.heap.size ≤ gb193)); replace HK := ak (Kept.below (S := (fun k_ => P0_0_ k_ ∨ P0_4_ k_)) (by repeat (first | (with_reducible first | exact HK.out | apply Kept.alloc | apply Kept.drewN | apply Kept.drew | refine Kept.setCell ?_ (.inr GW192.out) _) | exact HK.out)) hb); have GE193 := ak ((by rw [hg]; exact (below_size (belowg1 HB GE192)) : w0.heap.size ≤ gb193)); replace HB := ak (below_step (belowg1 HB GE192) hb); have NB192_193 := ak ((by rw [hg]; exact Nat.ne_of_lt (blk_lt (blkd BK192)) : gb192 ≠ gb193)); have NB193_192 := ak ((by rw [hg]; exact Nat.ne_of_gt (blk_lt (blkd BK192)) : gb193 ≠ gb192)); replace BK192 := ak (blk_below (blkd BK192) hb); clear hb hbox hg; have hnb17 := NB192_193.out; have hnc17 := NB193_192.out; obtain ⟨hcz18_0, hcz18_1, hcz18_2, hcz18_3, hcz18_4, hfz18_0, hfz18_1, hfz18_2, hfz18_3, hfz18_4⟩ := box5 BK192) | ((with_reducible refine gate_callee (f := 186) rfl ?_); refine goesLa (some 13) rfl Try.func186 #[.int .i64 10, .int .i64 (wrap64 (a0_3 + 1))] rfl ?_; (with_reducible refine (spec_l1Least.calls 10 (wrap64 (a0_3 + 1)) t194 _ A10.out).mono ?_); rintro e w' ⟨rfl, ⟨nd, rfl⟩⟩; refine ⟨_, rfl, ?_⟩; (try (rw [drewN_self w16]; generalize hq_ : World.drewN w16 _ = w16; have n0_ : Aside0 (Kd.R Kd.string 9 w16 w0.heap.size (fun k_ => ((P0_0_ k_ ∨ P0_4_ k_) ∨ w.heap.size ≤ k_)) (.slice Ao13 l0_0.length co13) l0_0) := ⟨by rw [← hq_]; exact (rdl HO0_0)⟩; have n1_ : Aside0 (Kd.R (Kd.int .i64) 3 w16 w0.heap.size (fun k_ => ((P0_0_ k_ ∨ P0_4_ k_) ∨ w.heap.size ≤ k_)) (.slice Ao14 l0_4.length co14) l0_4) := ⟨by rw [← hq_]; exact (rdl HO0_4)⟩; have n2_ : Aside0 (w16.heap[gb192]? = some (.cells #[.slice Ao13 l0_0.length co13, .int .i64 a0_1, .int .i64 a0_2, .int .i64 a0_3, .slice Ao14 l0_4.length co14] 27 (0, 0))) := ⟨by rw [← hq_]; exact (blkd BK192)⟩; have n3_ : Aside0 (w16.heap[gb193]? = some (.cells #[.slice none 0 0, .int .i64 0, .int .i64 0, .int .i64 0, .slice none 0 0] 27 (0, 0))) := ⟨by rw [← hq_]; exact (blkd BK193)⟩; have n4_ : Aside0 (Kept w w16 (fun k_ => P0_0_ k_ ∨ P0_4_ k_)) := ⟨by rw [← hq_]; exact (by repeat (first | (with_reducible first | exact HK.out | apply Kept.alloc | apply Kept.drewN | apply Kept.drew | refine Kept.setCell ?_ (.inr GW192.out) _ | refine Kept.setCell ?_ (.inr GW193.out) _) | exact HK.out))⟩; have n5_ : Aside0 (Below w0.heap.size w0 w16) := ⟨by rw [← hq_]; exact (belowg2 HB GE192 GE193)⟩; clear HO0_0 HO0_4 BK192 BK193 HK HB hq_; have HO0_0 := n0_; have HO0_4 := n1_; have BK192 := n2_; have BK193 := n3_; have HK := n4_; have HB := n5_; clear n0_ n1_ n2_ n3_ n4_ n5_)); obtain ⟨hcz19_0, hcz19_1, hcz19_2, hcz19_3, hcz19_4, hfz19_0, hfz19_1, hfz19_2, hfz19_3, hfz19_4⟩ := box5 BK192; obtain ⟨hcz20_0, hcz20_1, hcz20_2, hcz20_3, hcz20_4, hfz20_0, hfz20_1, hfz20_2, hfz20_3, hfz20_4⟩ := box5 BK193))
    refine bodyPost_ret (results_ct rfl _ _ gb193 27 #[.slice Ao13 l0_0.length co13, .int .i64 a0_1, .int .i64 a0_2, .int .i64 t194, .slice Ao14 l0_4.length co14] (0, 0) _ rfl (by (with_reducible repeat (first | refine blk_drewN ?_ _ | refine blk_drew ?_ | refine blk_alloc ?_ _)); refine blk_put (cs := #[.slice Ao13 l0_0.length co13, .int .i64 a0_1, .int .i64 a0_2, .int .i64 t194, .slice none 0 0]) ?_ 4 _ rfl; (with_reducible repeat (first | refine blk_drewN ?_ _ | refine blk_drew ?_ | refine blk_alloc ?_ _)); refine blk_put (cs := #[.slice Ao13 l0_0.length co13, .int .i64 a0_1, .int .i64 a0_2, .int .i64 0, .slice none 0 0]) ?_ 3 _ rfl; (with_reducible repeat (first | refine blk_drewN ?_ _ | refine blk_drew ?_ | refine blk_alloc ?_ _)); refine blk_put (cs := #[.slice Ao13 l0_0.length co13, .int .i64 a0_1, .int .i64 0, .int .i64 0, .slice none 0 0]) ?_ 2 _ rfl; (with_reducible repeat (first | refine blk_drewN ?_ _ | refine blk_drew ?_ | refine blk_alloc ?_ _)); refine blk_put (cs := #[.slice Ao13 l0_0.length co13, .int .i64 0, .int .i64 0, .int .i64 0, .slice none 0 0]) ?_ 1 _ rfl; (with_reducible repeat (first | refine blk_drewN ?_ _ | refine blk_drew ?_ | refine blk_alloc ?_ _)); refine blk_put (cs := #[.slice none 0 0, .int .i64 0, .int .i64 0, .int .i64 0, .slice none 0 0]) ?_ 0 _ rfl; (with_reducible repeat (first | refine blk_drewN ?_ _ | refine blk_drew ?_ | refine blk_alloc ?_ _)); refine blk_far ?_ NB193_192.out _; (with_reducible repeat (first | refine blk_drewN ?_ _ | refine blk_drew ?_ | refine blk_alloc ?_ _)); exact BK193.out) Try.underlying27 rfl (by kernel_rfl)) rfl ?_
    exact ⟨_, _, _, er2, by (with_reducible repeat (first | apply Kd.R_alloc | apply Kd.R_drewN | apply Kd.R_drew)); exact Kd.R_mono (farsR (Kd.R_types (Kd.R_types HO0_0.out BK192.out (by decide)) BK193.out (by decide))) (fun _ hk => ⟨hk.1.1, (by simp [Value.ownBlock])⟩), by (with_reducible repeat (first | apply Kd.R_alloc | apply Kd.R_drewN | apply Kd.R_drew)); exact Kd.R_mono (farsR (Kd.R_types (Kd.R_types HO0_4.out BK192.out (by decide)) BK193.out (by decide))) (fun _ hk => hk.1.1), by first | exact Kd.R_nil _ _ _ _ _ | exact Kd.N_nil _ _ _ _ _ | exact Kd.V_nil _ _ _ _ _ | exact Kd.Q_nil _ _ _ _ _ | exact Kd.S_nil _ _ _ _ _, belowg2 HB GE192 GE193, by repeat (first | (with_reducible first | exact HK.out | apply Kept.alloc | apply Kept.drewN | apply Kept.drew | refine Kept.setCell ?_ (.inr GW192.out) _ | refine Kept.setCell ?_ (.inr GW193.out) _) | exact HK.out)⟩
   ·rw [if_neg c12] at H
    have c12b0 : decide (t194 < a0_2) = false := decide_eq_false c12
    clear c12
    simp only [Option.some.injEq, Prod.mk.injEq] at H
    obtain ⟨rfl, rfl, rfl, rfl, rfl, rfl⟩ := H
    obtain ⟨Ao21, co21, eo21⟩ := Kd.R_slice HO0_0.out
    subst eo21
    obtain ⟨Ao22, co22, eo22⟩ := Kd.R_slice HO0_4.out
    subst eo22
    go_enter Try.func112, Try.ntmps112
    go_wp2_with (first | ((with_reducible refine gate_dst (N := 1) rfl ?_); refine boxev 1 #[.slice Ao21 l0_0.length co21, .int .i64 a0_1, .int .i64 a0_2, .int .i64 a0_3, .slice Ao22 l0_4.length co22] 27 ?_; intro gb192 hg w23 hbox hb; replace HO0_0 := ak (Kd.R_below (rdl HO0_0) hb); replace HO0_4 := ak (Kd.R_below (rdl HO0_4) hb); have BK192 := ak (hbox); have GW192 := ak ((by rw [hg]; exact (by first | exact HK.out.1 | exact (show Kept w _ (fun k_ => P0_0_ k_ ∨ P0_4_ k_) from by repeat (first | (with_reducible first | exact HK.out | apply Kept.alloc | apply Kept.drewN | apply Kept.drew) | exact HK.out)).1) : w.heap.size ≤ gb192)); replace HK := ak (Kept.below (S := (fun k_ => P0_0_ k_ ∨ P0_4_ k_)) (by repeat (first | (with_reducible first | exact HK.out | apply Kept.alloc | apply Kept.drewN | apply Kept.drew) | exact HK.out)) hb); have GE192 := ak ((by rw [hg]; exact (below_size (belowd HB)) : w0.heap.size ≤ gb192)); replace HB := ak (below_step (belowd HB) hb); clear hb hbox hg) | ((with_reducible refine gate_dst (N := 2) rfl ?_); refine boxev 2 #[.slice none 0 0, .int .i64 0, .int .i64 0, .int .i64 0, .slice none 0 0] 27 ?_; intro gb193 hg w24 hbox hb; replace HO0_0 := ak (Kd.R_below (rdl HO0_0) hb); replace HO0_4 := ak (Kd.R_below (rdl HO0_4) hb); have BK193 := ak (hbox); have GW193 := ak ((by rw [hg]; exact (by first | exact HK.out.1 | exact (show Kept w _ (fun k_ => P0_0_ k_ ∨ P0_4_ k_) from by repeat (first | (with_reducible first | exact HK.out | apply Kept.alloc | apply Kept.drewN | apply Kept.drew | refine Kept.setCell ?_ (.inr GW192.out) _) | exact HK.out)).1) : w.heap.size ≤ gb193)); replace HK := ak (Kept.below (S := (fun k_ => P0_0_ k_ ∨ P0_4_ k_)) (by repeat (first | (with_reducible first | exact HK.out | apply Kept.alloc | apply Kept.drewN | apply Kept.drew | refine Kept.setCell ?_ (.inr GW192.out) _) | exact HK.out)) hb); have GE193 := ak ((by rw [hg]; exact (below_size (belowg1 HB GE192)) : w0.heap.size ≤ gb193)); replace HB := ak (below_step (belowg1 HB GE192) hb); have NB192_193 := ak ((by rw [hg]; exact Nat.ne_of_lt (blk_lt (blkd BK192)) : gb192 ≠ gb193)); have NB193_192 := ak ((by rw [hg]; exact Nat.ne_of_gt (blk_lt (blkd BK192)) : gb193 ≠ gb192)); replace BK192 := ak (blk_below (blkd BK192) hb); clear hb hbox hg; have hnb25 := NB192_193.out; have hnc25 := NB193_192.out; obtain ⟨hcz26_0, hcz26_1, hcz26_2, hcz26_3, hcz26_4, hfz26_0, hfz26_1, hfz26_2, hfz26_3, hfz26_4⟩ := box5 BK192) | ((with_reducible refine gate_callee (f := 186) rfl ?_); refine goesLa (some 13) rfl Try.func186 #[.int .i64 10, .int .i64 (wrap64 (a0_3 + 1))] rfl ?_; (with_reducible refine (spec_l1Least.calls 10 (wrap64 (a0_3 + 1)) t194 _ A10.out).mono ?_); rintro e w' ⟨rfl, ⟨nd, rfl⟩⟩; refine ⟨_, rfl, ?_⟩; (try (rw [drewN_self w24]; generalize hq_ : World.drewN w24 _ = w24; have n0_ : Aside0 (Kd.R Kd.string 9 w24 w0.heap.size (fun k_ => ((P0_0_ k_ ∨ P0_4_ k_) ∨ w.heap.size ≤ k_)) (.slice Ao21 l0_0.length co21) l0_0) := ⟨by rw [← hq_]; exact (rdl HO0_0)⟩; have n1_ : Aside0 (Kd.R (Kd.int .i64) 3 w24 w0.heap.size (fun k_ => ((P0_0_ k_ ∨ P0_4_ k_) ∨ w.heap.size ≤ k_)) (.slice Ao22 l0_4.length co22) l0_4) := ⟨by rw [← hq_]; exact (rdl HO0_4)⟩; have n2_ : Aside0 (w24.heap[gb192]? = some (.cells #[.slice Ao21 l0_0.length co21, .int .i64 a0_1, .int .i64 a0_2, .int .i64 a0_3, .slice Ao22 l0_4.length co22] 27 (0, 0))) := ⟨by rw [← hq_]; exact (blkd BK192)⟩; have n3_ : Aside0 (w24.heap[gb193]? = some (.cells #[.slice none 0 0, .int .i64 0, .int .i64 0, .int .i64 0, .slice none 0 0] 27 (0, 0))) := ⟨by rw [← hq_]; exact (blkd BK193)⟩; have n4_ : Aside0 (Kept w w24 (fun k_ => P0_0_ k_ ∨ P0_4_ k_)) := ⟨by rw [← hq_]; exact (by repeat (first | (with_reducible first | exact HK.out | apply Kept.alloc | apply Kept.drewN | apply Kept.drew | refine Kept.setCell ?_ (.inr GW192.out) _ | refine Kept.setCell ?_ (.inr GW193.out) _) | exact HK.out))⟩; have n5_ : Aside0 (Below w0.heap.size w0 w24) := ⟨by rw [← hq_]; exact (belowg2 HB GE192 GE193)⟩; clear HO0_0 HO0_4 BK192 BK193 HK HB hq_; have HO0_0 := n0_; have HO0_4 := n1_; have BK192 := n2_; have BK193 := n3_; have HK := n4_; have HB := n5_; clear n0_ n1_ n2_ n3_ n4_ n5_)); obtain ⟨hcz27_0, hcz27_1, hcz27_2, hcz27_3, hcz27_4, hfz27_0, hfz27_1, hfz27_2, hfz27_3, hfz27_4⟩ := box5 BK192; obtain ⟨hcz28_0, hcz28_1, hcz28_2, hcz28_3, hcz28_4, hfz28_0, hfz28_1, hfz28_2, hfz28_3, hfz28_4⟩ := box5 BK193))
    refine bodyPost_ret (results_ct rfl _ _ gb193 27 #[.slice none 0 0, .int .i64 a0_1, .int .i64 a0_2, .int .i64 0, .slice Ao22 l0_4.length co22] (0, 0) _ rfl (by (with_reducible repeat (first | refine blk_drewN ?_ _ | refine blk_drew ?_ | refine blk_alloc ?_ _)); refine blk_put (cs := #[.slice none 0 0, .int .i64 a0_1, .int .i64 a0_2, .int .i64 0, .slice none 0 0]) ?_ 4 _ rfl; (with_reducible repeat (first | refine blk_drewN ?_ _ | refine blk_drew ?_ | refine blk_alloc ?_ _)); refine blk_put (cs := #[.slice none 0 0, .int .i64 a0_1, .int .i64 a0_2, .int .i64 0, .slice none 0 0]) ?_ 3 _ rfl; (with_reducible repeat (first | refine blk_drewN ?_ _ | refine blk_drew ?_ | refine blk_alloc ?_ _)); refine blk_put (cs := #[.slice none 0 0, .int .i64 a0_1, .int .i64 0, .int .i64 0, .slice none 0 0]) ?_ 2 _ rfl; (with_reducible repeat (first | refine blk_drewN ?_ _ | refine blk_drew ?_ | refine blk_alloc ?_ _)); refine blk_put (cs := #[.slice none 0 0, .int .i64 0, .int .i64 0, .int .i64 0, .slice none 0 0]) ?_ 1 _ rfl; (with_reducible repeat (first | refine blk_drewN ?_ _ | refine blk_drew ?_ | refine blk_alloc ?_ _)); refine blk_put (cs := #[.slice none 0 0, .int .i64 0, .int .i64 0, .int .i64 0, .slice none 0 0]) ?_ 0 _ rfl; (with_reducible repeat (first | refine blk_drewN ?_ _ | refine blk_drew ?_ | refine blk_alloc ?_ _)); refine blk_far ?_ NB193_192.out _; (with_reducible repeat (first | refine blk_drewN ?_ _ | refine blk_drew ?_ | refine blk_alloc ?_ _)); refine blk_far ?_ NB193_192.out _; (with_reducible repeat (first | refine blk_drewN ?_ _ | refine blk_drew ?_ | refine blk_alloc ?_ _)); refine blk_far ?_ NB193_192.out _; (with_reducible repeat (first | refine blk_drewN ?_ _ | refine blk_drew ?_ | refine blk_alloc ?_ _)); exact BK193.out) Try.underlying27 rfl (by kernel_rfl)) rfl ?_
    exact ⟨_, _, _, er2, by first | exact Kd.R_nil _ _ _ _ _ | exact Kd.N_nil _ _ _ _ _ | exact Kd.V_nil _ _ _ _ _ | exact Kd.Q_nil _ _ _ _ _ | exact Kd.S_nil _ _ _ _ _, by (with_reducible repeat (first | apply Kd.R_alloc | apply Kd.R_drewN | apply Kd.R_drew)); exact Kd.R_mono (farsR (Kd.R_types (Kd.R_types HO0_4.out BK192.out (by decide)) BK193.out (by decide))) (fun _ hk => hk.1.1), by (with_reducible repeat (first | apply Kd.R_alloc | apply Kd.R_drewN | apply Kd.R_drew)); exact Kd.R_mono (farsR (Kd.R_types (Kd.R_types HO0_0.out BK192.out (by decide)) BK193.out (by decide))) (fun _ hk => ⟨hk.1.1, (by simp [Value.ownBlock])⟩), belowg2 HB GE192 GE193, by repeat (first | (with_reducible first | exact HK.out | apply Kept.alloc | apply Kept.drewN | apply Kept.drew | refine Kept.setCell ?_ (.inr GW192.out) _ | refine Kept.setCell ?_ (.inr GW193.out) _) | exact HK.out)⟩
  ·rw [if_neg c11] at H
   have c11b0 : decide ((l0_0.length : Int) < a0_1) = false := decide_eq_false c11
   clear c11
   simp only [Option.some.injEq, Prod.mk.injEq] at H
   obtain ⟨rfl, rfl, rfl, rfl, rfl, rfl⟩ := H
   obtain ⟨Ao29, co29, eo29⟩ := Kd.R_slice HO0_0.out
   subst eo29
   obtain ⟨Ao30, co30, eo30⟩ := Kd.R_slice HO0_4.out
   subst eo30
   go_enter Try.func112, Try.ntmps112
   go_wp2_with (first | ((with_reducible refine gate_dst (N := 1) rfl ?_); refine boxev 1 #[.slice Ao29 l0_0.length co29, .int .i64 a0_1, .int .i64 a0_2, .int .i64 a0_3, .slice Ao30 l0_4.length co30] 27 ?_; intro gb192 hg w31 hbox hb; replace HO0_0 := ak (Kd.R_below (rdl HO0_0) hb); replace HO0_4 := ak (Kd.R_below (rdl HO0_4) hb); have BK192 := ak (hbox); have GW192 := ak ((by rw [hg]; exact (by first | exact HK.out.1 | exact (show Kept w _ (fun k_ => P0_0_ k_ ∨ P0_4_ k_) from by repeat (first | (with_reducible first | exact HK.out | apply Kept.alloc | apply Kept.drewN | apply Kept.drew) | exact HK.out)).1) : w.heap.size ≤ gb192)); replace HK := ak (Kept.below (S := (fun k_ => P0_0_ k_ ∨ P0_4_ k_)) (by repeat (first | (with_reducible first | exact HK.out | apply Kept.alloc | apply Kept.drewN | apply Kept.drew) | exact HK.out)) hb); have GE192 := ak ((by rw [hg]; exact (below_size (belowd HB)) : w0.heap.size ≤ gb192)); replace HB := ak (below_step (belowd HB) hb); clear hb hbox hg) | ((with_reducible refine gate_dst (N := 2) rfl ?_); refine boxev 2 #[.slice none 0 0, .int .i64 0, .int .i64 0, .int .i64 0, .slice none 0 0] 27 ?_; intro gb193 hg w32 hbox hb; replace HO0_0 := ak (Kd.R_below (rdl HO0_0) hb); replace HO0_4 := ak (Kd.R_below (rdl HO0_4) hb); have BK193 := ak (hbox); have GW193 := ak ((by rw [hg]; exact (by first | exact HK.out.1 | exact (show Kept w _ (fun k_ => P0_0_ k_ ∨ P0_4_ k_) from by repeat (first | (with_reducible first | exact HK.out | apply Kept.alloc | apply Kept.drewN | apply Kept.drew | refine Kept.setCell ?_ (.inr GW192.out) _) | exact HK.out)).1) : w.heap.size ≤ gb193)); replace HK := ak (Kept.below (S := (fun k_ => P0_0_ k_ ∨ P0_4_ k_)) (by repeat (first | (with_reducible first | exact HK.out | apply Kept.alloc | apply Kept.drewN | apply Kept.drew | refine Kept.setCell ?_ (.inr GW192.out) _) | exact HK.out)) hb); have GE193 := ak ((by rw [hg]; exact (below_size (belowg1 HB GE192)) : w0.heap.size ≤ gb193)); replace HB := ak (below_step (belowg1 HB GE192) hb); have NB192_193 := ak ((by rw [hg]; exact Nat.ne_of_lt (blk_lt (blkd BK192)) : gb192 ≠ gb193)); have NB193_192 := ak ((by rw [hg]; exact Nat.ne_of_gt (blk_lt (blkd BK192)) : gb193 ≠ gb192)); replace BK192 := ak (blk_below (blkd BK192) hb); clear hb hbox hg; have hnb33 := NB192_193.out; have hnc33 := NB193_192.out; obtain ⟨hcz34_0, hcz34_1, hcz34_2, hcz34_3, hcz34_4, hfz34_0, hfz34_1, hfz34_2, hfz34_3, hfz34_4⟩ := box5 BK192) | ((with_reducible refine gate_callee (f := 186) rfl ?_); refine goesLa (some 13) rfl Try.func186 #[.int .i64 10, .int .i64 (wrap64 (a0_3 + 1))] rfl ?_; (with_reducible refine (spec_l1Least.calls 10 (wrap64 (a0_3 + 1)) t194 _ A10.out).mono ?_); rintro e w' ⟨rfl, ⟨nd, rfl⟩⟩; refine ⟨_, rfl, ?_⟩; (try (rw [drewN_self w32]; generalize hq_ : World.drewN w32 _ = w32; have n0_ : Aside0 (Kd.R Kd.string 9 w32 w0.heap.size (fun k_ => ((P0_0_ k_ ∨ P0_4_ k_) ∨ w.heap.size ≤ k_)) (.slice Ao29 l0_0.length co29) l0_0) := ⟨by rw [← hq_]; exact (rdl HO0_0)⟩; have n1_ : Aside0 (Kd.R (Kd.int .i64) 3 w32 w0.heap.size (fun k_ => ((P0_0_ k_ ∨ P0_4_ k_) ∨ w.heap.size ≤ k_)) (.slice Ao30 l0_4.length co30) l0_4) := ⟨by rw [← hq_]; exact (rdl HO0_4)⟩; have n2_ : Aside0 (w32.heap[gb192]? = some (.cells #[.slice Ao29 l0_0.length co29, .int .i64 a0_1, .int .i64 a0_2, .int .i64 a0_3, .slice Ao30 l0_4.length co30] 27 (0, 0))) := ⟨by rw [← hq_]; exact (blkd BK192)⟩; have n3_ : Aside0 (w32.heap[gb193]? = some (.cells #[.slice none 0 0, .int .i64 0, .int .i64 0, .int .i64 0, .slice none 0 0] 27 (0, 0))) := ⟨by rw [← hq_]; exact (blkd BK193)⟩; have n4_ : Aside0 (Kept w w32 (fun k_ => P0_0_ k_ ∨ P0_4_ k_)) := ⟨by rw [← hq_]; exact (by repeat (first | (with_reducible first | exact HK.out | apply Kept.alloc | apply Kept.drewN | apply Kept.drew | refine Kept.setCell ?_ (.inr GW192.out) _ | refine Kept.setCell ?_ (.inr GW193.out) _) | exact HK.out))⟩; have n5_ : Aside0 (Below w0.heap.size w0 w32) := ⟨by rw [← hq_]; exact (belowg2 HB GE192 GE193)⟩; clear HO0_0 HO0_4 BK192 BK193 HK HB hq_; have HO0_0 := n0_; have HO0_4 := n1_; have BK192 := n2_; have BK193 := n3_; have HK := n4_; have HB := n5_; clear n0_ n1_ n2_ n3_ n4_ n5_)); obtain ⟨hcz35_0, hcz35_1, hcz35_2, hcz35_3, hcz35_4, hfz35_0, hfz35_1, hfz35_2, hfz35_3, hfz35_4⟩ := box5 BK192; obtain ⟨hcz36_0, hcz36_1, hcz36_2, hcz36_3, hcz36_4, hfz36_0, hfz36_1, hfz36_2, hfz36_3, hfz36_4⟩ := box5 BK193))
   refine bodyPost_ret (results_ct rfl _ _ gb193 27 #[.slice none 0 0, .int .i64 a0_1, .int .i64 a0_2, .int .i64 0, .slice Ao30 l0_4.length co30] (0, 0) _ rfl (by (with_reducible repeat (first | refine blk_drewN ?_ _ | refine blk_drew ?_ | refine blk_alloc ?_ _)); refine blk_put (cs := #[.slice none 0 0, .int .i64 a0_1, .int .i64 a0_2, .int .i64 0, .slice none 0 0]) ?_ 4 _ rfl; (with_reducible repeat (first | refine blk_drewN ?_ _ | refine blk_drew ?_ | refine blk_alloc ?_ _)); refine blk_put (cs := #[.slice none 0 0, .int .i64 a0_1, .int .i64 a0_2, .int .i64 0, .slice none 0 0]) ?_ 3 _ rfl; (with_reducible repeat (first | refine blk_drewN ?_ _ | refine blk_drew ?_ | refine blk_alloc ?_ _)); refine blk_put (cs := #[.slice none 0 0, .int .i64 a0_1, .int .i64 0, .int .i64 0, .slice none 0 0]) ?_ 2 _ rfl; (with_reducible repeat (first | refine blk_drewN ?_ _ | refine blk_drew ?_ | refine blk_alloc ?_ _)); refine blk_put (cs := #[.slice none 0 0, .int .i64 0, .int .i64 0, .int .i64 0, .slice none 0 0]) ?_ 1 _ rfl; (with_reducible repeat (first | refine blk_drewN ?_ _ | refine blk_drew ?_ | refine blk_alloc ?_ _)); refine blk_put (cs := #[.slice none 0 0, .int .i64 0, .int .i64 0, .int .i64 0, .slice none 0 0]) ?_ 0 _ rfl; (with_reducible repeat (first | refine blk_drewN ?_ _ | refine blk_drew ?_ | refine blk_alloc ?_ _)); refine blk_far ?_ NB193_192.out _; (with_reducible repeat (first | refine blk_drewN ?_ _ | refine blk_drew ?_ | refine blk_alloc ?_ _)); refine blk_far ?_ NB193_192.out _; (with_reducible repeat (first | refine blk_drewN ?_ _ | refine blk_drew ?_ | refine blk_alloc ?_ _)); refine blk_far ?_ NB193_192.out _; (with_reducible repeat (first | refine blk_drewN ?_ _ | refine blk_drew ?_ | refine blk_alloc ?_ _)); exact BK193.out) Try.underlying27 rfl (by kernel_rfl)) rfl ?_
   exact ⟨_, _, _, er2, by first | exact Kd.R_nil _ _ _ _ _ | exact Kd.N_nil _ _ _ _ _ | exact Kd.V_nil _ _ _ _ _ | exact Kd.Q_nil _ _ _ _ _ | exact Kd.S_nil _ _ _ _ _, by (with_reducible repeat (first | apply Kd.R_alloc | apply Kd.R_drewN | apply Kd.R_drew)); exact Kd.R_mono (farsR (Kd.R_types (Kd.R_types HO0_4.out BK192.out (by decide)) BK193.out (by decide))) (fun _ hk => hk.1.1), by (with_reducible repeat (first | apply Kd.R_alloc | apply Kd.R_drewN | apply Kd.R_drew)); exact Kd.R_mono (farsR (Kd.R_types (Kd.R_types HO0_0.out BK192.out (by decide)) BK193.out (by decide))) (fun _ hk => ⟨hk.1.1, (by simp [Value.ownBlock])⟩), belowg2 HB GE192 GE193, by repeat (first | (with_reducible first | exact HK.out | apply Kept.alloc | apply Kept.drewN | apply Kept.drew | refine Kept.setCell ?_ (.inr GW192.out) _ | refine Kept.setCell ?_ (.inr GW193.out) _) | exact HK.out)⟩

/-! ### spec_PlayMix: function 21 -/
mutual
def spec_PlayMix.j0 : Nat → List (List ByteArray) → Bool → List ByteArray → Int → Int → Int → List Int → Option ((List (List ByteArray)) × Bool)
  | 0, _, _, _, _, _, _, _ => none
  | k + 1, x2, x31, x206000, x206001, x206002, x206003, x206004 => if x31 = true then (some (([] : List (List ByteArray)), false)) else (spec_PlayMix.l0 k ([] : List (List ByteArray)) x2 (x2.length : Int) 0 x206000 x206001 x206002 x206003 x206004)
def spec_PlayMix.l0 : Nat → List (List ByteArray) → List (List ByteArray) → Int → Int → List ByteArray → Int → Int → Int → List Int → Option ((List (List ByteArray)) × Bool)
  | 0, _, _, _, _, _, _, _, _, _ => none
  | k + 1, x10, x32, x33, x34, x206000, x206001, x206002, x206003, x206004 => if x34 < x33 then (if 0 ≤ x34 then (if x34 < (x32.length : Int) then ((spec_l8Pool.f k (rd_L1 x32 x34)).bind fun t207 => (if t207 = true then (spec_PlayMix.l1 k x10 x32 x33 x34 (rd_L1 x32 x34) ((rd_L1 x32 x34).length : Int) 0 x206000 x206001 x206002 x206003 x206004) else (some (([] : List (List ByteArray)), false)))) else (none)) else (none)) else (some (x10, true))
def spec_PlayMix.l1 : Nat → List (List ByteArray) → List (List ByteArray) → Int → Int → List ByteArray → Int → Int → List ByteArray → Int → Int → Int → List Int → Option ((List (List ByteArray)) × Bool)
  | 0, _, _, _, _, _, _, _, _, _, _, _, _ => none
  | k + 1, x10, x32, x33, x34, x41, x42, x43, x206000, x206001, x206002, x206003, x206004 => if x43 < x42 then (if 0 ≤ x43 then (if x43 < (x41.length : Int) then ((spec_l8Put.f k x206000 x206001 x206002 x206003 x206004 (rdOf ByteArray.empty x41 x43)).bind fun bt209 => (spec_PlayMix.l1 k x10 x32 x33 x34 x41 x42 (wrap64 (x43 + 1)) bt209.1 bt209.2.1 bt209.2.2.1 bt209.2.2.2.1 bt209.2.2.2.2.1)) else (none)) else (none)) else ((spec_l8Tick.f x206000 x206001 x206002 x206003 x206004).bind fun bt220 => ((some (([] : List ByteArray) : List ByteArray)).bind fun y233 => (if y233.length + bt220.2.2.2.2.2.length < 8796093022208 then (if x10.length < 5864062014805 then (spec_PlayMix.l0 k (x10 ++ [(y233 ++ bt220.2.2.2.2.2)]) x32 x33 (wrap64 (x34 + 1)) bt220.1 bt220.2.1 bt220.2.2.1 bt220.2.2.2.1 bt220.2.2.2.2.1) else (none)) else (none))))
end
def spec_PlayMix.f (k : Nat) (a0 : Int) (a1 : Int) (l2 : List (List ByteArray)) : Option ((List (List ByteArray)) × Bool) := (spec_NewMix.f a0 a1).bind fun bt195 => (if bt195.2.2.2.2.2 = true then (spec_PlayMix.j0 k l2 (decide ((l2.length : Int) > 20)) bt195.1 bt195.2.1 bt195.2.2.1 bt195.2.2.2.1 bt195.2.2.2.2.1) else (spec_PlayMix.j0 k l2 true bt195.1 bt195.2.1 bt195.2.2.1 bt195.2.2.2.1 bt195.2.2.2.2.1))
theorem spec_PlayMix.mono_l : ∀ k, (∀ y0 y1 y2 y3 y4 y5 y6, LeO (spec_PlayMix.j0 k y0 y1 y2 y3 y4 y5 y6) (spec_PlayMix.j0 (k + 1) y0 y1 y2 y3 y4 y5 y6)) ∧ (∀ y0 y1 y2 y3 y4 y5 y6 y7 y8, LeO (spec_PlayMix.l0 k y0 y1 y2 y3 y4 y5 y6 y7 y8) (spec_PlayMix.l0 (k + 1) y0 y1 y2 y3 y4 y5 y6 y7 y8)) ∧ (∀ y0 y1 y2 y3 y4 y5 y6 y7 y8 y9 y10 y11, LeO (spec_PlayMix.l1 k y0 y1 y2 y3 y4 y5 y6 y7 y8 y9 y10 y11) (spec_PlayMix.l1 (k + 1) y0 y1 y2 y3 y4 y5 y6 y7 y8 y9 y10 y11))
 | 0 => ⟨fun _ _ _ _ _ _ _ r h => by simp [spec_PlayMix.j0] at h, fun _ _ _ _ _ _ _ _ _ r h => by simp [spec_PlayMix.l0] at h, fun _ _ _ _ _ _ _ _ _ _ _ _ r h => by simp [spec_PlayMix.l1] at h⟩
 | k + 1 => by
  obtain ⟨ih0, ih1, ih2⟩ := spec_PlayMix.mono_l k
  refine ⟨?_, ?_, ?_⟩
  ·intro y0 y1 y2 y3 y4 y5 y6
   unfold spec_PlayMix.j0
   repeat' (first | (with_reducible first | exact ih0 _ _ _ _ _ _ _ | exact ih1 _ _ _ _ _ _ _ _ _ | exact ih2 _ _ _ _ _ _ _ _ _ _ _ _ | exact spec_l8Pool.mono _ _ | exact spec_l8Put.mono _ _ _ _ _ _ _ | exact LeO.refl _ | exact LeO.none _ | refine LeO.ite ?_ ?_ | refine LeO.bind ?_ (fun _ => ?_)) | exact ih0 _ _ _ _ _ _ _ | exact ih1 _ _ _ _ _ _ _ _ _ | exact ih2 _ _ _ _ _ _ _ _ _ _ _ _ | exact spec_l8Pool.mono _ _ | exact spec_l8Put.mono _ _ _ _ _ _ _ | exact LeO.none _ | refine LeO.ite ?_ ?_ | refine LeO.bind ?_ (fun _ => ?_))
  ·intro y0 y1 y2 y3 y4 y5 y6 y7 y8
   unfold spec_PlayMix.l0
   repeat' (first | (with_reducible first | exact ih0 _ _ _ _ _ _ _ | exact ih1 _ _ _ _ _ _ _ _ _ | exact ih2 _ _ _ _ _ _ _ _ _ _ _ _ | exact spec_l8Pool.mono _ _ | exact spec_l8Put.mono _ _ _ _ _ _ _ | exact LeO.refl _ | exact LeO.none _ | refine LeO.ite ?_ ?_ | refine LeO.bind ?_ (fun _ => ?_)) | exact ih0 _ _ _ _ _ _ _ | exact ih1 _ _ _ _ _ _ _ _ _ | exact ih2 _ _ _ _ _ _ _ _ _ _ _ _ | exact spec_l8Pool.mono _ _ | exact spec_l8Put.mono _ _ _ _ _ _ _ | exact LeO.none _ | refine LeO.ite ?_ ?_ | refine LeO.bind ?_ (fun _ => ?_))
  ·intro y0 y1 y2 y3 y4 y5 y6 y7 y8 y9 y10 y11
   unfold spec_PlayMix.l1
   repeat' (first | (with_reducible first | exact ih0 _ _ _ _ _ _ _ | exact ih1 _ _ _ _ _ _ _ _ _ | exact ih2 _ _ _ _ _ _ _ _ _ _ _ _ | exact spec_l8Pool.mono _ _ | exact spec_l8Put.mono _ _ _ _ _ _ _ | exact LeO.refl _ | exact LeO.none _ | refine LeO.ite ?_ ?_ | refine LeO.bind ?_ (fun _ => ?_)) | exact ih0 _ _ _ _ _ _ _ | exact ih1 _ _ _ _ _ _ _ _ _ | exact ih2 _ _ _ _ _ _ _ _ _ _ _ _ | exact spec_l8Pool.mono _ _ | exact spec_l8Put.mono _ _ _ _ _ _ _ | exact LeO.none _ | refine LeO.ite ?_ ?_ | refine LeO.bind ?_ (fun _ => ?_))
theorem spec_PlayMix.mono : ∀ a0 a1 a2 k, LeO (spec_PlayMix.f k a0 a1 a2) (spec_PlayMix.f (k + 1) a0 a1 a2) := by
 intro a0 a1 a2 k
 obtain ⟨ih0, ih1, ih2⟩ := spec_PlayMix.mono_l k
 unfold spec_PlayMix.f
 repeat' (first | (with_reducible first | exact ih0 _ _ _ _ _ _ _ | exact ih1 _ _ _ _ _ _ _ _ _ | exact ih2 _ _ _ _ _ _ _ _ _ _ _ _ | exact spec_l8Pool.mono _ _ | exact spec_l8Put.mono _ _ _ _ _ _ _ | exact LeO.refl _ | exact LeO.none _ | refine LeO.ite ?_ ?_ | refine LeO.bind ?_ (fun _ => ?_)) | exact ih0 _ _ _ _ _ _ _ | exact ih1 _ _ _ _ _ _ _ _ _ | exact ih2 _ _ _ _ _ _ _ _ _ _ _ _ | exact spec_l8Pool.mono _ _ | exact spec_l8Put.mono _ _ _ _ _ _ _ | exact LeO.none _ | refine LeO.ite ?_ ?_ | refine LeO.bind ?_ (fun _ => ?_))
set_option maxHeartbeats 8000000 in
set_option maxRecDepth 100000 in
theorem spec_PlayMix.calls (k : Nat) (a0 : Int) (a1 : Int) (A2 : Option Addr) (c2 : Nat) (l2 : List (List ByteArray)) (r1 : List (List ByteArray)) (r2 : Bool) (w : World) (hr2 : Kd.C (Kd.slice 9 Kd.string) w A2 l2.length l2) (hc2 : l2.length ≤ c2) (h : spec_PlayMix.f k a0 a1 l2 = some (r1, r2)) :
  Calls Try.prog 21 #[.int .i64 a0, .int .i64 a1, .slice A2 l2.length c2] w fun e w' => ∃ v0_ : Value, e = .returned (.tuple #[v0_, .bool r2]) ∧ Kd.S (Kd.slice 9 Kd.string) 22 w' w.heap.size (fun _ => True) v0_ r1 ∧ Below w.heap.size w w' := by
 have hu27 := Try.underlying27
 have HR2 := Aside0.mk hr2; have HC2 := Aside0.mk hc2; clear hr2 hc2
 have HB := Aside0.mk (Below.refl w.heap.size w)
 have H : ((spec_NewMix.f a0 a1).bind fun bt195 => (if bt195.2.2.2.2.2 = true then (spec_PlayMix.j0 k l2 (decide ((l2.length : Int) > 20)) bt195.1 bt195.2.1 bt195.2.2.1 bt195.2.2.2.1 bt195.2.2.2.2.1) else (spec_PlayMix.j0 k l2 true bt195.1 bt195.2.1 bt195.2.2.1 bt195.2.2.2.1 bt195.2.2.2.2.1))) = some (r1, r2) := h
 clear h; replace H := bS H; obtain ⟨⟨t195, t198, t199, t200, t201, t204⟩, A4, H⟩ := H
 replace H : (if t204 = true then (spec_PlayMix.j0 k l2 (decide ((l2.length : Int) > 20)) t195 t198 t199 t200 t201) else (spec_PlayMix.j0 k l2 true t195 t198 t199 t200 t201)) = some (r1, r2) := H
 have HC5 := Aside0.mk H; clear H
 go_enter Try.func21, Try.ntmps21
 go_upto_region 2 with (first | ((with_reducible refine gate_callee (f := 110) rfl ?_); refine goesLa (some 22) rfl Try.func110 #[.int .i64 a0, .int .i64 a1] rfl ?_; (with_reducible refine (spec_NewMix.calls a0 a1 t195 t198 t199 t200 t201 t204 _ A4.out).mono ?_); rintro e w6 ⟨v196, v202, rfl, ho0, ho1, hb⟩; refine ⟨_, rfl, ?_⟩; have HO197 := ak (Kd.R_lower ho0 (below_size (belowd HB))); have HO203 := ak (Kd.R_lower ho1 (below_size (belowd HB))); replace HB := ak (below_step (belowd HB) hb); (try clear hb); (try clear ho0); (try clear ho1)) | ((with_reducible refine gate_dst (N := 8) rfl ?_); (try (refine gate_guard (by rfl) ?_; dsimp only)); refine boxev 8 #[.slice none 0 0, .int .i64 0, .int .i64 0, .int .i64 0, .slice none 0 0] 27 ?_; intro gb205 hg w7 hbox hb; replace HO197 := ak (Kd.R_below (rdl HO197) hb); replace HO203 := ak (Kd.R_below (rdl HO203) hb); have BK205 := ak (hbox); have GW205 := ak (hgl hg (belowd HB)); have GE205 := ak (hgl hg (belowd HB)); replace HB := ak (below_step (belowd HB) hb); clear hb hbox hg; obtain ⟨Ao8, co8, eo8⟩ := Kd.R_slice HO197.out; subst eo8; obtain ⟨hcz9_0, hcz9_1, hcz9_2, hcz9_3, hcz9_4, hfz9_0, hfz9_1, hfz9_2, hfz9_3, hfz9_4⟩ := box5 BK205; obtain ⟨Ao10, co10, eo10⟩ := Kd.R_slice HO203.out; subst eo10))
 (try simp only [Act.put, List.setIfInBounds_toArray, List.set_cons_zero, List.set_cons_succ])
 go_cut [31] (fun v31 wc => ∃ (kq : Nat) (x31_4 : Bool), v31 = .bool x31_4 ∧ Aside0 (spec_PlayMix.j0 kq l2 x31_4 t195 t198 t199 t200 t201 = some (r1, r2)) ∧ Aside0 (kq ≤ k) ∧ Aside0 (Kd.R Kd.string 9 wc w.heap.size (fun _ => True) (.slice Ao8 t195.length co8) t195) ∧ Aside0 (Kd.R (Kd.int .i64) 3 wc w.heap.size (fun _ => True) (.slice Ao10 t201.length co10) t201) ∧ Aside0 (wc.heap[gb205]? = some (.cells #[(.slice Ao8 t195.length co8), .int .i64 t198, .int .i64 t199, .int .i64 t200, (.slice Ao10 t201.length co10)] 27 (0, 0))) ∧ Aside0 (Below w.heap.size w wc))
 case first =>
  have H := HC5.out; clear HC5
  by_cases c11 : t204 = true
  ·subst c11
   have H1 : (spec_PlayMix.j0 k l2 (decide ((l2.length : Int) > 20)) t195 t198 t199 t200 t201) = some (r1, r2) := by rw [if_pos rfl] at H; exact H
   clear H
   have H := H1
   clear H1
   have H' := Aside0.mk H
   clear H; go_wp2
   go_meet
   case rel => exact ⟨_, (decide ((l2.length : Int) > 20)), er, H', ⟨by first | omega | exact Nat.le_refl _⟩, ⟨by (with_reducible repeat (first | apply Kd.R_alloc | apply Kd.R_drewN | apply Kd.R_drew)); exact Kd.R_mono (farsR (Kd.R_types HO197.out BK205.out (by decide))) (fun _ hk => trivial)⟩, ⟨by (with_reducible repeat (first | apply Kd.R_alloc | apply Kd.R_drewN | apply Kd.R_drew)); exact Kd.R_mono (farsR (Kd.R_types HO203.out BK205.out (by decide))) (fun _ hk => trivial)⟩, ⟨by (with_reducible repeat (first | refine blk_drewN ?_ _ | refine blk_drew ?_ | refine blk_alloc ?_ _)); refine blk_put (cs := #[.slice Ao8 t195.length co8, .int .i64 t198, .int .i64 t199, .int .i64 t200, .slice none 0 0]) ?_ 4 _ rfl; (with_reducible repeat (first | refine blk_drewN ?_ _ | refine blk_drew ?_ | refine blk_alloc ?_ _)); refine blk_put (cs := #[.slice Ao8 t195.length co8, .int .i64 t198, .int .i64 t199, .int .i64 0, .slice none 0 0]) ?_ 3 _ rfl; (with_reducible repeat (first | refine blk_drewN ?_ _ | refine blk_drew ?_ | refine blk_alloc ?_ _)); refine blk_put (cs := #[.slice Ao8 t195.length co8, .int .i64 t198, .int .i64 0, .int .i64 0, .slice none 0 0]) ?_ 2 _ rfl; (with_reducible repeat (first | refine blk_drewN ?_ _ | refine blk_drew ?_ | refine blk_alloc ?_ _)); refine blk_put (cs := #[.slice Ao8 t195.length co8, .int .i64 0, .int .i64 0, .int .i64 0, .slice none 0 0]) ?_ 1 _ rfl; (with_reducible repeat (first | refine blk_drewN ?_ _ | refine blk_drew ?_ | refine blk_alloc ?_ _)); refine blk_put (cs := #[.slice none 0 0, .int .i64 0, .int .i64 0, .int .i64 0, .slice none 0 0]) ?_ 0 _ rfl; (with_reducible repeat (first | refine blk_drewN ?_ _ | refine blk_drew ?_ | refine blk_alloc ?_ _)); exact BK205.out⟩, ⟨belowg1 HB GE205⟩⟩
  ·replace c11 := Bool.eq_false_iff.mpr c11
   subst c11
   have H1 : (spec_PlayMix.j0 k l2 true t195 t198 t199 t200 t201) = some (r1, r2) := by rw [if_neg (show ¬ (false = true) by decide)] at H; exact H
   clear H
   have H := H1
   clear H1
   have H' := Aside0.mk H
   clear H; go_wp2
   go_meet
   case rel => exact ⟨_, (true), er, H', ⟨by first | omega | exact Nat.le_refl _⟩, ⟨by (with_reducible repeat (first | apply Kd.R_alloc | apply Kd.R_drewN | apply Kd.R_drew)); exact Kd.R_mono (farsR (Kd.R_types HO197.out BK205.out (by decide))) (fun _ hk => trivial)⟩, ⟨by (with_reducible repeat (first | apply Kd.R_alloc | apply Kd.R_drewN | apply Kd.R_drew)); exact Kd.R_mono (farsR (Kd.R_types HO203.out BK205.out (by decide))) (fun _ hk => trivial)⟩, ⟨by (with_reducible repeat (first | refine blk_drewN ?_ _ | refine blk_drew ?_ | refine blk_alloc ?_ _)); refine blk_put (cs := #[.slice Ao8 t195.length co8, .int .i64 t198, .int .i64 t199, .int .i64 t200, .slice none 0 0]) ?_ 4 _ rfl; (with_reducible repeat (first | refine blk_drewN ?_ _ | refine blk_drew ?_ | refine blk_alloc ?_ _)); refine blk_put (cs := #[.slice Ao8 t195.length co8, .int .i64 t198, .int .i64 t199, .int .i64 0, .slice none 0 0]) ?_ 3 _ rfl; (with_reducible repeat (first | refine blk_drewN ?_ _ | refine blk_drew ?_ | refine blk_alloc ?_ _)); refine blk_put (cs := #[.slice Ao8 t195.length co8, .int .i64 t198, .int .i64 0, .int .i64 0, .slice none 0 0]) ?_ 2 _ rfl; (with_reducible repeat (first | refine blk_drewN ?_ _ | refine blk_drew ?_ | refine blk_alloc ?_ _)); refine blk_put (cs := #[.slice Ao8 t195.length co8, .int .i64 0, .int .i64 0, .int .i64 0, .slice none 0 0]) ?_ 1 _ rfl; (with_reducible repeat (first | refine blk_drewN ?_ _ | refine blk_drew ?_ | refine blk_alloc ?_ _)); refine blk_put (cs := #[.slice none 0 0, .int .i64 0, .int .i64 0, .int .i64 0, .slice none 0 0]) ?_ 0 _ rfl; (with_reducible repeat (first | refine blk_drewN ?_ _ | refine blk_drew ?_ | refine blk_alloc ?_ _)); exact BK205.out⟩, ⟨belowg1 HB GE205⟩⟩
 case rest =>
  clear HC5; (try clear c2); (try clear hcz9_0); (try clear hcz9_1); (try clear hcz9_2); (try clear hcz9_3); (try clear hcz9_4); (try clear hfz9_0); (try clear hfz9_1); (try clear hfz9_2); (try clear hfz9_3); (try clear hfz9_4)
  obtain ⟨kq, x31_4, rfl, HA, HJ4, HO_206000, HO_206004, BK205, HB⟩ := hcut
  cases kq with
  | zero => exact absurd HA.out (by simp [spec_PlayMix.j0])
  | succ kj4 =>
   have H := HA.out; clear HA
   simp only [spec_PlayMix.j0] at H
   by_cases c12 : x31_4 = true
   ·subst c12
    have H1 : (some (([] : List (List ByteArray)), false)) = some (r1, r2) := by rw [if_pos rfl] at H; exact H
    clear H
    have H := H1
    clear H1
    simp only [Option.some.injEq, Prod.mk.injEq] at H
    obtain ⟨rfl, rfl⟩ := H; go_wp2
    go_ret2
    exact ⟨_, er2, by first | exact Kd.S_nil _ _ _ _ _ | exact Kd.N_nil _ _ _ _ _ | exact Kd.V_nil _ _ _ _ _ | exact Kd.Q_nil _ _ _ _ _ | exact Kd.R_nil _ _ _ _ _, belowg1 HB GE205⟩
   ·replace c12 := Bool.eq_false_iff.mpr c12
    subst c12
    have H1 : (spec_PlayMix.l0 kj4 ([] : List (List ByteArray)) l2 (l2.length : Int) 0 t195 t198 t199 t200 t201) = some (r1, r2) := by rw [if_neg (show ¬ (false = true) by decide)] at H; exact H
    clear H
    have H := H1
    clear H1
    have H' := Aside0.mk H
    clear H; go_wp2
    go_loopg [10, 34] kj4 (fun kq v10 v34 w' => ∃ (x10_2 : List (List ByteArray)) (x34_2 : Int) (x206000_2 : List ByteArray) (x206001_2 : Int) (x206002_2 : Int) (x206003_2 : Int) (x206004_2 : List Int) (u206000 : Value) (u206004 : Value), v34 = .int .i64 x34_2 ∧ Aside0 (spec_PlayMix.l0 kq x10_2 l2 (l2.length : Int) x34_2 x206000_2 x206001_2 x206002_2 x206003_2 x206004_2 = some (r1, r2)) ∧ Aside0 (kq ≤ kj4) ∧ Aside0 (Kd.S (Kd.slice 9 Kd.string) 22 w' w.heap.size (fun k_ => some k_ ≠ (u206000 : Value).ownBlock) v10 x10_2) ∧ Aside0 (Kd.R Kd.string 9 w' w.heap.size (fun _ => True) u206000 x206000_2) ∧ Aside0 (Kd.R (Kd.int .i64) 3 w' w.heap.size (fun _ => True) u206004 x206004_2) ∧ Aside0 (w'.heap[gb205]? = some (.cells #[u206000, .int .i64 x206001_2, .int .i64 x206002_2, .int .i64 x206003_2, u206004] 27 (0, 0))) ∧ Aside0 (Below w.heap.size w w'))
    case atStart => exact ⟨(([] : List (List ByteArray))), (0), (t195), (t198), (t199), (t200), (t201), (.slice Ao8 t195.length co8), (.slice Ao10 t201.length co10), er, H', ⟨Nat.le_refl _⟩, ⟨by first | exact Kd.S_nil _ _ _ _ _ | exact Kd.N_nil _ _ _ _ _ | exact Kd.V_nil _ _ _ _ _ | exact Kd.Q_nil _ _ _ _ _ | exact Kd.R_nil _ _ _ _ _⟩, ⟨rdl HO_206000⟩, ⟨rdl HO_206004⟩, ⟨blkd BK205⟩, ⟨belowg1 HB GE205⟩⟩
    case round =>
     clear H'
     (try clear c12)
     obtain ⟨x10_2, x34_2, x206000_2, x206001_2, x206002_2, x206003_2, x206004_2, u206000, u206004, rfl, HA, HK2, HO_10, HO_206000, HO_206004, BK205, HB⟩ := hrel
     cases gk with
     | zero => exact absurd HA.out (by simp [spec_PlayMix.l0])
     | succ k2 =>
      have H := HA.out; clear HA
      simp only [spec_PlayMix.l0] at H
      by_cases c13 : x34_2 < (l2.length : Int)
      ·rw [if_pos c13] at H
       have c13b0 : decide (x34_2 < (l2.length : Int)) = true := decide_eq_true c13
       clear c13; replace H := ifS H; obtain ⟨c14, H⟩ := H; have c14b0 := decide_eq_true c14; clear c14; replace H := ifS H; obtain ⟨c15, H⟩ := H; have c15b0 := decide_eq_true c15; clear c15; replace H := bS H; obtain ⟨t207, A16, H⟩ := H
       replace H : (if t207 = true then (spec_PlayMix.l1 k2 x10_2 l2 (l2.length : Int) x34_2 (rd_L1 l2 x34_2) ((rd_L1 l2 x34_2).length : Int) 0 x206000_2 x206001_2 x206002_2 x206003_2 x206004_2) else (some (([] : List (List ByteArray)), false))) = some (r1, r2) := H
       by_cases c17 : t207 = true
       ·subst c17
        have H1 : (spec_PlayMix.l1 k2 x10_2 l2 (l2.length : Int) x34_2 (rd_L1 l2 x34_2) ((rd_L1 l2 x34_2).length : Int) 0 x206000_2 x206001_2 x206002_2 x206003_2 x206004_2) = some (r1, r2) := by rw [if_pos rfl] at H; exact H
        clear H
        have H := H1
        clear H1
        have H' := Aside0.mk H
        clear H
        have p206 : 0 ≤ (x34_2 : Int) := da
        have q206 : x34_2 < (l2.length : Int) := da
        obtain ⟨ad206, A206_0, c206_0, e206, hx206_0, hl206_0, hi206_0⟩ := at_L1 HR2.out x34_2 p206 q206
        cases e206
        replace hx206_0 := (HB.out.cell (World.block_lt_of_cell? w _ hx206_0)).trans hx206_0
        have HR206_0 := Aside0.mk hi206_0; have HC206_0 := Aside0.mk hl206_0; clear hi206_0 hl206_0; replace p206 := eq_true p206; replace q206 := eq_true q206
        go_wp2_with (first | ((with_reducible refine gate_callee (f := 111) rfl ?_); refine goesLa (some 39) rfl Try.func111 #[.slice A206_0 (rd_L1 l2 x34_2).length c206_0] rfl ?_; (with_reducible refine (spec_l8Pool.calls k2 _ _ (rd_L1 l2 x34_2) true _ ?side1 ?side2 A16.out).mono ?_); (case side1 => exact cd (Kd.C_below HR206_0.out HB.out)); (case side2 => exact HC206_0.out); rintro e w' ⟨rfl, ⟨nd, rfl⟩⟩; refine ⟨_, rfl, ?_⟩))
        go_loopg [43] k2 (fun kq v43 w' => ∃ (x43_3 : Int) (x206000_3 : List ByteArray) (x206001_3 : Int) (x206002_3 : Int) (x206003_3 : Int) (x206004_3 : List Int) (u206000 : Value) (u206004 : Value), v43 = .int .i64 x43_3 ∧ Aside0 (spec_PlayMix.l1 kq x10_2 l2 (l2.length : Int) x34_2 (rd_L1 l2 x34_2) ((rd_L1 l2 x34_2).length : Int) x43_3 x206000_3 x206001_3 x206002_3 x206003_3 x206004_3 = some (r1, r2)) ∧ Aside0 (kq ≤ k2) ∧ Aside0 (Kd.S (Kd.slice 9 Kd.string) 22 w' w.heap.size (fun k_ => some k_ ≠ (u206000 : Value).ownBlock) u10 x10_2) ∧ Aside0 (Kd.R Kd.string 9 w' w.heap.size (fun _ => True) u206000 x206000_3) ∧ Aside0 (Kd.R (Kd.int .i64) 3 w' w.heap.size (fun _ => True) u206004 x206004_3) ∧ Aside0 (w'.heap[gb205]? = some (.cells #[u206000, .int .i64 x206001_3, .int .i64 x206002_3, .int .i64 x206003_3, u206004] 27 (0, 0))) ∧ Aside0 (Below w.heap.size w w'))
        case atStart => exact ⟨(0), (x206000_2), (x206001_2), (x206002_2), (x206003_2), (x206004_2), (u206000), (u206004), er, H', ⟨Nat.le_refl _⟩, ⟨sd HO_10⟩, ⟨rdl HO_206000⟩, ⟨rdl HO_206004⟩, ⟨blkd BK205⟩, ⟨belowg1 HB GE205⟩⟩
        case round =>
         clear H'
         (try clear c13b0); (try clear c14b0); (try clear c15b0); (try clear c17); (try clear hx206_0); (try clear p206); (try clear q206)
         obtain ⟨x43_3, x206000_3, x206001_3, x206002_3, x206003_3, x206004_3, u206000, u206004, rfl, HA, HK3, HO_10, HO_206000, HO_206004, BK205, HB⟩ := hrel
         cases gk with
         | zero => exact absurd HA.out (by simp [spec_PlayMix.l1])
         | succ k3 =>
          have H := HA.out; clear HA
          simp only [spec_PlayMix.l1] at H
          by_cases c18 : x43_3 < ((rd_L1 l2 x34_2).length : Int)
          ·rw [if_pos c18] at H
           have c18b0 : decide (x43_3 < ((rd_L1 l2 x34_2).length : Int)) = true := decide_eq_true c18
           clear c18; replace H := ifS H; obtain ⟨c19, H⟩ := H; have c19b0 := decide_eq_true c19; clear c19; replace H := ifS H; obtain ⟨c20, H⟩ := H; have c20b0 := decide_eq_true c20; clear c20; replace H := bS H; obtain ⟨⟨t209, t212, t213, t214, t215, t218⟩, A21, H⟩ := H
           replace H : (spec_PlayMix.l1 k3 x10_2 l2 (l2.length : Int) x34_2 (rd_L1 l2 x34_2) ((rd_L1 l2 x34_2).length : Int) (wrap64 (x43_3 + 1)) t209 t212 t213 t214 t215) = some (r1, r2) := H
           have H' := Aside0.mk H
           clear H
           have p208 : 0 ≤ (x43_3 : Int) := da
           have q208 : x43_3 < ((rd_L1 l2 x34_2).length : Int) := da
           obtain ⟨ad208, e208, hx208_0⟩ := Kd.at_string HR206_0.out x43_3 p208 q208
           cases e208
           replace hx208_0 := (HB.out.cell (World.block_lt_of_cell? w _ hx208_0)).trans hx208_0
           replace p208 := eq_true p208; replace q208 := eq_true q208; obtain ⟨hcz22_0, hcz22_1, hcz22_2, hcz22_3, hcz22_4, hfz22_0, hfz22_1, hfz22_2, hfz22_3, hfz22_4⟩ := box5 BK205
           obtain ⟨Ao23, co23, eo23⟩ := Kd.R_slice HO_206000.out
           subst eo23
           obtain ⟨Ao24, co24, eo24⟩ := Kd.R_slice HO_206004.out
           subst eo24
           go_wp2_with (first | ((with_reducible refine gate_callee (f := 96) rfl ?_); refine goesLa (some 50) rfl Try.func96 #[.agg #[.slice Ao23 x206000_3.length co23, .int .i64 x206001_3, .int .i64 x206002_3, .int .i64 x206003_3, .slice Ao24 x206004_3.length co24], .string (rdOf ByteArray.empty (rd_L1 l2 x34_2) x43_3)] rfl ?_; (with_reducible refine (spec_l8Put.calls k3 (fun k_ => some k_ = (.slice Ao23 x206000_3.length co23 : Value).ownBlock) (.slice Ao23 x206000_3.length co23) x206000_3 x206001_3 x206002_3 x206003_3 (fun k_ => some k_ = (.slice Ao24 x206004_3.length co24 : Value).ownBlock) (.slice Ao24 x206004_3.length co24) x206004_3 (rdOf ByteArray.empty (rd_L1 l2 x34_2) x43_3) t209 t212 t213 t214 t215 t218 w _ ?side1 ?side2 ?side3 A21.out).mono ?_); (case side1 => repeat (first | (with_reducible first | exact HB.out | apply below_alloc | apply pw_below_drewN | apply below_drew1 | refine below_set ?_ GE205.out) | exact HB.out)); (case side2 => exact Kd.R_tight rfl HO_206000.out); (case side3 => exact Kd.R_tight rfl HO_206004.out); rintro e w25 ⟨v210, v216, rfl, ho0, ho1, hb, hkp⟩; refine ⟨_, rfl, ?_⟩; replace HO_10 := ak (Kd.S_mono (ok' := fun k_ => some k_ ≠ (v210 : Value).ownBlock) (Kd.S_keptB ((Kd.S_apart' HO_10.out (Kd.R_typed HO_206004.out) (by decide))) hkp (fun k_ hk_ hs_ => Or.elim hs_ (fun e_ => (hk_.1) e_) (fun e_ => (hk_.2) e_))) (fun k_ hk_ => fun e_ => Or.elim (ho0.1 k_ e_.symm) (fun hs_ => hk_.2.1 hs_) (fun hn_ => Nat.not_le.2 hk_.2.2 hn_))); replace BK205 := ak (blk_kept (blkd BK205) hkp (fun hs_ => Or.elim hs_ (fun e_ => (fun e_ => (Kd.R_ne HO_206000.out BK205.out (by decide)) e_) e_) (fun e_ => (fun e_ => (Kd.R_ne HO_206004.out BK205.out (by decide)) e_) e_))); have HO211 := ak (Kd.R_mono (ok' := fun k_ => True) ho0 (fun k_ hk_ => trivial)); have HO217 := ak (Kd.R_mono (ok' := fun k_ => True) ho1 (fun k_ hk_ => trivial)); replace HB := ak (hb); clear HO_206000 HO_206004; (try clear hb); (try clear hkp); (try clear ho0); (try clear ho1)) | ((with_reducible refine gate_dst (N := 15) rfl ?_); (try (refine gate_guard (by rfl) ?_; dsimp only)); refine boxev 15 #[.slice none 0 0, .int .i64 0, .int .i64 0, .int .i64 0, .slice none 0 0] 27 ?_; intro gb219 hg w26 hbox hb; replace HO_10 := ak (Kd.S_below (sd HO_10) hb); replace HO211 := ak (Kd.R_below (rdl HO211) hb); replace HO217 := ak (Kd.R_below (rdl HO217) hb); have BK219 := ak (hbox); have GW219 := ak (hgl hg (belowg1 HB GE205)); have GE219 := ak (hgl hg (belowg1 HB GE205)); replace HB := ak (below_step (belowg1 HB GE205) hb); have NB205_219 := ak ((by rw [hg]; exact Nat.ne_of_lt (blk_lt (blkd BK205)) : gb205 ≠ gb219)); have NB219_205 := ak ((by rw [hg]; exact Nat.ne_of_gt (blk_lt (blkd BK205)) : gb219 ≠ gb205)); replace BK205 := ak (blk_below (blkd BK205) hb); clear hb hbox hg; obtain ⟨Ao27, co27, eo27⟩ := Kd.R_slice HO211.out; subst eo27; have hnb28 := NB219_205.out; have hnc28 := NB205_219.out; obtain ⟨hcz29_0, hcz29_1, hcz29_2, hcz29_3, hcz29_4, hfz29_0, hfz29_1, hfz29_2, hfz29_3, hfz29_4⟩ := box5 BK219; obtain ⟨Ao30, co30, eo30⟩ := Kd.R_slice HO217.out; subst eo30; obtain ⟨hcz31_0, hcz31_1, hcz31_2, hcz31_3, hcz31_4, hfz31_0, hfz31_1, hfz31_2, hfz31_3, hfz31_4⟩ := box5 BK205))
           go_roundg k3
           case measure => have := HJ4.out; have := HK2.out; have := HK3.out; omega
           case rel => exact ⟨(wrap64 (x43_3 + 1)), (t209), (t212), (t213), (t214), (t215), (.slice Ao27 t209.length co27), (.slice Ao30 t215.length co30), er, H', ⟨by have := HJ4.out; have := HK2.out; have := HK3.out; omega⟩, ⟨by (with_reducible repeat (first | apply Kd.S_alloc | apply Kd.S_drewN | apply Kd.S_drew)); exact Kd.S_mono (farsS (Kd.S_types (Kd.S_types HO_10.out BK219.out (by decide)) BK205.out (by decide))) (fun _ hk => hk.1.1)⟩, ⟨by (with_reducible repeat (first | apply Kd.R_alloc | apply Kd.R_drewN | apply Kd.R_drew)); exact Kd.R_mono (farsR (Kd.R_types (Kd.R_types HO211.out BK219.out (by decide)) BK205.out (by decide))) (fun _ hk => trivial)⟩, ⟨by (with_reducible repeat (first | apply Kd.R_alloc | apply Kd.R_drewN | apply Kd.R_drew)); exact Kd.R_mono (farsR (Kd.R_types (Kd.R_types HO217.out BK219.out (by decide)) BK205.out (by decide))) (fun _ hk => trivial)⟩, ⟨by (with_reducible repeat (first | refine blk_drewN ?_ _ | refine blk_drew ?_ | refine blk_alloc ?_ _)); refine blk_put (cs := #[.slice Ao27 t209.length co27, .int .i64 t212, .int .i64 t213, .int .i64 t214, .slice Ao24 x206004_3.length co24]) ?_ 4 _ rfl; (with_reducible repeat (first | refine blk_drewN ?_ _ | refine blk_drew ?_ | refine blk_alloc ?_ _)); refine blk_put (cs := #[.slice Ao27 t209.length co27, .int .i64 t212, .int .i64 t213, .int .i64 x206003_3, .slice Ao24 x206004_3.length co24]) ?_ 3 _ rfl; (with_reducible repeat (first | refine blk_drewN ?_ _ | refine blk_drew ?_ | refine blk_alloc ?_ _)); refine blk_put (cs := #[.slice Ao27 t209.length co27, .int .i64 t212, .int .i64 x206002_3, .int .i64 x206003_3, .slice Ao24 x206004_3.length co24]) ?_ 2 _ rfl; (with_reducible repeat (first | refine blk_drewN ?_ _ | refine blk_drew ?_ | refine blk_alloc ?_ _)); refine blk_put (cs := #[.slice Ao27 t209.length co27, .int .i64 x206001_3, .int .i64 x206002_3, .int .i64 x206003_3, .slice Ao24 x206004_3.length co24]) ?_ 1 _ rfl; (with_reducible repeat (first | refine blk_drewN ?_ _ | refine blk_drew ?_ | refine blk_alloc ?_ _)); refine blk_put (cs := #[.slice Ao23 x206000_3.length co23, .int .i64 x206001_3, .int .i64 x206002_3, .int .i64 x206003_3, .slice Ao24 x206004_3.length co24]) ?_ 0 _ rfl; (with_reducible repeat (first | refine blk_drewN ?_ _ | refine blk_drew ?_ | refine blk_alloc ?_ _)); refine blk_far ?_ NB205_219.out _; (with_reducible repeat (first | refine blk_drewN ?_ _ | refine blk_drew ?_ | refine blk_alloc ?_ _)); refine blk_far ?_ NB205_219.out _; (with_reducible repeat (first | refine blk_drewN ?_ _ | refine blk_drew ?_ | refine blk_alloc ?_ _)); refine blk_far ?_ NB205_219.out _; (with_reducible repeat (first | refine blk_drewN ?_ _ | refine blk_drew ?_ | refine blk_alloc ?_ _)); refine blk_far ?_ NB205_219.out _; (with_reducible repeat (first | refine blk_drewN ?_ _ | refine blk_drew ?_ | refine blk_alloc ?_ _)); refine blk_far ?_ NB205_219.out _; (with_reducible repeat (first | refine blk_drewN ?_ _ | refine blk_drew ?_ | refine blk_alloc ?_ _)); exact BK205.out⟩, ⟨belowg2 HB GE205 GE219⟩⟩
          ·rw [if_neg c18] at H
           have c18b0 : decide (x43_3 < ((rd_L1 l2 x34_2).length : Int)) = false := decide_eq_false c18
           clear c18; replace H := bS H; obtain ⟨⟨t220, t223, t224, t225, t226, t229⟩, A32, H⟩ := H
           replace H : ((some (([] : List ByteArray) : List ByteArray)).bind fun y233 => (if y233.length + t229.length < 8796093022208 then (if x10_2.length < 5864062014805 then (spec_PlayMix.l0 k3 (x10_2 ++ [(y233 ++ t229)]) l2 (l2.length : Int) (wrap64 (x34_2 + 1)) t220 t223 t224 t225 t226) else (none)) else (none))) = some (r1, r2) := H
           obtain ⟨y233, hy_⟩ : ∃ y_ : List ByteArray, y_ = (([] : List ByteArray)) := ⟨_, rfl⟩
           replace H : (if y233.length + t229.length < 8796093022208 then (if x10_2.length < 5864062014805 then (spec_PlayMix.l0 k3 (x10_2 ++ [(y233 ++ t229)]) l2 (l2.length : Int) (wrap64 (x34_2 + 1)) t220 t223 t224 t225 t226) else (none)) else (none)) = some (r1, r2) := yH
           have Ny233 := ak hy_; clear hy_; replace H := ifS H; obtain ⟨c33, H⟩ := H; have LMc33 := Aside0.mk c33; clear c33
           obtain ⟨y236, hy_⟩ : ∃ y_ : List ByteArray, y_ = (y233 ++ t229) := ⟨_, rfl⟩
           replace H : (if x10_2.length < 5864062014805 then (spec_PlayMix.l0 k3 (x10_2 ++ [y236]) l2 (l2.length : Int) (wrap64 (x34_2 + 1)) t220 t223 t224 t225 t226) else (none)) = some (r1, r2) := yH
           have Ny236 := ak hy_; clear hy_; replace H := ifS H; obtain ⟨c34, H⟩ := H; have LMc34 := Aside0.mk c34; clear c34
           obtain ⟨y239, hy_⟩ : ∃ y_ : List (List ByteArray), y_ = (x10_2 ++ [y236]) := ⟨_, rfl⟩
           replace H : (spec_PlayMix.l0 k3 y239 l2 (l2.length : Int) (wrap64 (x34_2 + 1)) t220 t223 t224 t225 t226) = some (r1, r2) := yH
           have Ny239 := ak hy_; clear hy_
           have H' := Aside0.mk H
           clear H; obtain ⟨hcz35_0, hcz35_1, hcz35_2, hcz35_3, hcz35_4, hfz35_0, hfz35_1, hfz35_2, hfz35_3, hfz35_4⟩ := box5 BK205
           obtain ⟨Ao36, co36, eo36⟩ := Kd.R_slice HO_206000.out
           subst eo36
           obtain ⟨Ao37, co37, eo37⟩ := Kd.R_slice HO_206004.out
           subst eo37
           go_wp2_with (first | ((with_reducible refine gate_callee (f := 112) rfl ?_); refine goesLa (some 57) rfl Try.func112 #[.agg #[.slice Ao36 x206000_3.length co36, .int .i64 x206001_3, .int .i64 x206002_3, .int .i64 x206003_3, .slice Ao37 x206004_3.length co37]] rfl ?_; (with_reducible refine (spec_l8Tick.calls (fun k_ => some k_ = (.slice Ao36 x206000_3.length co36 : Value).ownBlock) (.slice Ao36 x206000_3.length co36) x206000_3 x206001_3 x206002_3 x206003_3 (fun k_ => some k_ = (.slice Ao37 x206004_3.length co37 : Value).ownBlock) (.slice Ao37 x206004_3.length co37) x206004_3 t220 t223 t224 t225 t226 t229 w _ ?side1 ?side2 ?side3 A32.out).mono ?_); (case side1 => repeat (first | (with_reducible first | exact HB.out | apply below_alloc | apply pw_below_drewN | apply below_drew1 | refine below_set ?_ GE205.out) | exact HB.out)); (case side2 => exact Kd.R_tight rfl HO_206000.out); (case side3 => exact Kd.R_tight rfl HO_206004.out); rintro e w38 ⟨v221, v227, v230, rfl, ho0, ho1, ho2, hb, hkp⟩; refine ⟨_, rfl, ?_⟩; replace HO_10 := ak (Kd.S_mono (ok' := fun k_ => some k_ ≠ (v221 : Value).ownBlock ∧ some k_ ≠ (v230 : Value).ownBlock) (Kd.S_keptB ((Kd.S_apart' HO_10.out (Kd.R_typed HO_206004.out) (by decide))) hkp (fun k_ hk_ hs_ => Or.elim hs_ (fun e_ => (hk_.1) e_) (fun e_ => (hk_.2) e_))) (fun k_ hk_ => ⟨fun e_ => Or.elim (ho0.1 k_ e_.symm).1 (fun hs_ => hk_.2.1 hs_) (fun hn_ => Nat.not_le.2 hk_.2.2 hn_), fun e_ => Or.elim (ho2.1 k_ e_.symm).1 (fun hs_ => hk_.2.1 hs_) (fun hn_ => Nat.not_le.2 hk_.2.2 hn_)⟩)); replace BK205 := ak (blk_kept (blkd BK205) hkp (fun hs_ => Or.elim hs_ (fun e_ => (fun e_ => (Kd.R_ne HO_206000.out BK205.out (by decide)) e_) e_) (fun e_ => (fun e_ => (Kd.R_ne HO_206004.out BK205.out (by decide)) e_) e_))); have HO222 := ak (Kd.R_mono (ok' := fun k_ => some k_ ≠ (v230 : Value).ownBlock) ho0 (fun k_ hk_ => hk_.2)); have HO228 := ak (Kd.R_mono (ok' := fun k_ => True) ho1 (fun k_ hk_ => trivial)); have HO231 := ak (Kd.R_mono (ok' := fun k_ => some k_ ≠ (v221 : Value).ownBlock) ho2 (fun k_ hk_ => hk_.2)); replace HB := ak (hb); clear HO_206000 HO_206004; (try clear hb); (try clear hkp); (try clear ho0); (try clear ho1); (try clear ho2)) | ((with_reducible refine gate_dst (N := 17) rfl ?_); (try (refine gate_guard (by rfl) ?_; dsimp only)); refine boxev 17 #[.slice none 0 0, .int .i64 0, .int .i64 0, .int .i64 0, .slice none 0 0] 27 ?_; intro gb232 hg w39 hbox hb; replace HO_10 := ak (Kd.S_below (sd HO_10) hb); replace HO222 := ak (Kd.R_below (rdl HO222) hb); replace HO228 := ak (Kd.R_below (rdl HO228) hb); replace HO231 := ak (Kd.R_below (rdl HO231) hb); have BK232 := ak (hbox); have GW232 := ak (hgl hg (belowg1 HB GE205)); have GE232 := ak (hgl hg (belowg1 HB GE205)); replace HB := ak (below_step (belowg1 HB GE205) hb); have NB205_232 := ak ((by rw [hg]; exact Nat.ne_of_lt (blk_lt (blkd BK205)) : gb205 ≠ gb232)); have NB232_205 := ak ((by rw [hg]; exact Nat.ne_of_gt (blk_lt (blkd BK205)) : gb232 ≠ gb205)); replace BK205 := ak (blk_below (blkd BK205) hb); clear hb hbox hg; obtain ⟨Ao40, co40, eo40⟩ := Kd.R_slice HO222.out; subst eo40; have hnb41 := NB232_205.out; have hnc41 := NB205_232.out; obtain ⟨hcz42_0, hcz42_1, hcz42_2, hcz42_3, hcz42_4, hfz42_0, hfz42_1, hfz42_2, hfz42_3, hfz42_4⟩ := box5 BK232; obtain ⟨Ao43, co43, eo43⟩ := Kd.R_slice HO228.out; subst eo43; obtain ⟨hcz44_0, hcz44_1, hcz44_2, hcz44_3, hcz44_4, hfz44_0, hfz44_1, hfz44_2, hfz44_3, hfz44_4⟩ := box5 BK205) | ((with_reducible refine gate_dst (N := 62) rfl ?_); (try (refine gate_guard (by rfl) ?_; dsimp only)); refine Kd.R_lit Kd.string _ 9 ?hg (N := 62) ?hd (xs := ([] : List ByteArray)) (inner := []) (ok := fun _ => True) (okp := fun _ => True) ?hr ?hp (fun _ hk => hk) trivial (Below.refl _ _) (Nat.le_refl _) (by simp) ?_; (case hd => rfl); (case hg => rfl); (case hr => first | (go_simp; done) | (go_simp; rfl)); (case hp => exact (Reps.none _ _)); intro v234 w45 ho46 hb hg_ hnew_; clear hg_ hnew_; (first | rw [← Ny233.out] at ho46 | (simp only [Int.reduceToNat] at ho46; rw [← Ny233.out] at ho46)); replace HO_10 := ak (Kd.S_elder' (by (with_reducible repeat (first | apply Kd.S_alloc | apply Kd.S_drewN | apply Kd.S_drew)); exact (Kd.S_mono (Kd.S_mono (farsS (Kd.S_types (Kd.S_types HO_10.out BK232.out (by decide)) BK205.out (by decide))) (fun _ h_ => h_.1)) (fun _ h_ => h_.1))) (Kd.R_base ho46) hb); replace HO228 := ak (Kd.R_below (by (with_reducible repeat (first | apply Kd.R_alloc | apply Kd.R_drewN | apply Kd.R_drew)); exact (Kd.R_mono (Kd.R_mono (farsR (Kd.R_types (Kd.R_types HO228.out BK232.out (by decide)) BK205.out (by decide))) (fun _ h_ => h_.1)) (fun _ h_ => h_.1))) hb); have HO235 := ak (Kd.R_lower (Kd.R_new' (Kd.R_new' ho46 (Kd.R_lt (by (with_reducible repeat (first | apply Kd.R_alloc | apply Kd.R_drewN | apply Kd.R_drew)); exact (Kd.R_mono (Kd.R_mono (farsR (Kd.R_types (Kd.R_types HO222.out BK232.out (by decide)) BK205.out (by decide))) (fun _ h_ => h_.1)) (fun _ h_ => h_.1))))) (Kd.R_lt (by (with_reducible repeat (first | apply Kd.R_alloc | apply Kd.R_drewN | apply Kd.R_drew)); exact (Kd.R_mono (Kd.R_mono (farsR (Kd.R_types (Kd.R_types HO231.out BK232.out (by decide)) BK205.out (by decide))) (fun _ h_ => h_.1)) (fun _ h_ => h_.1))))) (below_size (belowg2 HB GE205 GE232))); replace HO222 := ak (Kd.R_elder' (by (with_reducible repeat (first | apply Kd.R_alloc | apply Kd.R_drewN | apply Kd.R_drew)); exact (Kd.R_mono (Kd.R_mono (farsR (Kd.R_types (Kd.R_types HO222.out BK232.out (by decide)) BK205.out (by decide))) (fun _ h_ => h_.1)) (fun _ h_ => h_.1))) (Kd.R_base ho46) hb); replace HO231 := ak (Kd.R_elder' (by (with_reducible repeat (first | apply Kd.R_alloc | apply Kd.R_drewN | apply Kd.R_drew)); exact (Kd.R_mono (Kd.R_mono (farsR (Kd.R_types (Kd.R_types HO231.out BK232.out (by decide)) BK205.out (by decide))) (fun _ h_ => h_.1)) (fun _ h_ => h_.1))) (Kd.R_base ho46) hb); replace BK205 := ak (blk_below (g := gb205) (o := .cells #[.slice Ao40 t220.length co40, .int .i64 t223, .int .i64 t224, .int .i64 t225, .slice Ao43 t226.length co43] 27 (0, 0)) (by (with_reducible repeat (first | refine blk_drewN ?_ _ | refine blk_drew ?_ | refine blk_alloc ?_ _)); refine blk_put (cs := #[.slice Ao40 t220.length co40, .int .i64 t223, .int .i64 t224, .int .i64 t225, .slice Ao37 x206004_3.length co37]) ?_ 4 _ rfl; (with_reducible repeat (first | refine blk_drewN ?_ _ | refine blk_drew ?_ | refine blk_alloc ?_ _)); refine blk_put (cs := #[.slice Ao40 t220.length co40, .int .i64 t223, .int .i64 t224, .int .i64 x206003_3, .slice Ao37 x206004_3.length co37]) ?_ 3 _ rfl; (with_reducible repeat (first | refine blk_drewN ?_ _ | refine blk_drew ?_ | refine blk_alloc ?_ _)); refine blk_put (cs := #[.slice Ao40 t220.length co40, .int .i64 t223, .int .i64 x206002_3, .int .i64 x206003_3, .slice Ao37 x206004_3.length co37]) ?_ 2 _ rfl; (with_reducible repeat (first | refine blk_drewN ?_ _ | refine blk_drew ?_ | refine blk_alloc ?_ _)); refine blk_put (cs := #[.slice Ao40 t220.length co40, .int .i64 x206001_3, .int .i64 x206002_3, .int .i64 x206003_3, .slice Ao37 x206004_3.length co37]) ?_ 1 _ rfl; (with_reducible repeat (first | refine blk_drewN ?_ _ | refine blk_drew ?_ | refine blk_alloc ?_ _)); refine blk_put (cs := #[.slice Ao36 x206000_3.length co36, .int .i64 x206001_3, .int .i64 x206002_3, .int .i64 x206003_3, .slice Ao37 x206004_3.length co37]) ?_ 0 _ rfl; (with_reducible repeat (first | refine blk_drewN ?_ _ | refine blk_drew ?_ | refine blk_alloc ?_ _)); refine blk_far ?_ NB205_232.out _; (with_reducible repeat (first | refine blk_drewN ?_ _ | refine blk_drew ?_ | refine blk_alloc ?_ _)); refine blk_far ?_ NB205_232.out _; (with_reducible repeat (first | refine blk_drewN ?_ _ | refine blk_drew ?_ | refine blk_alloc ?_ _)); refine blk_far ?_ NB205_232.out _; (with_reducible repeat (first | refine blk_drewN ?_ _ | refine blk_drew ?_ | refine blk_alloc ?_ _)); refine blk_far ?_ NB205_232.out _; (with_reducible repeat (first | refine blk_drewN ?_ _ | refine blk_drew ?_ | refine blk_alloc ?_ _)); refine blk_far ?_ NB205_232.out _; (with_reducible repeat (first | refine blk_drewN ?_ _ | refine blk_drew ?_ | refine blk_alloc ?_ _)); exact BK205.out) hb); replace BK232 := ak (blk_below (g := gb232) (o := .cells #[.slice Ao40 t220.length co40, .int .i64 t223, .int .i64 t224, .int .i64 t225, .slice Ao43 t226.length co43] 27 (0, 0)) (by (with_reducible repeat (first | refine blk_drewN ?_ _ | refine blk_drew ?_ | refine blk_alloc ?_ _)); refine blk_far ?_ NB232_205.out _; (with_reducible repeat (first | refine blk_drewN ?_ _ | refine blk_drew ?_ | refine blk_alloc ?_ _)); refine blk_far ?_ NB232_205.out _; (with_reducible repeat (first | refine blk_drewN ?_ _ | refine blk_drew ?_ | refine blk_alloc ?_ _)); refine blk_far ?_ NB232_205.out _; (with_reducible repeat (first | refine blk_drewN ?_ _ | refine blk_drew ?_ | refine blk_alloc ?_ _)); refine blk_far ?_ NB232_205.out _; (with_reducible repeat (first | refine blk_drewN ?_ _ | refine blk_drew ?_ | refine blk_alloc ?_ _)); refine blk_far ?_ NB232_205.out _; (with_reducible repeat (first | refine blk_drewN ?_ _ | refine blk_drew ?_ | refine blk_alloc ?_ _)); refine blk_put (cs := #[.slice Ao40 t220.length co40, .int .i64 t223, .int .i64 t224, .int .i64 t225, .slice none 0 0]) ?_ 4 _ rfl; (with_reducible repeat (first | refine blk_drewN ?_ _ | refine blk_drew ?_ | refine blk_alloc ?_ _)); refine blk_put (cs := #[.slice Ao40 t220.length co40, .int .i64 t223, .int .i64 t224, .int .i64 0, .slice none 0 0]) ?_ 3 _ rfl; (with_reducible repeat (first | refine blk_drewN ?_ _ | refine blk_drew ?_ | refine blk_alloc ?_ _)); refine blk_put (cs := #[.slice Ao40 t220.length co40, .int .i64 t223, .int .i64 0, .int .i64 0, .slice none 0 0]) ?_ 2 _ rfl; (with_reducible repeat (first | refine blk_drewN ?_ _ | refine blk_drew ?_ | refine blk_alloc ?_ _)); refine blk_put (cs := #[.slice Ao40 t220.length co40, .int .i64 0, .int .i64 0, .int .i64 0, .slice none 0 0]) ?_ 1 _ rfl; (with_reducible repeat (first | refine blk_drewN ?_ _ | refine blk_drew ?_ | refine blk_alloc ?_ _)); refine blk_put (cs := #[.slice none 0 0, .int .i64 0, .int .i64 0, .int .i64 0, .slice none 0 0]) ?_ 0 _ rfl; (with_reducible repeat (first | refine blk_drewN ?_ _ | refine blk_drew ?_ | refine blk_alloc ?_ _)); exact BK232.out) hb); replace HB := ak (below_step (belowg2 HB GE205 GE232) hb); clear hb ho46; obtain ⟨Ao48, co48, eo48⟩ := Kd.R_slice HO231.out; subst eo48) | ((with_reducible refine gate_builtin (b := .append) (xs := #[.tmp 62, .tmp 63]) rfl ?_); (try (refine gate_guard (by rfl) ?_; dsimp only)); at_builtin; refine Kd.R_append_rows Kd.string (w0 := w) w.heap.size rfl (.tmp 62) (.tmp 63) 22 9 (.string ⟨#[]⟩) 16 rfl Try.underlying22 info9 rfl (by decide) (by omega) v234 y233 t229 _ _ _ (fun k_ => some k_ ≠ (.slice Ao40 t220.length co40 : Value).ownBlock ∧ some k_ ≠ (.slice Ao48 t229.length co48 : Value).ownBlock) (fun _ => False) rfl rfl ?aO ?aR (fun _ _ h => h) (fun _ h => h.elim) ?aF ?aB ?aS ?aL ?_; (case aR => exact cd (Kd.R_reads' HO231.out).2.2); (case aB => exact (belowg2 HB GE205 GE232)); (case aF => exact (fun k_ hk => ⟨Kd.fresh' (Kd.R_lt (rdl HO222)) k_ hk, Kd.fresh' (Kd.R_lt (rdl HO231)) k_ hk⟩)); (case aO => exact (by (with_reducible repeat (first | apply Kd.R_alloc | apply Kd.R_drewN | apply Kd.R_drew)); exact Kd.R_mono HO235.out (fun _ hk => ⟨hk.1.2, hk.2⟩))); (case aS => exact (below_size (belowg2 HB GE205 GE232))); (case aL => have := LMc33.out; omega); intro v237 w47 ho hb hg hat; rw [← Ny236.out] at ho; replace HO_10 := ak (Kd.S_after (ok := (fun k_ => some k_ ≠ (.slice Ao40 t220.length co40 : Value).ownBlock ∧ some k_ ≠ (.slice Ao48 t229.length co48 : Value).ownBlock)) (sd HO_10) hg hat); replace BK205 := ak (blk_grown (blkd BK205) hg (Kd.R_ne HO235.out BK205.out (by decide))); replace HO222 := ak (Kd.R_after (ok := (fun k_ => some k_ ≠ (.slice Ao48 t229.length co48 : Value).ownBlock)) (rdl HO222) hg hat); replace HO228 := ak (Kd.R_over' (rdl HO228) (Kd.R_typed (rdl HO235)) (by decide) hg); replace HO231 := ak (Kd.R_after (ok := (fun k_ => some k_ ≠ (.slice Ao40 t220.length co40 : Value).ownBlock)) (rdl HO231) hg hat); replace BK232 := ak (blk_grown (blkd BK232) hg (Kd.R_ne HO235.out BK232.out (by decide))); replace HB := ak (hb); have HO238 := ak (ho); clear HO235; clear ho hb hg hat; obtain ⟨Ao50, co50, eo50⟩ := Kd.R_slice HO238.out; subst eo50) | ((with_reducible refine gate_builtin (b := .append) (xs := #[.tmp 61, .tmp 65]) rfl ?_); (try (refine gate_guard (by rfl) ?_; dsimp only)); at_builtin; refine Kd.S_append (Kd.slice 9 Kd.string) (w0 := w) w.heap.size rfl (.tmp 61) (.tmp 65) 34 22 (.slice none 0 0) 24 rfl Try.underlying34 info22 rfl (by decide) (by omega) u10 x10_2 y236 [.slice Ao50 y236.length co50] (fun k_ => some k_ ≠ (.slice Ao40 t220.length co40 : Value).ownBlock ∧ some k_ ≠ (.slice Ao48 t229.length co48 : Value).ownBlock) (fun k_ => some k_ = (.slice Ao50 y236.length co50 : Value).ownBlock) rfl rfl ?aP (fun k_ hk_ => ((Kd.R_mono (ok' := fun k_ => ((fun k_ => some k_ ≠ (.slice Ao40 t220.length co40 : Value).ownBlock ∧ some k_ ≠ (.slice Ao48 t229.length co48 : Value).ownBlock)) k_ ∧ some k_ ≠ (u10 : Value).ownBlock) (Kd.R_apart' (HO238.out) (Kd.S_typed HO_10.out) (by decide)) (fun k_ hk => ⟨⟨hk.1.1, hk.1.2⟩, hk.2⟩))).1 k_ hk_.symm) ?aF ?aO ?aB ?aS ?aL ?_; (case aP => exact Kd.M_row (Kd.R_mono (Kd.R_tight rfl (Kd.R_mono (ok' := fun k_ => ((fun k_ => some k_ ≠ (.slice Ao40 t220.length co40 : Value).ownBlock ∧ some k_ ≠ (.slice Ao48 t229.length co48 : Value).ownBlock)) k_ ∧ some k_ ≠ (u10 : Value).ownBlock) (Kd.R_apart' (HO238.out) (Kd.S_typed HO_10.out) (by decide)) (fun k_ hk => ⟨⟨hk.1.1, hk.1.2⟩, hk.2⟩))) (fun _ h_ => h_))); (case aB => exact (belowg2 HB GE205 GE232)); (case aF => exact (fun k_ hk => ⟨Kd.fresh' (Kd.R_lt (rdl HO222)) k_ hk, Kd.fresh' (Kd.R_lt (rdl HO231)) k_ hk⟩)); (case aO => exact (by (with_reducible repeat (first | apply Kd.S_alloc | apply Kd.S_drewN | apply Kd.S_drew)); exact Kd.S_mono HO_10.out (fun k_ hk => ⟨⟨hk.1.1, hk.1.2⟩, fun e_ => hk.2 e_⟩))); (case aS => exact (below_size (belowg2 HB GE205 GE232))); (case aL => have := LMc34.out; omega); intro v240 w49 ho hb hg hat; rw [← Ny239.out] at ho; replace BK205 := ak (blk_grown (blkd BK205) hg (Kd.S_ne HO_10.out BK205.out (by decide))); replace HO222 := ak (Kd.R_over' (rdl HO222) (Kd.S_typed (sd HO_10)) (by decide) hg); replace HO228 := ak (Kd.R_over' (rdl HO228) (Kd.S_typed (sd HO_10)) (by decide) hg); replace HO231 := ak (Kd.R_over' (rdl HO231) (Kd.S_typed (sd HO_10)) (by decide) hg); replace BK232 := ak (blk_grown (blkd BK232) hg (Kd.S_ne HO_10.out BK232.out (by decide))); replace HB := ak (hb); have HO241 := ak (ho); clear HO_10 HO238; clear ho hb hg hat))
           go_roundg k3
           case measure => have := HJ4.out; have := HK2.out; have := HK3.out; omega
           case rel => exact ⟨(y239), (wrap64 (x34_2 + 1)), (t220), (t223), (t224), (t225), (t226), (.slice Ao40 t220.length co40), (.slice Ao43 t226.length co43), er, H', ⟨by have := HJ4.out; have := HK2.out; have := HK3.out; omega⟩, ⟨by (with_reducible repeat (first | apply Kd.S_alloc | apply Kd.S_drewN | apply Kd.S_drew)); exact Kd.S_mono HO241.out (fun _ hk => hk.1)⟩, ⟨by (with_reducible repeat (first | apply Kd.R_alloc | apply Kd.R_drewN | apply Kd.R_drew)); exact Kd.R_mono HO222.out (fun _ hk => trivial)⟩, ⟨rdl HO228⟩, ⟨blkd BK205⟩, ⟨belowg2 HB GE205 GE232⟩⟩
       ·replace c17 := Bool.eq_false_iff.mpr c17
        subst c17
        have H1 : (some (([] : List (List ByteArray)), false)) = some (r1, r2) := by rw [if_neg (show ¬ (false = true) by decide)] at H; exact H
        clear H
        have H := H1
        clear H1
        simp only [Option.some.injEq, Prod.mk.injEq] at H
        obtain ⟨rfl, rfl⟩ := H
        have p206 : 0 ≤ (x34_2 : Int) := da
        have q206 : x34_2 < (l2.length : Int) := da
        obtain ⟨ad206, A206_0, c206_0, e206, hx206_0, hl206_0, hi206_0⟩ := at_L1 HR2.out x34_2 p206 q206
        cases e206
        replace hx206_0 := (HB.out.cell (World.block_lt_of_cell? w _ hx206_0)).trans hx206_0
        have HR206_0 := Aside0.mk hi206_0; have HC206_0 := Aside0.mk hl206_0; clear hi206_0 hl206_0; replace p206 := eq_true p206; replace q206 := eq_true q206
        go_wp2_with (first | ((with_reducible refine gate_callee (f := 111) rfl ?_); refine goesLa (some 39) rfl Try.func111 #[.slice A206_0 (rd_L1 l2 x34_2).length c206_0] rfl ?_; (with_reducible refine (spec_l8Pool.calls k2 _ _ (rd_L1 l2 x34_2) false _ ?side1 ?side2 A16.out).mono ?_); (case side1 => exact cd (Kd.C_below HR206_0.out HB.out)); (case side2 => exact HC206_0.out); rintro e w' ⟨rfl, ⟨nd, rfl⟩⟩; refine ⟨_, rfl, ?_⟩))
        go_ret2
        exact ⟨_, er2, by first | exact Kd.S_nil _ _ _ _ _ | exact Kd.N_nil _ _ _ _ _ | exact Kd.V_nil _ _ _ _ _ | exact Kd.Q_nil _ _ _ _ _ | exact Kd.R_nil _ _ _ _ _, belowg1 HB GE205⟩
      ·rw [if_neg c13] at H
       have c13b0 : decide (x34_2 < (l2.length : Int)) = false := decide_eq_false c13
       clear c13
       simp only [Option.some.injEq, Prod.mk.injEq] at H
       obtain ⟨rfl, rfl⟩ := H; go_wp2
       go_ret2
       exact ⟨_, er2, by (with_reducible repeat (first | apply Kd.S_alloc | apply Kd.S_drewN | apply Kd.S_drew)); exact Kd.S_mono HO_10.out (fun _ hk => trivial), belowg1 HB GE205⟩

end Go.Proofs.Ytkgogglnipdcfaa.QFnExactPlayMix
