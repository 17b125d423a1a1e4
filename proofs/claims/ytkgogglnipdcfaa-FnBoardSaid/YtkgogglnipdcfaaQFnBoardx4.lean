-- printed by this session's own program (wip/tools/pp.py: the kit's print.py with changes); Lean checks it
import Derived.Test.YtkgogglnipdcfaaQFnBoardx0
import Derived.Test.YtkgogglnipdcfaaQFnBoardx3
namespace Go.Proofs.Ytkgogglnipdcfaa.QFnBoard
open Go.RowKit Go.Proofs.YtkgogglnipdcfaaW.PrintWords Go.Proofs.YtkgogglnipdcfaaW.PrintLast Go.Proofs.YtkgogglnipdcfaaW.PrintMore
attribute [local go_sem] max2_int min2_int max_two min_two max_three min_three max_four min_four strLss strGtr strLeq strGeq   -- for this text's walks alone
set_option linter.unusedVariables false
set_option linter.unusedSimpArgs false

/-! ### slices_Clone_int_int: function 179 -/
def slices_Clone_int_int.f (l0 : List Int) : Option (List Int) := (some (([] : List Int) : List Int)).bind fun y303 => (if y303.length + l0.length < 17592186044416 then (some (y303 ++ l0)) else (none))
theorem clonenil179 (w : World) (a : Option Addr) (m c m' c' : Nat) : (Go.binOp .eql 23 (.slice a m c) (.slice none m' c')).run Try.prog w = .ok (.bool a.isNone) w := Go.Lib.run_eql_slice_nil w 23 3 a m c m' c' Try.underlying23
attribute [local go_sem high] clonenil179
set_option maxHeartbeats 8000000 in
set_option maxRecDepth 100000 in
theorem slices_Clone_int_int.calls_some (ad0 : Addr) (c0 : Nat) (l0 : List Int) (r : List Int) (w : World) (hr0 : Kd.C (Kd.int .i64) w (some ad0) l0.length l0) (hc0 : l0.length ≤ c0) (h : slices_Clone_int_int.f l0 = some r) :
  Calls Try.prog 179 #[.slice (some ad0) l0.length c0] w fun e w' => ∃ v0_ : Value, e = .returned (v0_) ∧ Kd.R (Kd.int .i64) 3 w' w.heap.size (fun _ => True) v0_ r ∧ Below w.heap.size w w' := by
 have HR0 := Aside0.mk hr0; have HC0 := Aside0.mk hc0; clear hr0 hc0
 have HB := Aside0.mk (Below.refl w.heap.size w)
 have H : ((some (([] : List Int) : List Int)).bind fun y303 => (if y303.length + l0.length < 17592186044416 then (some (y303 ++ l0)) else (none))) = some r := h
 clear h
 obtain ⟨y303, hy_⟩ : ∃ y_ : List Int, y_ = (([] : List Int)) := ⟨_, rfl⟩
 replace H : (if y303.length + l0.length < 17592186044416 then (some (y303 ++ l0)) else (none)) = some r := yH
 have Ny303 := ak hy_; clear hy_; replace H := ifS H; obtain ⟨c2, H⟩ := H; have LMc2 := Aside0.mk c2; clear c2
 obtain ⟨y306, hy_⟩ : ∃ y_ : List Int, y_ = (y303 ++ l0) := ⟨_, rfl⟩
 replace H : (some y306) = some r := yH
 have Ny306 := ak hy_; clear hy_
 obtain rfl := Option.some.inj H
 go_enter Try.func179, Try.ntmps179
 go_wp2_with (first | ((with_reducible refine gate_dst (N := 5) rfl ?_); refine Kd.R_lit (Kd.int .i64) _ 3 ?hg (N := 5) ?hd (xs := ([] : List Int)) (inner := []) (ok := fun _ => True) (okp := fun _ => True) ?hr ?hp (fun _ hk => hk) trivial (Below.refl _ _) (Nat.le_refl _) (by simp) ?_; (case hd => rfl); (case hg => rfl); (case hr => first | (go_simp; done) | (go_simp; rfl)); (case hp => exact (Reps.none _ _)); intro v304 w3 ho4 hb hg_ hnew_; clear hg_ hnew_; (first | rw [← Ny303.out] at ho4 | (simp only [Int.reduceToNat] at ho4; rw [← Ny303.out] at ho4)); have HO305 := ak (Kd.R_lower ho4 (below_size (belowd HB))); replace HB := ak (below_step (belowd HB) hb); clear hb ho4) | ((with_reducible refine gate_builtin (b := .append) (xs := #[.tmp 5, .tmp 6]) rfl ?_); at_builtin; refine Kd.R_append_rows (Kd.int .i64) (w0 := w) w.heap.size rfl (.tmp 5) (.tmp 6) 23 3 (.int .i64 0) 8 rfl Try.underlying23 info3 rfl (by decide) (by omega) v304 y303 l0 _ _ _ (fun _ => True) (fun _ => False) rfl rfl ?aO ?aR (fun _ _ h => h) (fun _ h => h.elim) ?aF ?aB ?aS ?aL ?_; (case aR => exact cd (Kd.C_below HR0.out HB.out)); (case aB => exact (belowd HB)); (case aF => exact (fun _ _ => trivial)); (case aO => exact (rdl HO305)); (case aS => exact (below_size (belowd HB))); (case aL => have := LMc2.out; omega); intro v307 w5 ho hb hg hat; rw [← Ny306.out] at ho; replace HB := ak (hb); have HO308 := ak (ho); clear HO305; clear ho hb hg hat))
 go_ret
 exact ⟨_, er2, by (with_reducible repeat (first | apply Kd.R_alloc | apply Kd.R_drewN | apply Kd.R_drew)); exact HO308.out, belowd HB⟩

set_option maxHeartbeats 8000000 in
set_option maxRecDepth 100000 in
theorem slices_Clone_int_int.calls (A0 : Option Addr) (c0 : Nat) (l0 : List Int) (r : List Int) (w : World) (hr0 : Kd.C (Kd.int .i64) w A0 l0.length l0) (hc0 : l0.length ≤ c0) (h : slices_Clone_int_int.f l0 = some r) :
  Calls Try.prog 179 #[.slice A0 l0.length c0] w fun e w' => ∃ v0_ : Value, e = .returned (v0_) ∧ Kd.R (Kd.int .i64) 3 w' w.heap.size (fun _ => True) v0_ r ∧ Below w.heap.size w w' := by
 cases A0 with
 | some ad0 => exact slices_Clone_int_int.calls_some ad0 c0 l0 r w hr0 hc0 h
 | none =>
  have hl : l0 = [] := by
   rcases Nat.eq_zero_or_pos l0.length with h0 | h0
   ·exact List.eq_nil_of_length_eq_zero h0
   ·obtain ⟨ad, he, _⟩ := hr0.2.2 h0
    cases he
  subst hl
  have hr : r = [] := by
   have h' := h
   simp [slices_Clone_int_int.f] at h'
   first | exact h'.symm | exact h'
  subst hr; clear h hr0 hc0
  go_enter Try.func179, Try.ntmps179
  go_wp2
  go_ret
  exact ⟨_, rfl, Kd.R_nil _ _ _ _ _, Below.refl _ _⟩

/-! ### impl_NewBoard: function 118 -/
def impl_NewBoard.f (k : Nat) (a0 : Int) (l1 : List Int) : Option (Int × Int × (List (List Int)) × List Int × List Int × Bool) := (slices_Clone_int_int.f l1).bind fun t310 => ((impl_GoodBoard.f k a0 0 ([] : List (List Int)) t310 ([] : List Int)).bind fun t314 => (if t314 = true then (some (a0, 0, ([] : List (List Int)), t310, ([] : List Int), true)) else (some (0, 0, ([] : List (List Int)), ([] : List Int), ([] : List Int), false))))
theorem impl_NewBoard.mono : ∀ a0 a1 k, LeO (impl_NewBoard.f k a0 a1) (impl_NewBoard.f (k + 1) a0 a1) := by
 intro a0 a1 k
 unfold impl_NewBoard.f
 repeat' (first | (with_reducible first | exact impl_GoodBoard.mono _ _ _ _ _ _ | exact LeO.refl _ | exact LeO.none _ | refine LeO.ite ?_ ?_ | refine LeO.bind ?_ (fun _ => ?_)) | exact impl_GoodBoard.mono _ _ _ _ _ _ | exact LeO.none _ | refine LeO.ite ?_ ?_ | refine LeO.bind ?_ (fun _ => ?_))
set_option maxHeartbeats 8000000 in
set_option maxRecDepth 100000 in
theorem impl_NewBoard.calls (k : Nat) (a0 : Int) (A1 : Option Addr) (c1 : Nat) (l1 : List Int) (r1 : Int) (r2 : Int) (r3 : List (List Int)) (r4 : List Int) (r5 : List Int) (r6 : Bool) (w : World) (hr1 : Kd.C (Kd.int .i64) w A1 l1.length l1) (hc1 : l1.length ≤ c1) (h : impl_NewBoard.f k a0 l1 = some (r1, r2, r3, r4, r5, r6)) :
  Calls Try.prog 118 #[.int .i64 a0, .slice A1 l1.length c1] w fun e w' => ∃ v2_ v3_ v4_ : Value, e = .returned (.tuple #[.agg #[.int .i64 r1, .int .i64 r2, v2_, v3_, v4_], .bool r6]) ∧ Kd.S (Kd.slice 3 (Kd.int .i64)) 23 w' w.heap.size (fun k_ => some k_ ≠ (v3_ : Value).ownBlock ∧ some k_ ≠ (v4_ : Value).ownBlock) v2_ r3 ∧ Kd.R (Kd.int .i64) 3 w' w.heap.size (fun k_ => some k_ ≠ (v4_ : Value).ownBlock) v3_ r4 ∧ Kd.R (Kd.int .i64) 3 w' w.heap.size (fun k_ => some k_ ≠ (v3_ : Value).ownBlock) v4_ r5 ∧ Below w.heap.size w w' := by
 have hu47 := Try.underlying47
 have HR1 := Aside0.mk hr1; have HC1 := Aside0.mk hc1; clear hr1 hc1
 have HB := Aside0.mk (Below.refl w.heap.size w)
 have H : ((slices_Clone_int_int.f l1).bind fun t310 => ((impl_GoodBoard.f k a0 0 ([] : List (List Int)) t310 ([] : List Int)).bind fun t314 => (if t314 = true then (some (a0, 0, ([] : List (List Int)), t310, ([] : List Int), true)) else (some (0, 0, ([] : List (List Int)), ([] : List Int), ([] : List Int), false))))) = some (r1, r2, r3, r4, r5, r6) := h
 clear h; replace H := bS H; obtain ⟨t310, A3, H⟩ := H
 replace H : ((impl_GoodBoard.f k a0 0 ([] : List (List Int)) t310 ([] : List Int)).bind fun t314 => (if t314 = true then (some (a0, 0, ([] : List (List Int)), t310, ([] : List Int), true)) else (some (0, 0, ([] : List (List Int)), ([] : List Int), ([] : List Int), false)))) = some (r1, r2, r3, r4, r5, r6) := H
 replace H := bS H; obtain ⟨t314, A4, H⟩ := H
 replace H : (if t314 = true then (some (a0, 0, ([] : List (List Int)), t310, ([] : List Int), true)) else (some (0, 0, ([] : List (List Int)), ([] : List Int), ([] : List Int), false))) = some (r1, r2, r3, r4, r5, r6) := H
 by_cases c5 : t314 = true
 ·subst c5
  have H1 : (some (a0, 0, ([] : List (List Int)), t310, ([] : List Int), true)) = some (r1, r2, r3, r4, r5, r6) := by rw [if_pos rfl] at H; exact H
  clear H
  have H := H1
  clear H1
  simp only [Option.some.injEq, Prod.mk.injEq] at H
  obtain ⟨rfl, rfl, rfl, rfl, rfl, rfl⟩ := H
  go_enter Try.func118, Try.ntmps118
  go_wp2_with (first | ((with_reducible refine gate_dst (N := 4) rfl ?_); refine boxev 4 #[.int .i64 0, .int .i64 0, .slice none 0 0, .slice none 0 0, .slice none 0 0] 47 ?_; intro gb309 hg w6 hbox hb; have BK309 := ak (hbox); have GW309 := ak (hgl hg (belowd HB)); have GE309 := ak (hgl hg (belowd HB)); replace HB := ak (below_step (belowd HB) hb); clear hb hbox hg) | ((with_reducible refine gate_callee (f := 179) rfl ?_); refine goesLa (some 9) rfl Try.func179 #[.slice A1 l1.length c1] rfl ?_; (with_reducible refine (slices_Clone_int_int.calls _ _ l1 t310 _ ?side1 ?side2 A3.out).mono ?_); (case side1 => exact cd (Kd.C_below HR1.out HB.out)); (case side2 => exact HC1.out); rintro e w7 ⟨v311, rfl, ho0, hb⟩; refine ⟨_, rfl, ?_⟩; have HO312 := ak (Kd.R_lower ho0 (below_size (belowg1 HB GE309))); replace BK309 := ak (blk_below (blkd BK309) hb); replace HB := ak (below_step (belowg1 HB GE309) hb); (try clear hb); (try clear ho0); obtain ⟨Ao8, co8, eo8⟩ := Kd.R_slice HO312.out; subst eo8) | ((with_reducible refine gate_dst (N := 6) rfl ?_); refine boxev 6 #[.int .i64 0, .int .i64 0, .slice none 0 0, .slice none 0 0, .slice none 0 0] 47 ?_; intro gb313 hg w9 hbox hb; replace HO312 := ak (Kd.R_below (rdl HO312) hb); have BK313 := ak (hbox); have GW313 := ak (hgl hg (belowg1 HB GE309)); have GE313 := ak (hgl hg (belowg1 HB GE309)); replace HB := ak (below_step (belowg1 HB GE309) hb); have NB309_313 := ak ((by rw [hg]; exact Nat.ne_of_lt (blk_lt (blkd BK309)) : gb309 ≠ gb313)); have NB313_309 := ak ((by rw [hg]; exact Nat.ne_of_gt (blk_lt (blkd BK309)) : gb313 ≠ gb309)); replace BK309 := ak (blk_below (blkd BK309) hb); clear hb hbox hg; have hnb10 := NB313_309.out; have hnc10 := NB309_313.out; obtain ⟨hcz11_0, hcz11_1, hcz11_2, hcz11_3, hcz11_4, hfz11_0, hfz11_1, hfz11_2, hfz11_3, hfz11_4⟩ := box5 BK313) | ((with_reducible refine gate_callee (f := 32) rfl ?_); refine goesLa (some 12) rfl Try.func32 #[.agg #[.int .i64 a0, .int .i64 0, .slice none 0 0, .slice Ao8 t310.length co8, .slice none 0 0]] rfl ?_; (refine (impl_GoodBoard.calls k a0 0 _ _ ([] : List (List Int)) _ _ t310 _ _ ([] : List Int) true _ ?side1 ?side2 ?side3 ?side4 ?side5 ?side6 A4.out).mono ?_); (case side1 => exact Kd.C_nil _ _); (case side2 => exact Nat.le_refl _); (case side3 => exact rdR HO312 BK313); (case side4 => exact (Kd.R_reads' HO312.out).2.1); (case side5 => exact Kd.C_nil _ _); (case side6 => exact Nat.le_refl _); rintro e w12 ⟨rfl, hb⟩; refine ⟨_, rfl, ?_⟩; replace HO312 := ak (Kd.R_below (by (with_reducible repeat (first | apply Kd.R_alloc | apply Kd.R_drewN | apply Kd.R_drew)); exact (Kd.R_mono (farsR (Kd.R_types HO312.out BK313.out (by decide))) (fun _ h_ => h_.1))) hb); replace BK309 := ak (blk_below (g := gb309) (o := .cells #[.int .i64 0, .int .i64 0, .slice none 0 0, .slice none 0 0, .slice none 0 0] 47 (0, 0)) (by (with_reducible repeat (first | refine blk_drewN ?_ _ | refine blk_drew ?_ | refine blk_alloc ?_ _)); refine blk_far ?_ NB309_313.out _; (with_reducible repeat (first | refine blk_drewN ?_ _ | refine blk_drew ?_ | refine blk_alloc ?_ _)); refine blk_far ?_ NB309_313.out _; (with_reducible repeat (first | refine blk_drewN ?_ _ | refine blk_drew ?_ | refine blk_alloc ?_ _)); refine blk_far ?_ NB309_313.out _; (with_reducible repeat (first | refine blk_drewN ?_ _ | refine blk_drew ?_ | refine blk_alloc ?_ _)); refine blk_far ?_ NB309_313.out _; (with_reducible repeat (first | refine blk_drewN ?_ _ | refine blk_drew ?_ | refine blk_alloc ?_ _)); refine blk_far ?_ NB309_313.out _; (with_reducible repeat (first | refine blk_drewN ?_ _ | refine blk_drew ?_ | refine blk_alloc ?_ _)); exact BK309.out) hb); replace BK313 := ak (blk_below (g := gb313) (o := .cells #[.int .i64 a0, .int .i64 0, .slice none 0 0, .slice Ao8 t310.length co8, .slice none 0 0] 47 (0, 0)) (by (with_reducible repeat (first | refine blk_drewN ?_ _ | refine blk_drew ?_ | refine blk_alloc ?_ _)); refine blk_put (cs := #[.int .i64 a0, .int .i64 0, .slice none 0 0, .slice Ao8 t310.length co8, .slice none 0 0]) ?_ 4 _ rfl; (with_reducible repeat (first | refine blk_drewN ?_ _ | refine blk_drew ?_ | refine blk_alloc ?_ _)); refine blk_put (cs := #[.int .i64 a0, .int .i64 0, .slice none 0 0, .slice none 0 0, .slice none 0 0]) ?_ 3 _ rfl; (with_reducible repeat (first | refine blk_drewN ?_ _ | refine blk_drew ?_ | refine blk_alloc ?_ _)); refine blk_put (cs := #[.int .i64 a0, .int .i64 0, .slice none 0 0, .slice none 0 0, .slice none 0 0]) ?_ 2 _ rfl; (with_reducible repeat (first | refine blk_drewN ?_ _ | refine blk_drew ?_ | refine blk_alloc ?_ _)); refine blk_put (cs := #[.int .i64 a0, .int .i64 0, .slice none 0 0, .slice none 0 0, .slice none 0 0]) ?_ 1 _ rfl; (with_reducible repeat (first | refine blk_drewN ?_ _ | refine blk_drew ?_ | refine blk_alloc ?_ _)); refine blk_put (cs := #[.int .i64 0, .int .i64 0, .slice none 0 0, .slice none 0 0, .slice none 0 0]) ?_ 0 _ rfl; (with_reducible repeat (first | refine blk_drewN ?_ _ | refine blk_drew ?_ | refine blk_alloc ?_ _)); exact BK313.out) hb); replace HB := ak (below_step (belowg2 HB GE309 GE313) hb); (try clear hb); obtain ⟨hcz13_0, hcz13_1, hcz13_2, hcz13_3, hcz13_4, hfz13_0, hfz13_1, hfz13_2, hfz13_3, hfz13_4⟩ := box5 BK313; obtain ⟨hcz14_0, hcz14_1, hcz14_2, hcz14_3, hcz14_4, hfz14_0, hfz14_1, hfz14_2, hfz14_3, hfz14_4⟩ := box5 BK309))
  refine bodyPost_ret (results_ct rfl _ _ gb309 47 #[.int .i64 a0, .int .i64 0, .slice none 0 0, .slice Ao8 t310.length co8, .slice none 0 0] (0, 0) _ rfl (by (with_reducible repeat (first | refine blk_drewN ?_ _ | refine blk_drew ?_ | refine blk_alloc ?_ _)); refine blk_put (cs := #[.int .i64 a0, .int .i64 0, .slice none 0 0, .slice Ao8 t310.length co8, .slice none 0 0]) ?_ 4 _ rfl; (with_reducible repeat (first | refine blk_drewN ?_ _ | refine blk_drew ?_ | refine blk_alloc ?_ _)); refine blk_put (cs := #[.int .i64 a0, .int .i64 0, .slice none 0 0, .slice none 0 0, .slice none 0 0]) ?_ 3 _ rfl; (with_reducible repeat (first | refine blk_drewN ?_ _ | refine blk_drew ?_ | refine blk_alloc ?_ _)); refine blk_put (cs := #[.int .i64 a0, .int .i64 0, .slice none 0 0, .slice none 0 0, .slice none 0 0]) ?_ 2 _ rfl; (with_reducible repeat (first | refine blk_drewN ?_ _ | refine blk_drew ?_ | refine blk_alloc ?_ _)); refine blk_put (cs := #[.int .i64 a0, .int .i64 0, .slice none 0 0, .slice none 0 0, .slice none 0 0]) ?_ 1 _ rfl; (with_reducible repeat (first | refine blk_drewN ?_ _ | refine blk_drew ?_ | refine blk_alloc ?_ _)); refine blk_put (cs := #[.int .i64 0, .int .i64 0, .slice none 0 0, .slice none 0 0, .slice none 0 0]) ?_ 0 _ rfl; (with_reducible repeat (first | refine blk_drewN ?_ _ | refine blk_drew ?_ | refine blk_alloc ?_ _)); exact BK309.out) Try.underlying47 rfl (by kernel_rfl)) rfl ?_
  exact ⟨_, _, _, er2, by first | exact Kd.S_nil _ _ _ _ _ | exact Kd.N_nil _ _ _ _ _ | exact Kd.V_nil _ _ _ _ _ | exact Kd.Q_nil _ _ _ _ _ | exact Kd.R_nil _ _ _ _ _, by (with_reducible repeat (first | apply Kd.R_alloc | apply Kd.R_drewN | apply Kd.R_drew)); exact Kd.R_mono (farsR (Kd.R_types HO312.out BK309.out (by decide))) (fun _ hk => (by simp [Value.ownBlock])), by first | exact Kd.R_nil _ _ _ _ _ | exact Kd.N_nil _ _ _ _ _ | exact Kd.V_nil _ _ _ _ _ | exact Kd.Q_nil _ _ _ _ _ | exact Kd.S_nil _ _ _ _ _, belowg2 HB GE309 GE313⟩
 ·replace c5 := Bool.eq_false_iff.mpr c5
  subst c5
  have H1 : (some (0, 0, ([] : List (List Int)), ([] : List Int), ([] : List Int), false)) = some (r1, r2, r3, r4, r5, r6) := by rw [if_neg (show ¬ (false = true) by decide)] at H; exact H
  clear H
  have H := H1
  clear H1
  simp only [Option.some.injEq, Prod.mk.injEq] at H
  obtain ⟨rfl, rfl, rfl, rfl, rfl, rfl⟩ := H
  go_enter Try.func118, Try.ntmps118
  go_wp2_with (first | ((with_reducible refine gate_dst (N := 4) rfl ?_); refine boxev 4 #[.int .i64 0, .int .i64 0, .slice none 0 0, .slice none 0 0, .slice none 0 0] 47 ?_; intro gb309 hg w15 hbox hb; have BK309 := ak (hbox); have GW309 := ak (hgl hg (belowd HB)); have GE309 := ak (hgl hg (belowd HB)); replace HB := ak (below_step (belowd HB) hb); clear hb hbox hg) | ((with_reducible refine gate_callee (f := 179) rfl ?_); refine goesLa (some 9) rfl Try.func179 #[.slice A1 l1.length c1] rfl ?_; (with_reducible refine (slices_Clone_int_int.calls _ _ l1 t310 _ ?side1 ?side2 A3.out).mono ?_); (case side1 => exact cd (Kd.C_below HR1.out HB.out)); (case side2 => exact HC1.out); rintro e w16 ⟨v311, rfl, ho0, hb⟩; refine ⟨_, rfl, ?_⟩; have HO312 := ak (Kd.R_lower ho0 (below_size (belowg1 HB GE309))); replace BK309 := ak (blk_below (blkd BK309) hb); replace HB := ak (below_step (belowg1 HB GE309) hb); (try clear hb); (try clear ho0); obtain ⟨Ao17, co17, eo17⟩ := Kd.R_slice HO312.out; subst eo17) | ((with_reducible refine gate_dst (N := 6) rfl ?_); refine boxev 6 #[.int .i64 0, .int .i64 0, .slice none 0 0, .slice none 0 0, .slice none 0 0] 47 ?_; intro gb313 hg w18 hbox hb; replace HO312 := ak (Kd.R_below (rdl HO312) hb); have BK313 := ak (hbox); have GW313 := ak (hgl hg (belowg1 HB GE309)); have GE313 := ak (hgl hg (belowg1 HB GE309)); replace HB := ak (below_step (belowg1 HB GE309) hb); have NB309_313 := ak ((by rw [hg]; exact Nat.ne_of_lt (blk_lt (blkd BK309)) : gb309 ≠ gb313)); have NB313_309 := ak ((by rw [hg]; exact Nat.ne_of_gt (blk_lt (blkd BK309)) : gb313 ≠ gb309)); replace BK309 := ak (blk_below (blkd BK309) hb); clear hb hbox hg; have hnb19 := NB313_309.out; have hnc19 := NB309_313.out; obtain ⟨hcz20_0, hcz20_1, hcz20_2, hcz20_3, hcz20_4, hfz20_0, hfz20_1, hfz20_2, hfz20_3, hfz20_4⟩ := box5 BK313) | ((with_reducible refine gate_callee (f := 32) rfl ?_); refine goesLa (some 12) rfl Try.func32 #[.agg #[.int .i64 a0, .int .i64 0, .slice none 0 0, .slice Ao17 t310.length co17, .slice none 0 0]] rfl ?_; (refine (impl_GoodBoard.calls k a0 0 _ _ ([] : List (List Int)) _ _ t310 _ _ ([] : List Int) false _ ?side1 ?side2 ?side3 ?side4 ?side5 ?side6 A4.out).mono ?_); (case side1 => exact Kd.C_nil _ _); (case side2 => exact Nat.le_refl _); (case side3 => exact rdR HO312 BK313); (case side4 => exact (Kd.R_reads' HO312.out).2.1); (case side5 => exact Kd.C_nil _ _); (case side6 => exact Nat.le_refl _); rintro e w21 ⟨rfl, hb⟩; refine ⟨_, rfl, ?_⟩; replace HO312 := ak (Kd.R_below (by (with_reducible repeat (first | apply Kd.R_alloc | apply Kd.R_drewN | apply Kd.R_drew)); exact (Kd.R_mono (farsR (Kd.R_types HO312.out BK313.out (by decide))) (fun _ h_ => h_.1))) hb); replace BK309 := ak (blk_below (g := gb309) (o := .cells #[.int .i64 0, .int .i64 0, .slice none 0 0, .slice none 0 0, .slice none 0 0] 47 (0, 0)) (by (with_reducible repeat (first | refine blk_drewN ?_ _ | refine blk_drew ?_ | refine blk_alloc ?_ _)); refine blk_far ?_ NB309_313.out _; (with_reducible repeat (first | refine blk_drewN ?_ _ | refine blk_drew ?_ | refine blk_alloc ?_ _)); refine blk_far ?_ NB309_313.out _; (with_reducible repeat (first | refine blk_drewN ?_ _ | refine blk_drew ?_ | refine blk_alloc ?_ _)); refine blk_far ?_ NB309_313.out _; (with_reducible repeat (first | refine blk_drewN ?_ _ | refine blk_drew ?_ | refine blk_alloc ?_ _)); refine blk_far ?_ NB309_313.out _; (with_reducible repeat (first | refine blk_drewN ?_ _ | refine blk_drew ?_ | refine blk_alloc ?_ _)); refine blk_far ?_ NB309_313.out _; (with_reducible repeat (first | refine blk_drewN ?_ _ | refine blk_drew ?_ | refine blk_alloc ?_ _)); exact BK309.out) hb); replace BK313 := ak (blk_below (g := gb313) (o := .cells #[.int .i64 a0, .int .i64 0, .slice none 0 0, .slice Ao17 t310.length co17, .slice none 0 0] 47 (0, 0)) (by (with_reducible repeat (first | refine blk_drewN ?_ _ | refine blk_drew ?_ | refine blk_alloc ?_ _)); refine blk_put (cs := #[.int .i64 a0, .int .i64 0, .slice none 0 0, .slice Ao17 t310.length co17, .slice none 0 0]) ?_ 4 _ rfl; (with_reducible repeat (first | refine blk_drewN ?_ _ | refine blk_drew ?_ | refine blk_alloc ?_ _)); refine blk_put (cs := #[.int .i64 a0, .int .i64 0, .slice none 0 0, .slice none 0 0, .slice none 0 0]) ?_ 3 _ rfl; (with_reducible repeat (first | refine blk_drewN ?_ _ | refine blk_drew ?_ | refine blk_alloc ?_ _)); refine blk_put (cs := #[.int .i64 a0, .int .i64 0, .slice none 0 0, .slice none 0 0, .slice none 0 0]) ?_ 2 _ rfl; (with_reducible repeat (first | refine blk_drewN ?_ _ | refine blk_drew ?_ | refine blk_alloc ?_ _)); refine blk_put (cs := #[.int .i64 a0, .int .i64 0, .slice none 0 0, .slice none 0 0, .slice none 0 0]) ?_ 1 _ rfl; (with_reducible repeat (first | refine blk_drewN ?_ _ | refine blk_drew ?_ | refine blk_alloc ?_ _)); refine blk_put (cs := #[.int .i64 0, .int .i64 0, .slice none 0 0, .slice none 0 0, .slice none 0 0]) ?_ 0 _ rfl; (with_reducible repeat (first | refine blk_drewN ?_ _ | refine blk_drew ?_ | refine blk_alloc ?_ _)); exact BK313.out) hb); replace HB := ak (below_step (belowg2 HB GE309 GE313) hb); (try clear hb); obtain ⟨hcz22_0, hcz22_1, hcz22_2, hcz22_3, hcz22_4, hfz22_0, hfz22_1, hfz22_2, hfz22_3, hfz22_4⟩ := box5 BK309))
  refine bodyPost_ret (results_ct rfl _ _ gb309 47 #[.int .i64 0, .int .i64 0, .slice none 0 0, .slice none 0 0, .slice none 0 0] (0, 0) _ rfl (by (with_reducible repeat (first | refine blk_drewN ?_ _ | refine blk_drew ?_ | refine blk_alloc ?_ _)); refine blk_put (cs := #[.int .i64 0, .int .i64 0, .slice none 0 0, .slice none 0 0, .slice none 0 0]) ?_ 4 _ rfl; (with_reducible repeat (first | refine blk_drewN ?_ _ | refine blk_drew ?_ | refine blk_alloc ?_ _)); refine blk_put (cs := #[.int .i64 0, .int .i64 0, .slice none 0 0, .slice none 0 0, .slice none 0 0]) ?_ 3 _ rfl; (with_reducible repeat (first | refine blk_drewN ?_ _ | refine blk_drew ?_ | refine blk_alloc ?_ _)); refine blk_put (cs := #[.int .i64 0, .int .i64 0, .slice none 0 0, .slice none 0 0, .slice none 0 0]) ?_ 2 _ rfl; (with_reducible repeat (first | refine blk_drewN ?_ _ | refine blk_drew ?_ | refine blk_alloc ?_ _)); refine blk_put (cs := #[.int .i64 0, .int .i64 0, .slice none 0 0, .slice none 0 0, .slice none 0 0]) ?_ 1 _ rfl; (with_reducible repeat (first | refine blk_drewN ?_ _ | refine blk_drew ?_ | refine blk_alloc ?_ _)); refine blk_put (cs := #[.int .i64 0, .int .i64 0, .slice none 0 0, .slice none 0 0, .slice none 0 0]) ?_ 0 _ rfl; (with_reducible repeat (first | refine blk_drewN ?_ _ | refine blk_drew ?_ | refine blk_alloc ?_ _)); exact BK309.out) Try.underlying47 rfl (by kernel_rfl)) rfl ?_
  exact ⟨_, _, _, er2, by first | exact Kd.S_nil _ _ _ _ _ | exact Kd.N_nil _ _ _ _ _ | exact Kd.V_nil _ _ _ _ _ | exact Kd.Q_nil _ _ _ _ _ | exact Kd.R_nil _ _ _ _ _, by first | exact Kd.R_nil _ _ _ _ _ | exact Kd.N_nil _ _ _ _ _ | exact Kd.V_nil _ _ _ _ _ | exact Kd.Q_nil _ _ _ _ _ | exact Kd.S_nil _ _ _ _ _, by first | exact Kd.R_nil _ _ _ _ _ | exact Kd.N_nil _ _ _ _ _ | exact Kd.V_nil _ _ _ _ _ | exact Kd.Q_nil _ _ _ _ _ | exact Kd.S_nil _ _ _ _ _, belowg2 HB GE309 GE313⟩

/-! ### cmp_isNaN_int: function 237 -/
def cmp_isNaN_int.f (a0 : Int) : Option (Bool) := some (a0 != a0)
set_option maxHeartbeats 8000000 in
set_option maxRecDepth 100000 in
theorem cmp_isNaN_int.calls (a0 : Int) (r : Bool) (w : World) (h : cmp_isNaN_int.f a0 = some r) :
  Calls Try.prog 237 #[.int .i64 a0] w fun e w' => e = .returned (.bool r) ∧ Drawn0 w w' := by
 have H : (some (a0 != a0)) = some r := h
 clear h
 obtain rfl := Option.some.inj H
 go_enter Try.func237, Try.ntmps237
 go_wp2
 go_ret
 exact ⟨er, drw⟩

/-! ### cmp_Less_int: function 220 -/
def cmp_Less_int.f (a0 : Int) (a1 : Int) : Option (Bool) := (cmp_isNaN_int.f a0).bind fun t315 => (if t315 = true then ((cmp_isNaN_int.f a1).bind fun t316 => (if t316 = true then (some (decide (a0 < a1))) else (some true))) else (some (decide (a0 < a1))))
set_option maxHeartbeats 8000000 in
set_option maxRecDepth 100000 in
theorem cmp_Less_int.calls (a0 : Int) (a1 : Int) (r : Bool) (w : World) (h : cmp_Less_int.f a0 a1 = some r) :
  Calls Try.prog 220 #[.int .i64 a0, .int .i64 a1] w fun e w' => e = .returned (.bool r) ∧ Drawn0 w w' := by
 have H : ((cmp_isNaN_int.f a0).bind fun t315 => (if t315 = true then ((cmp_isNaN_int.f a1).bind fun t316 => (if t316 = true then (some (decide (a0 < a1))) else (some true))) else (some (decide (a0 < a1))))) = some r := h
 clear h; replace H := bS H; obtain ⟨t315, A3, H⟩ := H
 replace H : (if t315 = true then ((cmp_isNaN_int.f a1).bind fun t316 => (if t316 = true then (some (decide (a0 < a1))) else (some true))) else (some (decide (a0 < a1)))) = some r := H
 by_cases c4 : t315 = true
 ·subst c4
  have H1 : ((cmp_isNaN_int.f a1).bind fun t316 => (if t316 = true then (some (decide (a0 < a1))) else (some true))) = some r := by rw [if_pos rfl] at H; exact H
  clear H
  have H := H1
  clear H1; replace H := bS H; obtain ⟨t316, A5, H⟩ := H
  replace H : (if t316 = true then (some (decide (a0 < a1))) else (some true)) = some r := H
  by_cases c6 : t316 = true
  ·subst c6
   have H1 : (some (decide (a0 < a1))) = some r := by rw [if_pos rfl] at H; exact H
   clear H
   have H := H1
   clear H1
   obtain rfl := Option.some.inj H
   go_enter Try.func220, Try.ntmps220
   go_wp2_with (first | ((with_reducible refine gate_callee (f := 237) rfl ?_); refine goesLa (some 6) rfl Try.func237 #[.int .i64 a0] rfl ?_; (with_reducible refine (cmp_isNaN_int.calls a0 true _ A3.out).mono ?_); rintro e w' ⟨rfl, ⟨nd, rfl⟩⟩; refine ⟨_, rfl, ?_⟩) | (go_at_call 237; (with_reducible refine (cmp_isNaN_int.calls a1 true _ A5.out).mono ?_); rintro e w' ⟨rfl, ⟨nd, rfl⟩⟩))
   go_ret
   exact ⟨er, drw⟩
  ·replace c6 := Bool.eq_false_iff.mpr c6
   subst c6
   have H1 : (some true) = some r := by rw [if_neg (show ¬ (false = true) by decide)] at H; exact H
   clear H
   have H := H1
   clear H1
   obtain rfl := Option.some.inj H
   go_enter Try.func220, Try.ntmps220
   go_wp2_with (first | ((with_reducible refine gate_callee (f := 237) rfl ?_); refine goesLa (some 6) rfl Try.func237 #[.int .i64 a0] rfl ?_; (with_reducible refine (cmp_isNaN_int.calls a0 true _ A3.out).mono ?_); rintro e w' ⟨rfl, ⟨nd, rfl⟩⟩; refine ⟨_, rfl, ?_⟩) | (go_at_call 237; (with_reducible refine (cmp_isNaN_int.calls a1 false _ A5.out).mono ?_); rintro e w' ⟨rfl, ⟨nd, rfl⟩⟩))
   go_ret
   exact ⟨er, drw⟩
 ·replace c4 := Bool.eq_false_iff.mpr c4
  subst c4
  have H1 : (some (decide (a0 < a1))) = some r := by rw [if_neg (show ¬ (false = true) by decide)] at H; exact H
  clear H
  have H := H1
  clear H1
  obtain rfl := Option.some.inj H
  go_enter Try.func220, Try.ntmps220
  go_wp2_with (first | ((with_reducible refine gate_callee (f := 237) rfl ?_); refine goesLa (some 6) rfl Try.func237 #[.int .i64 a0] rfl ?_; (with_reducible refine (cmp_isNaN_int.calls a0 false _ A3.out).mono ?_); rintro e w' ⟨rfl, ⟨nd, rfl⟩⟩; refine ⟨_, rfl, ?_⟩))
  go_ret
  exact ⟨er, drw⟩

/-! ### slices_isNaN_int: function 221 -/
def slices_isNaN_int.f (a0 : Int) : Option (Bool) := some (a0 != a0)
set_option maxHeartbeats 8000000 in
set_option maxRecDepth 100000 in
theorem slices_isNaN_int.calls (a0 : Int) (r : Bool) (w : World) (h : slices_isNaN_int.f a0 = some r) :
  Calls Try.prog 221 #[.int .i64 a0] w fun e w' => e = .returned (.bool r) ∧ Drawn0 w w' := by
 have H : (some (a0 != a0)) = some r := h
 clear h
 obtain rfl := Option.some.inj H
 go_enter Try.func221, Try.ntmps221
 go_wp2
 go_ret
 exact ⟨er, drw⟩

/-! ### slices_BinarySearch_int_int: function 183 -/
def slices_BinarySearch_int_int.l0 : Nat → List Int → Int → Int → Int → Int → Option (Int × Bool)
  | 0, _, _, _, _, _ => none
  | k + 1, x0, x1, x6, x7, x8 => if x7 < x8 then (if 0 ≤ (wrap64 ((IntKind.u64.wrap (wrap64 (x7 + x8))) / 2)) then (if (wrap64 ((IntKind.u64.wrap (wrap64 (x7 + x8))) / 2)) < (x0.length : Int) then ((cmp_Less_int.f (rd x0 (wrap64 ((IntKind.u64.wrap (wrap64 (x7 + x8))) / 2))) x1).bind fun t318 => (if t318 = true then (slices_BinarySearch_int_int.l0 k x0 x1 x6 (wrap64 ((wrap64 ((IntKind.u64.wrap (wrap64 (x7 + x8))) / 2)) + 1)) x8) else (slices_BinarySearch_int_int.l0 k x0 x1 x6 x7 (wrap64 ((IntKind.u64.wrap (wrap64 (x7 + x8))) / 2))))) else (none)) else (none)) else (if x7 < x6 then (if 0 ≤ x7 then (if x7 < (x0.length : Int) then (if (rd x0 x7) = x1 then (some (x7, true)) else ((slices_isNaN_int.f (rd x0 x7)).bind fun t321 => (if t321 = true then ((slices_isNaN_int.f x1).bind fun t322 => (some (x7, t322))) else (some (x7, false))))) else (none)) else (none)) else (some (x7, false)))
def slices_BinarySearch_int_int.f (k : Nat) (l0 : List Int) (a1 : Int) : Option (Int × Bool) := slices_BinarySearch_int_int.l0 k l0 a1 (l0.length : Int) 0 (l0.length : Int)
theorem slices_BinarySearch_int_int.mono_l : ∀ k, (∀ y0 y1 y2 y3 y4, LeO (slices_BinarySearch_int_int.l0 k y0 y1 y2 y3 y4) (slices_BinarySearch_int_int.l0 (k + 1) y0 y1 y2 y3 y4))
 | 0 => fun _ _ _ _ _ r h => by simp [slices_BinarySearch_int_int.l0] at h
 | k + 1 => by
  have ih0 := slices_BinarySearch_int_int.mono_l k
  ·intro y0 y1 y2 y3 y4
   unfold slices_BinarySearch_int_int.l0
   repeat' (first | (with_reducible first | exact ih0 _ _ _ _ _ | exact LeO.refl _ | exact LeO.none _ | refine LeO.ite ?_ ?_ | refine LeO.bind ?_ (fun _ => ?_)) | exact ih0 _ _ _ _ _ | exact LeO.none _ | refine LeO.ite ?_ ?_ | refine LeO.bind ?_ (fun _ => ?_))
theorem slices_BinarySearch_int_int.mono : ∀ a0 a1 k, LeO (slices_BinarySearch_int_int.f k a0 a1) (slices_BinarySearch_int_int.f (k + 1) a0 a1) := by
 intro a0 a1 k
 have ih0 := slices_BinarySearch_int_int.mono_l k
 unfold slices_BinarySearch_int_int.f
 repeat' (first | (with_reducible first | exact ih0 _ _ _ _ _ | exact LeO.refl _ | exact LeO.none _ | refine LeO.ite ?_ ?_ | refine LeO.bind ?_ (fun _ => ?_)) | exact ih0 _ _ _ _ _ | exact LeO.none _ | refine LeO.ite ?_ ?_ | refine LeO.bind ?_ (fun _ => ?_))
set_option maxHeartbeats 8000000 in
set_option maxRecDepth 100000 in
theorem slices_BinarySearch_int_int.calls (k : Nat) (A0 : Option Addr) (c0 : Nat) (l0 : List Int) (a1 : Int) (r1 : Int) (r2 : Bool) (w : World) (hr0 : Kd.C (Kd.int .i64) w A0 l0.length l0) (hc0 : l0.length ≤ c0) (h : slices_BinarySearch_int_int.f k l0 a1 = some (r1, r2)) :
  Calls Try.prog 183 #[.slice A0 l0.length c0, .int .i64 a1] w fun e w' => e = .returned (.tuple #[.int .i64 r1, .bool r2]) ∧ Drawn0 w w' := by
 have HR0 := Aside0.mk hr0; have HC0 := Aside0.mk hc0; clear hr0 hc0
 have H : (slices_BinarySearch_int_int.l0 k l0 a1 (l0.length : Int) 0 (l0.length : Int)) = some (r1, r2) := h
 clear h
 have H' := Aside0.mk H
 clear H
 go_enter Try.func183, Try.ntmps183
 go_wp2
 go_loopg [7, 8] k (fun kq v7 v8 w' => ∃ (x7_1 : Int) (x8_1 : Int), v7 = .int .i64 x7_1 ∧ v8 = .int .i64 x8_1 ∧ Aside0 (slices_BinarySearch_int_int.l0 kq l0 a1 (l0.length : Int) x7_1 x8_1 = some (r1, r2)) ∧ Aside0 (kq ≤ k) ∧ Drawn0 w w')
 case atStart => exact ⟨(0), ((l0.length : Int)), er, er, H', ⟨Nat.le_refl _⟩, drw⟩
 case round =>
  clear H'
  obtain ⟨x7_1, x8_1, rfl, rfl, HA, HK1, ⟨m1, rfl⟩⟩ := hrel
  cases gk with
  | zero => exact absurd HA.out (by simp [slices_BinarySearch_int_int.l0])
  | succ k1 =>
   have H := HA.out; clear HA
   simp only [slices_BinarySearch_int_int.l0] at H
   by_cases c3 : x7_1 < x8_1
   ·rw [if_pos c3] at H
    have c3b0 : decide (x7_1 < x8_1) = true := decide_eq_true c3
    clear c3
    obtain ⟨ji4, hji4⟩ : ∃ j_ : Int, (wrap64 ((IntKind.u64.wrap (wrap64 (x7_1 + x8_1))) / 2)) = j_ := ⟨_, rfl⟩
    replace H : (if 0 ≤ (ji4) then (if (ji4) < (l0.length : Int) then ((cmp_Less_int.f (rd l0 (ji4)) a1).bind fun t318 => (if t318 = true then (slices_BinarySearch_int_int.l0 k1 l0 a1 (l0.length : Int) (wrap64 ((ji4) + 1)) x8_1) else (slices_BinarySearch_int_int.l0 k1 l0 a1 (l0.length : Int) x7_1 ji4))) else (none)) else (none)) = some (r1, r2) := by first | (rw [hji4] at H; exact H) | (simp only [hji4] at H ⊢; exact H)
    have hji4w : (IntKind.i64.wrap ((IntKind.u64.wrap (wrap64 (x7_1 + x8_1))) / 2)) = ji4 := (i64_w _).trans hji4
    replace H := ifS H; obtain ⟨c5, H⟩ := H; have c5b0 := decide_eq_true c5; clear c5; replace H := ifS H; obtain ⟨c6, H⟩ := H; have c6b0 := decide_eq_true c6; clear c6; replace H := bS H; obtain ⟨t318, A7, H⟩ := H
    replace H : (if t318 = true then (slices_BinarySearch_int_int.l0 k1 l0 a1 (l0.length : Int) (wrap64 ((ji4) + 1)) x8_1) else (slices_BinarySearch_int_int.l0 k1 l0 a1 (l0.length : Int) x7_1 ji4)) = some (r1, r2) := H
    by_cases c8 : t318 = true
    ·subst c8
     have H1 : (slices_BinarySearch_int_int.l0 k1 l0 a1 (l0.length : Int) (wrap64 ((ji4) + 1)) x8_1) = some (r1, r2) := by rw [if_pos rfl] at H; exact H
     clear H
     have H := H1
     clear H1
     have H' := Aside0.mk H
     clear H
     have p317 : 0 ≤ ((ji4) : Int) := da
     have q317 : (ji4) < (l0.length : Int) := da
     obtain ⟨ad317, e317, hx317_0⟩ := Kd.at_int HR0.out (ji4) p317 q317
     cases e317
     replace p317 := eq_true p317; replace q317 := eq_true q317
     go_wp2_with (first | ((with_reducible refine gate_callee (f := 220) rfl ?_); refine goesL_ (some 27) rfl rfl Try.func220 (by kernel_rfl) rfl #[.int .i64 (rd l0 (ji4)), .int .i64 a1] rfl (by (try simp only [List.map_toArray, List.map_cons, List.map_nil]); first | done | (simp only [hji4]; rfl) | rfl | (simp only [List.length_drop, List.length_take]; rfl)) ?_; (with_reducible refine (cmp_Less_int.calls (rd l0 (ji4)) a1 true _ A7.out).mono ?_); rintro e w' ⟨rfl, ⟨nd, rfl⟩⟩; refine ⟨_, rfl, ?_⟩))
     go_roundg k1
     case measure => have := HK1.out; omega
     case rel => exact ⟨(wrap64 ((ji4) + 1)), (x8_1), (by first | rfl | (simp; done) | (simp only [← hji4] <;> (first | rfl | simp)) | (simp [*]; done)), er, H', ⟨by have := HK1.out; omega⟩, drw⟩
    ·replace c8 := Bool.eq_false_iff.mpr c8
     subst c8
     have H1 : (slices_BinarySearch_int_int.l0 k1 l0 a1 (l0.length : Int) x7_1 ji4) = some (r1, r2) := by rw [if_neg (show ¬ (false = true) by decide)] at H; exact H
     clear H
     have H := H1
     clear H1
     have H' := Aside0.mk H
     clear H
     have p317 : 0 ≤ ((ji4) : Int) := da
     have q317 : (ji4) < (l0.length : Int) := da
     obtain ⟨ad317, e317, hx317_0⟩ := Kd.at_int HR0.out (ji4) p317 q317
     cases e317
     replace p317 := eq_true p317; replace q317 := eq_true q317
     go_wp2_with (first | ((with_reducible refine gate_callee (f := 220) rfl ?_); refine goesL_ (some 27) rfl rfl Try.func220 (by kernel_rfl) rfl #[.int .i64 (rd l0 (ji4)), .int .i64 a1] rfl (by (try simp only [List.map_toArray, List.map_cons, List.map_nil]); first | done | (simp only [hji4]; rfl) | rfl | (simp only [List.length_drop, List.length_take]; rfl)) ?_; (with_reducible refine (cmp_Less_int.calls (rd l0 (ji4)) a1 false _ A7.out).mono ?_); rintro e w' ⟨rfl, ⟨nd, rfl⟩⟩; refine ⟨_, rfl, ?_⟩))
     go_roundg k1
     case measure => have := HK1.out; omega
     case rel => exact ⟨(x7_1), (ji4), er, (by first | rfl | (simp; done) | (simp only [← hji4] <;> (first | rfl | simp)) | (simp [*]; done)), H', ⟨by have := HK1.out; omega⟩, drw⟩
   ·rw [if_neg c3] at H
    have c3b0 : decide (x7_1 < x8_1) = false := decide_eq_false c3
    clear c3
    by_cases c9 : x7_1 < (l0.length : Int)
    ·rw [if_pos c9] at H
     have c9b0 : decide (x7_1 < (l0.length : Int)) = true := decide_eq_true c9
     clear c9; replace H := ifS H; obtain ⟨c10, H⟩ := H; have c10b0 := decide_eq_true c10; clear c10; replace H := ifS H; obtain ⟨c11, H⟩ := H; have c11b0 := decide_eq_true c11; clear c11
     by_cases c12 : (rd l0 x7_1) = a1
     ·rw [if_pos c12] at H
      have c12b0 : ((rd l0 x7_1) == a1) = true := beq_iff_eq.mpr c12
      have c12b1 : ((rd l0 x7_1) != a1) = false := bne_eq_false_iff_eq.mpr c12
      clear c12
      simp only [Option.some.injEq, Prod.mk.injEq] at H
      obtain ⟨rfl, rfl⟩ := H
      have p319 : 0 ≤ (x7_1 : Int) := da
      have q319 : x7_1 < (l0.length : Int) := da
      obtain ⟨ad319, e319, hx319_0⟩ := Kd.at_int HR0.out x7_1 p319 q319
      cases e319
      replace p319 := eq_true p319; replace q319 := eq_true q319; go_wp2
      go_ret2
      exact ⟨er, drw⟩
     ·rw [if_neg c12] at H
      have c12b0 : ((rd l0 x7_1) == a1) = false := beq_eq_false_iff_ne.mpr c12
      have c12b1 : ((rd l0 x7_1) != a1) = true := bne_iff_ne.mpr c12
      replace H := bS H; obtain ⟨t321, A13, H⟩ := H
      replace H : (if t321 = true then ((slices_isNaN_int.f a1).bind fun t322 => (some (x7_1, t322))) else (some (x7_1, false))) = some (r1, r2) := H
      by_cases c14 : t321 = true
      ·subst c14
       have H1 : ((slices_isNaN_int.f a1).bind fun t322 => (some (x7_1, t322))) = some (r1, r2) := by rw [if_pos rfl] at H; exact H
       clear H
       have H := H1
       clear H1; replace H := bS H; obtain ⟨t322, A15, H⟩ := H
       replace H : (some (x7_1, t322)) = some (r1, r2) := H
       simp only [Option.some.injEq, Prod.mk.injEq] at H
       obtain ⟨rfl, rfl⟩ := H
       have p319 : 0 ≤ (x7_1 : Int) := da
       have q319 : x7_1 < (l0.length : Int) := da
       obtain ⟨ad319, e319, hx319_0⟩ := Kd.at_int HR0.out x7_1 p319 q319
       cases e319
       replace p319 := eq_true p319; replace q319 := eq_true q319
       have p320 : 0 ≤ (x7_1 : Int) := da
       have q320 : x7_1 < (l0.length : Int) := da
       obtain ⟨ad320, e320, hx320_0⟩ := Kd.at_int HR0.out x7_1 p320 q320
       obtain rfl : ad319 = ad320 := (by injection e320)
       replace p320 := eq_true p320; replace q320 := eq_true q320
       go_wp2_with (first | (go_at_call 221; (with_reducible refine (slices_isNaN_int.calls (rd l0 x7_1) true _ A13.out).mono ?_); rintro e w' ⟨rfl, ⟨nd, rfl⟩⟩) | (go_at_call 221; (with_reducible refine (slices_isNaN_int.calls a1 t322 _ A15.out).mono ?_); rintro e w' ⟨rfl, ⟨nd, rfl⟩⟩))
       go_ret2
       exact ⟨er, drw⟩
      ·replace c14 := Bool.eq_false_iff.mpr c14
       subst c14
       have H1 : (some (x7_1, false)) = some (r1, r2) := by rw [if_neg (show ¬ (false = true) by decide)] at H; exact H
       clear H
       have H := H1
       clear H1
       simp only [Option.some.injEq, Prod.mk.injEq] at H
       obtain ⟨rfl, rfl⟩ := H
       have p319 : 0 ≤ (x7_1 : Int) := da
       have q319 : x7_1 < (l0.length : Int) := da
       obtain ⟨ad319, e319, hx319_0⟩ := Kd.at_int HR0.out x7_1 p319 q319
       cases e319
       replace p319 := eq_true p319; replace q319 := eq_true q319
       have p320 : 0 ≤ (x7_1 : Int) := da
       have q320 : x7_1 < (l0.length : Int) := da
       obtain ⟨ad320, e320, hx320_0⟩ := Kd.at_int HR0.out x7_1 p320 q320
       obtain rfl : ad319 = ad320 := (by injection e320)
       replace p320 := eq_true p320; replace q320 := eq_true q320
       go_wp2_with (first | (go_at_call 221; (with_reducible refine (slices_isNaN_int.calls (rd l0 x7_1) false _ A13.out).mono ?_); rintro e w' ⟨rfl, ⟨nd, rfl⟩⟩))
       go_ret2
       exact ⟨er, drw⟩
    ·rw [if_neg c9] at H
     have c9b0 : decide (x7_1 < (l0.length : Int)) = false := decide_eq_false c9
     clear c9
     simp only [Option.some.injEq, Prod.mk.injEq] at H
     obtain ⟨rfl, rfl⟩ := H; go_wp2
     go_ret2
     exact ⟨er, drw⟩

-- NOT PRINTED: function 222 (slices_overlaps_int)

/-! ### slices_Reverse_int_int: function 260 -/
def slices_Reverse_int_int.l0 : Nat → List Int → Int → Int → Option (List Int)
  | 0, _, _, _ => none
  | k + 1, x0, x2, x3 => if x2 < x3 then (if 0 ≤ x3 then (if x3 < (x0.length : Int) then (if 0 ≤ x2 then (if x2 < (x0.length : Int) then (slices_Reverse_int_int.l0 k ((x0.set (x2 : Int).toNat (rd x0 x3)).set (x3 : Int).toNat (rd x0 x2)) (wrap64 (x2 + 1)) (wrap64 (x3 - 1))) else (none)) else (none)) else (none)) else (none)) else (some x0)
def slices_Reverse_int_int.f (k : Nat) (l0 : List Int) : Option (List Int) := slices_Reverse_int_int.l0 k l0 0 (wrap64 ((l0.length : Int) - 1))
theorem slices_Reverse_int_int.mono_l : ∀ k, (∀ y0 y1 y2, LeO (slices_Reverse_int_int.l0 k y0 y1 y2) (slices_Reverse_int_int.l0 (k + 1) y0 y1 y2))
 | 0 => fun _ _ _ r h => by simp [slices_Reverse_int_int.l0] at h
 | k + 1 => by
  have ih0 := slices_Reverse_int_int.mono_l k
  ·intro y0 y1 y2
   unfold slices_Reverse_int_int.l0
   repeat' (first | (with_reducible first | exact ih0 _ _ _ | exact LeO.refl _ | exact LeO.none _ | refine LeO.ite ?_ ?_ | refine LeO.bind ?_ (fun _ => ?_)) | exact ih0 _ _ _ | exact LeO.none _ | refine LeO.ite ?_ ?_ | refine LeO.bind ?_ (fun _ => ?_))
theorem slices_Reverse_int_int.mono : ∀ a0 k, LeO (slices_Reverse_int_int.f k a0) (slices_Reverse_int_int.f (k + 1) a0) := by
 intro a0 k
 have ih0 := slices_Reverse_int_int.mono_l k
 unfold slices_Reverse_int_int.f
 repeat' (first | (with_reducible first | exact ih0 _ _ _ | exact LeO.refl _ | exact LeO.none _ | refine LeO.ite ?_ ?_ | refine LeO.bind ?_ (fun _ => ?_)) | exact ih0 _ _ _ | exact LeO.none _ | refine LeO.ite ?_ ?_ | refine LeO.bind ?_ (fun _ => ?_))
def slices_Reverse_int_int.T3 : Bool × List (List Nat × List Nat) := (true, [([], []), ([], []), ([], []), ([], []), ([], []), ([], []), ([4, 5], [4, 5]), ([6], [6]), ([], []), ([], []), ([8, 9], [8, 9]), ([10], [10]), ([0, 1, 0, 1, 4, 5, 6, 7, 11], [0, 1]), ([12, 7, 0, 1, 4, 5, 6, 7, 11], [7, 12]), ([2, 3, 0, 1, 2, 3, 4, 5, 6, 7, 8, 9, 10, 11, 12, 13], [2, 3]), ([14, 11, 13, 0, 1, 2, 3, 4, 5, 6, 7, 8, 9, 10, 11, 12, 13], [11, 14])])
def slices_Reverse_int_int.B3 : List Nat := [0, 0, 0, 0, 0, 0, 48, 112, 0, 0, 768, 1792, 4083, 8179, 16383, 32767]
theorem slices_Reverse_int_int.tab3 : rtab .any (opsOf Try.f260 3) = slices_Reverse_int_int.T3 := by kernel_rfl
theorem slices_Reverse_int_int.bits3 : waitsOk slices_Reverse_int_int.T3.2 slices_Reverse_int_int.B3 = true := by kernel_rfl
set_option maxHeartbeats 8000000 in
set_option maxRecDepth 100000 in
theorem slices_Reverse_int_int.calls (k : Nat) (P0_ : Nat → Prop) (u9000_ : Value) (l0 : List Int) (r : List Int) (w0 w : World) (hB : Below w0.heap.size w0 w) (ho0 : Kd.R (Kd.int .i64) 3 w w0.heap.size P0_ u9000_ l0) (h : slices_Reverse_int_int.f k l0 = some r) :
  Calls Try.prog 260 #[u9000_] w fun e w' => e = .returned (.tuple #[]) ∧ Kd.R (Kd.int .i64) 3 w' w0.heap.size (fun k_ => (P0_ k_ ∨ w.heap.size ≤ k_)) u9000_ r ∧ Below w0.heap.size w0 w' ∧ Kept w w' (fun k_ => P0_ k_) := by
 have HO0 := Aside0.mk (show Kd.R (Kd.int .i64) 3 w w0.heap.size (fun k_ => (P0_ k_ ∨ w.heap.size ≤ k_)) u9000_ l0 from Kd.R_mono ho0 (fun k_ hk => (.inl hk)))
 have HK := Aside0.mk (Kept.refl w (fun k_ => P0_ k_))
 have HW0 := Aside0.mk hB.size
 have HB := Aside0.mk hB; clear hB
 have H : (slices_Reverse_int_int.l0 k l0 0 (wrap64 ((l0.length : Int) - 1))) = some r := h
 clear h
 have H' := Aside0.mk H
 clear H
 obtain ⟨Ao2, co2, eo2⟩ := Kd.R_slice HO0.out
 subst eo2
 go_enter Try.func260, Try.ntmps260
 go_wp2
 go_loopg [2, 3] k (fun kq v2 v3 w' => ∃ (x0_1 : List Int) (x2_1 : Int) (x3_1 : Int), v2 = .int .i64 x2_1 ∧ v3 = .int .i64 x3_1 ∧ Aside0 (slices_Reverse_int_int.l0 kq x0_1 x2_1 x3_1 = some r) ∧ Aside0 (kq ≤ k) ∧ Aside0 (Kd.R (Kd.int .i64) 3 w' w0.heap.size (fun k_ => (P0_ k_ ∨ w.heap.size ≤ k_)) (.slice Ao2 l0.length co2) x0_1) ∧ Aside0 (Kept w w' (fun k_ => P0_ k_)) ∧ Aside0 (Below w0.heap.size w0 w'))
 case atStart => exact ⟨(l0), (0), (wrap64 ((l0.length : Int) - 1)), er, er, H', ⟨Nat.le_refl _⟩, ⟨rdl HO0⟩, ⟨by repeat (first | (with_reducible first | exact HK.out | apply Kept.alloc | apply Kept.drewN | apply Kept.drew) | exact HK.out)⟩, ⟨belowd HB⟩⟩
 case round =>
  clear H'
  obtain ⟨x0_1, x2_1, x3_1, rfl, rfl, HA, HK1, HO_0, HK, HB⟩ := hrel
  have hl0_1 := (Kd.R_reads' HO_0.out).1
  rw [hl0_1] at HO_0
  (try simp only [hl0_1])
  cases gk with
  | zero => exact absurd HA.out (by simp [slices_Reverse_int_int.l0])
  | succ k1 =>
   have H := HA.out; clear HA
   simp only [slices_Reverse_int_int.l0] at H
   by_cases c3 : x2_1 < x3_1
   ·rw [if_pos c3] at H
    have c3b0 : decide (x2_1 < x3_1) = true := decide_eq_true c3
    clear c3; replace H := ifS H; obtain ⟨c4, H⟩ := H; have c4b0 := decide_eq_true c4; clear c4; replace H := ifS H; obtain ⟨c5, H⟩ := H; have c5b0 := decide_eq_true c5; clear c5; replace H := ifS H; obtain ⟨c6, H⟩ := H; have c6b0 := decide_eq_true c6; clear c6; replace H := ifS H; obtain ⟨c7, H⟩ := H; have c7b0 := decide_eq_true c7; clear c7
    obtain ⟨y325, hy_⟩ : ∃ y_ : List Int, y_ = (x0_1.set (x2_1 : Int).toNat (rd x0_1 x3_1)) := ⟨_, rfl⟩
    replace H : (slices_Reverse_int_int.l0 k1 (y325.set (x3_1 : Int).toNat (rd x0_1 x2_1)) (wrap64 (x2_1 + 1)) (wrap64 (x3_1 - 1))) = some r := yH
    have Ny325 := ak hy_; clear hy_
    obtain ⟨y326, hy_⟩ : ∃ y_ : List Int, y_ = (y325.set (x3_1 : Int).toNat (rd x0_1 x2_1)) := ⟨_, rfl⟩
    replace H : (slices_Reverse_int_int.l0 k1 y326 (wrap64 (x2_1 + 1)) (wrap64 (x3_1 - 1))) = some r := yH
    have Ny326 := ak hy_; clear hy_
    have H' := Aside0.mk H
    clear H
    try go_wp2
    replace HO_0 := ak (Kd.R_drew HO_0.out)
    replace HK := ak (Kept.drew HK.out)
    replace HB := ak (below_drew1 HB.out)
    have p323 : 0 ≤ (x3_1 : Int) := da
    have q323 : x3_1 < (x0_1.length : Int) := da
    obtain ⟨ad323, e323, hx323_0⟩ := Kd.at_int (Kd.R_reads' HO_0.out).2.2 x3_1 p323 q323
    cases e323
    replace p323 := eq_true p323; replace q323 := eq_true q323
    have p324 : 0 ≤ (x2_1 : Int) := da
    have q324 : x2_1 < (x0_1.length : Int) := da
    obtain ⟨ad324, e324, hx324_0⟩ := Kd.at_int (Kd.R_reads' HO_0.out).2.2 x2_1 p324 q324
    obtain rfl : ad323 = ad324 := (by injection e324)
    replace p324 := eq_true p324; replace q324 := eq_true q324
    have p8 : 0 ≤ (x2_1 : Int) := da
    have q8 : (x2_1 : Int) < ((x0_1.length : Int) : Int) := da
    obtain ⟨go8, co8, eo8, gb8, gl8, cl8, HG8⟩ := Kd.R_form HO_0.out (by omega)
    (first | cases eo8 | (injection eo8 with ea_ en_ ec_; (first | subst ea_ | (injection ea_ with ea_; subst ea_)); subst ec_; clear en_))
    have GB8 := Aside0.mk gb8; have GG8 := Aside0.mk HG8; clear gb8 gl8 HG8
    have HMgo8 := Aside0.mk (show (P0_ go8 ∨ w.heap.size ≤ go8) from (HO_0.out.1 _ rfl))
    (first | simp only [add_plain] at hx323_0 | skip)
    (first | simp only [add_plain] at hx324_0 | skip)
    obtain ⟨hx8_0, hf8_0⟩ := Kd.R_celln 0 HO_0.out (x2_1 : Int) p8 q8
    replace p8 := eq_true p8; replace q8 := eq_true q8
    have HP11 := Kd.R_putn HO_0.out (x2_1 : Int) (rd x0_1 x3_1)
    rw [← Ny325.out] at HP11
    have HQ11 := Aside0.mk HP11; clear HP11
    have p9 : 0 ≤ (x3_1 : Int) := da
    have q9 : (x3_1 : Int) < ((x0_1.length : Int) : Int) := da
    obtain ⟨hx9_0, hf9_0⟩ := Kd.R_celln 0 HQ11.out (x3_1 : Int) p9 q9
    replace p9 := eq_true p9; replace q9 := eq_true q9
    have HP12 := Kd.R_putn HQ11.out (x3_1 : Int) (rd x0_1 x2_1)
    rw [← Ny326.out] at HP12
    have HQ12 := Aside0.mk HP12; clear HP12
    refine start_ (n := 16) (S := fun w' => w'.cell? ⟨go8, (x3_1).toNat, none⟩ = some (.int .i64 (rd x0_1 x3_1)) ∧ w'.cell? ⟨go8, (x2_1).toNat, none⟩ = some (.int .i64 (rd x0_1 x2_1))) (ds := [13, 15]) (bl 16 0) (by kernel_rfl) rfl rfl ⟨hx323_0, hx324_0⟩ (fun hHeld => ?_); refine with_tabW slices_Reverse_int_int.tab3 slices_Reverse_int_int.bits3 (fun HT_ HW_ => ?_)
    generalize wr.drew = w10 at HO_0 HK HB GG8 HQ11 HQ12 hf8_0 hf9_0 hx323_0 hx324_0 hx8_0 hx9_0 hHeld ⊢
    refine pureA 0 (some 14) 16 1 HT_ ?_
    refine pureA 1 (some 15) 16 3 HT_ ?_
    refine pureA 2 (some 16) 16 7 HT_ ?_
    refine pureA 3 (some 17) 16 15 HT_ ?_
    refine pureA 4 (some 18) 16 31 HT_ ?_
    refine pureA 5 (some 19) 16 63 HT_ ?_
    refine pureA 6 (some 20) 16 127 HT_ ?_
    refine pureA 8 (some 22) 16 383 HT_ ?_
    refine pureA 9 (some 23) 16 895 HT_ ?_
    refine pureA 10 (some 24) 16 1919 HT_ ?_
    refine takeA 7 (some 21) 16 2047 HT_ HW_ hHeld ?_ (hy := by rintro w' ⟨s0, s1⟩; go_simp; with_reducible rfl)
    refine takeA 11 (some 25) 16 4095 HT_ HW_ hHeld ?_ (hy := by rintro w' ⟨s0, s1⟩; go_simp; with_reducible rfl)
    refine pureA 12 (some 26) 16 8191 HT_ ?_
    refine last_ (i := 13) (N := none) (bl 16 16383) rfl rfl (one_of HT_.out (by kernel_rfl)) (by decide) (fun K hK => ?_)
    refine skip_ (w1 := ?_) (by rfl) rfl ?_ ?_
    rotate_left
    ·go_simp
     rfl
    refine hK.out _ _ ?_
    clear hK K
    refine pureA 14 (some 27) 16 32767 HT_ ?_
    refine last_ (i := 15) (N := none) (bl 16 65535) rfl rfl (one_of HT_.out (by kernel_rfl)) (by decide) (fun K hK => ?_)
    refine skip_ (w1 := ?_) (by rfl) rfl ?_ ?_
    rotate_left
    ·go_simp
     rfl
    refine hK.out _ _ ?_
    clear hK K
    refine done_ (done_of HT_.out (by kernel_rfl)) ?_
    try go_wp2
    (try simp only [← hl0_1])
    (first | go_roundg k1 | ((try rw [← add_plain go8 (x3_1 : Int).toNat]); (try rw [← add_plain go8 (x2_1 : Int).toNat]); go_roundg k1))
    case measure => have := HK1.out; omega
    case rel => exact ⟨(y326), (wrap64 (x2_1 + 1)), (wrap64 (x3_1 - 1)), er, er, H', ⟨by have := HK1.out; omega⟩, ⟨by (try simp only [hl0_1]); (with_reducible repeat (first | apply Kd.R_alloc | apply Kd.R_drewN | apply Kd.R_drew)); exact HQ12.out⟩, ⟨by repeat (first | (with_reducible first | exact HK.out | apply Kept.alloc | apply Kept.drewN | apply Kept.drew | refine Kept.setCell ?_ HMgo8.out _ | refine Kept.setCell ?_ HMgo8.out _) | exact HK.out)⟩, ⟨by repeat (first | (with_reducible first | exact HB.out | apply below_alloc | apply pw_below_drewN | apply below_drew1 | refine below_set ?_ GB8.out | refine below_set ?_ GB8.out) | exact HB.out)⟩⟩
   ·rw [if_neg c3] at H
    have c3b0 : decide (x2_1 < x3_1) = false := decide_eq_false c3
    clear c3
    obtain rfl := Option.some.inj H
    go_wp2
    first | go_end0 | ((try simp only [Exit.inBlock, Exit.then]); refine bodyPost_ret (results_none rfl _ _ _) rfl ?_)
    exact ⟨er2, (by first | exact (rdl HO_0) | (simp only [hl0_1]; exact (rdl HO_0))), belowd HB, by repeat (first | (with_reducible first | exact HK.out | apply Kept.alloc | apply Kept.drewN | apply Kept.drew) | exact HK.out)⟩

-- NOT PRINTED: function 238 (slices_rotateLeft_int)

-- NOT PRINTED: function 223 (slices_rotateRight_int)

-- NOT PRINTED: function 184 (slices_Insert_int_int)

/-! ### impl_placed_int: function 105 -/
def impl_placed_int.f (k : Nat) (l0 : List Int) (a1 : Int) : Option (List Int) := (slices_BinarySearch_int_int.f k l0 a1).bind fun t => ((slices_Clone_int_int.f l0).bind fun c => (if c.length ≤ 4194304 then (if 0 ≤ t.1 then (if t.1 ≤ (c.length : Int) then (some (c.take t.1.toNat ++ a1 :: c.drop t.1.toNat)) else (none)) else (none)) else (none)))
theorem impl_placed_int.mono : ∀ a0 a1 k, LeO (impl_placed_int.f k a0 a1) (impl_placed_int.f (k + 1) a0 a1) := by
 intro a0 a1 k
 unfold impl_placed_int.f
 exact LeO.bind (slices_BinarySearch_int_int.mono _ _ _) (fun _ => LeO.refl _)
set_option maxHeartbeats 8000000 in
set_option maxRecDepth 100000 in
theorem impl_placed_int.calls (k : Nat) (A0 : Option Addr) (c0 : Nat) (l0 : List Int) (a1 : Int) (r : List Int) (w : World) (hr0 : Kd.C (Kd.int .i64) w A0 l0.length l0) (hc0 : l0.length ≤ c0) (h : impl_placed_int.f k l0 a1 = some r) :
  Calls Try.prog 105 #[.slice A0 l0.length c0, .int .i64 a1] w fun e w' => ∃ v0_ : Value, e = .returned (v0_) ∧ Kd.R (Kd.int .i64) 3 w' w.heap.size (fun _ => True) v0_ r ∧ Below w.heap.size w w' := by
 have HR0 := Aside0.mk hr0; have HC0 := Aside0.mk hc0; clear hr0 hc0
 have HB := Aside0.mk (Below.refl w.heap.size w)
 unfold impl_placed_int.f at h
 replace h := bS h
 obtain ⟨⟨t1, t2⟩, A1, h⟩ := h
 replace h := bS h
 obtain ⟨c, A2, h⟩ := h
 replace h := ifS h
 obtain ⟨c1, h⟩ := h
 replace h := ifS h
 obtain ⟨c2, h⟩ := h
 replace h := ifS h
 obtain ⟨c3, h⟩ := h
 dsimp only at c2 c3 h
 obtain ⟨i, rfl⟩ := Int.eq_ofNat_of_zero_le c2
 obtain rfl := Option.some.inj h
 rw [Int.toNat_natCast]
 clear h
 have LI := Aside0.mk (show i ≤ c.length by omega)
 have LC := Aside0.mk c1; clear c1 c2 c3
 go_enter Try.func105, Try.ntmps105
 go_wp2_with (first | ((with_reducible refine gate_callee (f := 183) rfl ?_); refine goesLa (some 10) rfl Try.func183 #[.slice A0 l0.length c0, .int .i64 a1] rfl ?_; (with_reducible refine (slices_BinarySearch_int_int.calls k _ _ l0 a1 (i : Int) t2 _ HR0.out HC0.out A1.out).mono ?_); rintro e w1 ⟨rfl, ⟨nd, rfl⟩⟩; refine ⟨_, rfl, ?_⟩) | ((with_reducible refine gate_callee (f := 179) rfl ?_); refine goesLa (some 14) rfl Try.func179 #[.slice A0 l0.length c0] rfl ?_; (with_reducible refine (slices_Clone_int_int.calls _ _ l0 c _ ?side1 ?side2 A2.out).mono ?_); (case side1 => exact cd HR0.out); (case side2 => exact HC0.out); rintro e w2 ⟨v14, rfl, ho, hb⟩; refine ⟨_, rfl, ?_⟩; have HO := ak (Kd.R_lower ho (below_size (belowd HB))); replace HB := ak (below_step (belowd HB) hb); clear ho hb) | ((with_reducible refine gate_dst (N := 17) rfl ?_); refine Kd.R_lit (Kd.int .i64) _ 3 ?hg (N := 17) ?hd (xs := ([a1] : List Int)) (inner := [.int .i64 a1]) (ok := fun _ => True) (okp := fun _ => True) ?hr ?hp (fun _ hk => hk) trivial (Below.refl _ _) (Nat.le_refl _) (by simp) ?_; (case hd => rfl); (case hg => rfl); (case hr => first | (go_simp; done) | (go_simp; rfl)); (case hp => exact (Reps.one (show Kd.M (Kd.int .i64) _ _ _ (a1) [.int .i64 a1] from rfl) (Reps.none _ _))); intro v17 w3 ho3 hb3 hg_ hnew_; clear hg_ hnew_; have HU := ak (Kd.R_lower (Kd.R_mono (Kd.R_new' ho3 (Kd.R_lt (rdl HO))) (fun _ h_ => h_.2)) (below_size (belowd HB))); replace HO := ak (Kd.R_below (rdl HO) hb3); replace HB := ak (below_step (belowd HB) hb3); clear ho3 hb3) | ((with_reducible refine gate_callee (f := 184) rfl ?_); refine goesLa (some 18) rfl Try.func184 #[v14, .int .i64 (i : Int), v17] rfl ?_; (with_reducible refine (insI.calls (belowd HB) (rdl HO) (rdl HU) LI.out LC.out).mono ?_); rintro e w4 ⟨v18, rfl, ho, hb⟩; refine ⟨_, rfl, ?_⟩; clear HO HU; have HO := ak ho; replace HB := ak hb; clear ho hb))
 go_ret
 exact ⟨_, rfl, HO.out, HB.out⟩

-- NOT PRINTED: function 240 (slices_IndexFunc_int_int)

-- NOT PRINTED: function 226 (slices_ContainsFunc_int_int)

/-! ### impl_Board_hasSigned_1: function 239 -/
def impl_Board_hasSigned_1.f (l0 : List Int) (a1_0 : Int) (a2_0 : Int) (a3_0 : Int) : Option (Bool) := if 0 < (l0.length : Int) then (if (rd l0 0) = a1_0 then (if 1 < (l0.length : Int) then (if (rd l0 1) = a2_0 then (if 2 < (l0.length : Int) then (some ((rd l0 2) == a3_0)) else (none)) else (some false)) else (none)) else (some false)) else (none)
set_option maxHeartbeats 8000000 in
set_option maxRecDepth 100000 in
theorem impl_Board_hasSigned_1.calls (A0 : Option Addr) (c0 : Nat) (l0 : List Int) (g1_ : Nat) (a1_0 : Int) (g2_ : Nat) (a2_0 : Int) (g3_ : Nat) (a3_0 : Int) (r : Bool) (w : World) (hr0 : Kd.C (Kd.int .i64) w A0 l0.length l0) (hc0 : l0.length ≤ c0) (hq1_0 : w.heap[g1_]? = some (.cells #[.int .i64 a1_0] 3 (0, 0))) (hq2_0 : w.heap[g2_]? = some (.cells #[.int .i64 a2_0] 3 (0, 0))) (hq3_0 : w.heap[g3_]? = some (.cells #[.int .i64 a3_0] 3 (0, 0))) (h : impl_Board_hasSigned_1.f l0 a1_0 a2_0 a3_0 = some r) :
  Calls Try.prog 239 #[.slice A0 l0.length c0, .pointer (some ⟨g1_, 0, none⟩), .pointer (some ⟨g2_, 0, none⟩), .pointer (some ⟨g3_, 0, none⟩)] w fun e w' => e = .returned (.bool r) ∧ Drawn0 w w' := by
 have HR0 := Aside0.mk hr0; have HC0 := Aside0.mk hc0; clear hr0 hc0
 have hcq1_0_0 : w.cell? ⟨g1_, 0, none⟩ = some (.int .i64 a1_0) := (blk_cell hq1_0 0).trans rfl
 have hcq2_0_0 : w.cell? ⟨g2_, 0, none⟩ = some (.int .i64 a2_0) := (blk_cell hq2_0 0).trans rfl
 have hcq3_0_0 : w.cell? ⟨g3_, 0, none⟩ = some (.int .i64 a3_0) := (blk_cell hq3_0 0).trans rfl
 have H : (if 0 < (l0.length : Int) then (if (rd l0 0) = a1_0 then (if 1 < (l0.length : Int) then (if (rd l0 1) = a2_0 then (if 2 < (l0.length : Int) then (some ((rd l0 2) == a3_0)) else (none)) else (some false)) else (none)) else (some false)) else (none)) = some r := h
 clear h; replace H := ifS H; obtain ⟨c5, H⟩ := H; have c5b0 := decide_eq_true c5
 have c5b1 : decide (0 < l0.length) = true := decide_eq_true (by omega)
 clear c5
 by_cases c6 : (rd l0 0) = a1_0
 ·rw [if_pos c6] at H
  have c6b0 : ((rd l0 0) == a1_0) = true := beq_iff_eq.mpr c6
  have c6b1 : ((rd l0 0) != a1_0) = false := bne_eq_false_iff_eq.mpr c6
  clear c6; replace H := ifS H; obtain ⟨c7, H⟩ := H; have c7b0 := decide_eq_true c7
  have c7b1 : decide (1 < l0.length) = true := decide_eq_true (by omega)
  clear c7
  by_cases c8 : (rd l0 1) = a2_0
  ·rw [if_pos c8] at H
   have c8b0 : ((rd l0 1) == a2_0) = true := beq_iff_eq.mpr c8
   have c8b1 : ((rd l0 1) != a2_0) = false := bne_eq_false_iff_eq.mpr c8
   clear c8; replace H := ifS H; obtain ⟨c9, H⟩ := H; have c9b0 := decide_eq_true c9
   have c9b1 : decide (2 < l0.length) = true := decide_eq_true (by omega)
   clear c9
   obtain rfl := Option.some.inj H
   have p338 : 0 ≤ (0 : Int) := (by omega)
   have q338 : 0 < (l0.length : Int) := da
   obtain ⟨ad338, e338, hx338_0⟩ := Kd.at_int HR0.out 0 p338 q338
   cases e338
   have qi338 : (0 < l0.length) = True := eq_true (by omega)
   (try rw [show ((0 : Int)).toNat = 0 from rfl] at hx338_0)
   (try rw [Addr.add_zero'] at hx338_0)
   replace p338 := eq_true p338; replace q338 := eq_true q338
   have p339 : 0 ≤ (1 : Int) := (by omega)
   have q339 : 1 < (l0.length : Int) := da
   obtain ⟨ad339, e339, hx339_0⟩ := Kd.at_int HR0.out 1 p339 q339
   obtain rfl : ad338 = ad339 := (by injection e339)
   (try simp only [show (1 : Int).toNat = 1 from rfl, Nat.reduceMul, Nat.reduceEqDiff, Go.Addr.add, ↓reduceIte] at hx339_0)
   have qi339 : (1 < l0.length) = True := eq_true (by omega)
   (try rw [show ((1 : Int)).toNat = 1 from rfl] at hx339_0)
   replace p339 := eq_true p339; replace q339 := eq_true q339
   have p340 : 0 ≤ (2 : Int) := (by omega)
   have q340 : 2 < (l0.length : Int) := da
   obtain ⟨ad340, e340, hx340_0⟩ := Kd.at_int HR0.out 2 p340 q340
   obtain rfl : ad338 = ad340 := (by injection e340)
   (try simp only [show (2 : Int).toNat = 2 from rfl, Nat.reduceMul, Nat.reduceEqDiff, Go.Addr.add, ↓reduceIte] at hx340_0)
   have qi340 : (2 < l0.length) = True := eq_true (by omega)
   (try rw [show ((2 : Int)).toNat = 2 from rfl] at hx340_0)
   replace p340 := eq_true p340; replace q340 := eq_true q340
   go_enter Try.func239, Try.ntmps239
   go_wp2
   repeat (go_quiet (fail); try go_wp2)
   go_ret
   exact ⟨er, drw⟩
  ·rw [if_neg c8] at H
   have c8b0 : ((rd l0 1) == a2_0) = false := beq_eq_false_iff_ne.mpr c8
   have c8b1 : ((rd l0 1) != a2_0) = true := bne_iff_ne.mpr c8
   obtain rfl := Option.some.inj H
   have p338 : 0 ≤ (0 : Int) := (by omega)
   have q338 : 0 < (l0.length : Int) := da
   obtain ⟨ad338, e338, hx338_0⟩ := Kd.at_int HR0.out 0 p338 q338
   cases e338
   have qi338 : (0 < l0.length) = True := eq_true (by omega)
   (try rw [show ((0 : Int)).toNat = 0 from rfl] at hx338_0)
   (try rw [Addr.add_zero'] at hx338_0)
   replace p338 := eq_true p338; replace q338 := eq_true q338
   have p339 : 0 ≤ (1 : Int) := (by omega)
   have q339 : 1 < (l0.length : Int) := da
   obtain ⟨ad339, e339, hx339_0⟩ := Kd.at_int HR0.out 1 p339 q339
   obtain rfl : ad338 = ad339 := (by injection e339)
   (try simp only [show (1 : Int).toNat = 1 from rfl, Nat.reduceMul, Nat.reduceEqDiff, Go.Addr.add, ↓reduceIte] at hx339_0)
   have qi339 : (1 < l0.length) = True := eq_true (by omega)
   (try rw [show ((1 : Int)).toNat = 1 from rfl] at hx339_0)
   replace p339 := eq_true p339; replace q339 := eq_true q339
   go_enter Try.func239, Try.ntmps239
   go_wp2
   repeat (go_quiet (fail); try go_wp2)
   go_ret
   exact ⟨er, drw⟩
 ·rw [if_neg c6] at H
  have c6b0 : ((rd l0 0) == a1_0) = false := beq_eq_false_iff_ne.mpr c6
  have c6b1 : ((rd l0 0) != a1_0) = true := bne_iff_ne.mpr c6
  obtain rfl := Option.some.inj H
  have p338 : 0 ≤ (0 : Int) := (by omega)
  have q338 : 0 < (l0.length : Int) := da
  obtain ⟨ad338, e338, hx338_0⟩ := Kd.at_int HR0.out 0 p338 q338
  cases e338
  have qi338 : (0 < l0.length) = True := eq_true (by omega)
  (try rw [show ((0 : Int)).toNat = 0 from rfl] at hx338_0)
  (try rw [Addr.add_zero'] at hx338_0)
  replace p338 := eq_true p338; replace q338 := eq_true q338
  go_enter Try.func239, Try.ntmps239
  go_wp2
  repeat (go_quiet (fail); try go_wp2)
  go_ret
  exact ⟨er, drw⟩

/-! ### slices_IndexFunc_240_at_239_3_3_3: function 240 -/
def slices_IndexFunc_240_at_239_3_3_3.l0 : Nat → List (List Int) → Int → Int → Int → Int → Int → Option (Int)
  | 0, _, _, _, _, _, _ => none
  | k + 1, x0, x7, x8, x511000, x512000, x513000 => if x8 < x7 then (if 0 ≤ x8 then (if x8 < (x0.length : Int) then ((impl_Board_hasSigned_1.f (rd_L3 x0 x8) x511000 x512000 x513000).bind fun t342 => (if t342 = true then (some x8) else (slices_IndexFunc_240_at_239_3_3_3.l0 k x0 x7 (wrap64 (x8 + 1)) x511000 x512000 x513000))) else (none)) else (none)) else (some (-1))
def slices_IndexFunc_240_at_239_3_3_3.f (k : Nat) (l0 : List (List Int)) (a1_0 : Int) (a1_1 : Int) (a1_2 : Int) : Option (Int) := slices_IndexFunc_240_at_239_3_3_3.l0 k l0 (l0.length : Int) 0 a1_0 a1_1 a1_2
theorem slices_IndexFunc_240_at_239_3_3_3.mono_l : ∀ k, (∀ y0 y1 y2 y3 y4 y5, LeO (slices_IndexFunc_240_at_239_3_3_3.l0 k y0 y1 y2 y3 y4 y5) (slices_IndexFunc_240_at_239_3_3_3.l0 (k + 1) y0 y1 y2 y3 y4 y5))
 | 0 => fun _ _ _ _ _ _ r h => by simp [slices_IndexFunc_240_at_239_3_3_3.l0] at h
 | k + 1 => by
  have ih0 := slices_IndexFunc_240_at_239_3_3_3.mono_l k
  ·intro y0 y1 y2 y3 y4 y5
   unfold slices_IndexFunc_240_at_239_3_3_3.l0
   repeat' (first | (with_reducible first | exact ih0 _ _ _ _ _ _ | exact LeO.refl _ | exact LeO.none _ | refine LeO.ite ?_ ?_ | refine LeO.bind ?_ (fun _ => ?_)) | exact ih0 _ _ _ _ _ _ | exact LeO.none _ | refine LeO.ite ?_ ?_ | refine LeO.bind ?_ (fun _ => ?_))
theorem slices_IndexFunc_240_at_239_3_3_3.mono : ∀ a0 a1 a2 a3 k, LeO (slices_IndexFunc_240_at_239_3_3_3.f k a0 a1 a2 a3) (slices_IndexFunc_240_at_239_3_3_3.f (k + 1) a0 a1 a2 a3) := by
 intro a0 a1 a2 a3 k
 have ih0 := slices_IndexFunc_240_at_239_3_3_3.mono_l k
 unfold slices_IndexFunc_240_at_239_3_3_3.f
 repeat' (first | (with_reducible first | exact ih0 _ _ _ _ _ _ | exact LeO.refl _ | exact LeO.none _ | refine LeO.ite ?_ ?_ | refine LeO.bind ?_ (fun _ => ?_)) | exact ih0 _ _ _ _ _ _ | exact LeO.none _ | refine LeO.ite ?_ ?_ | refine LeO.bind ?_ (fun _ => ?_))
set_option maxHeartbeats 8000000 in
set_option maxRecDepth 100000 in
theorem slices_IndexFunc_240_at_239_3_3_3.calls (k : Nat) (A0 : Option Addr) (c0 : Nat) (l0 : List (List Int)) (g1_0_ : Nat) (g1_1_ : Nat) (g1_2_ : Nat) (a1_0 : Int) (a1_1 : Int) (a1_2 : Int) (r : Int) (w : World) (hr0 : Kd.C (Kd.slice 3 (Kd.int .i64)) w A0 l0.length l0) (hc0 : l0.length ≤ c0) (hq1_0 : w.heap[g1_0_]? = some (.cells #[.int .i64 a1_0] 3 (0, 0))) (hq1_1 : w.heap[g1_1_]? = some (.cells #[.int .i64 a1_1] 3 (0, 0))) (hq1_2 : w.heap[g1_2_]? = some (.cells #[.int .i64 a1_2] 3 (0, 0))) (h : slices_IndexFunc_240_at_239_3_3_3.f k l0 a1_0 a1_1 a1_2 = some r) :
  Calls Try.prog 240 #[.slice A0 l0.length c0, .func (.func 239) #[] #[.pointer (some ⟨g1_0_, 0, none⟩), .pointer (some ⟨g1_1_, 0, none⟩), .pointer (some ⟨g1_2_, 0, none⟩)]] w fun e w' => e = .returned (.int .i64 r) ∧ Drawn0 w w' := by
 have HR0 := Aside0.mk hr0; have HC0 := Aside0.mk hc0; clear hr0 hc0
 have hcq1_0_0 : w.cell? ⟨g1_0_, 0, none⟩ = some (.int .i64 a1_0) := (blk_cell hq1_0 0).trans rfl
 have hcq1_1_0 : w.cell? ⟨g1_1_, 0, none⟩ = some (.int .i64 a1_1) := (blk_cell hq1_1 0).trans rfl
 have hcq1_2_0 : w.cell? ⟨g1_2_, 0, none⟩ = some (.int .i64 a1_2) := (blk_cell hq1_2 0).trans rfl
 have H : (slices_IndexFunc_240_at_239_3_3_3.l0 k l0 (l0.length : Int) 0 a1_0 a1_1 a1_2) = some r := h
 clear h
 have H' := Aside0.mk H
 clear H
 go_enter Try.func240, Try.ntmps240
 go_wp2
 go_loopg [8] k (fun kq v8 w' => ∃ (x8_1 : Int), v8 = .int .i64 x8_1 ∧ Aside0 (slices_IndexFunc_240_at_239_3_3_3.l0 kq l0 (l0.length : Int) x8_1 a1_0 a1_1 a1_2 = some r) ∧ Aside0 (kq ≤ k) ∧ Drawn0 w w')
 case atStart => exact ⟨(0), er, H', ⟨Nat.le_refl _⟩, drw⟩
 case round =>
  clear H'
  obtain ⟨x8_1, rfl, HA, HK1, ⟨m1, rfl⟩⟩ := hrel
  cases gk with
  | zero => exact absurd HA.out (by simp [slices_IndexFunc_240_at_239_3_3_3.l0])
  | succ k1 =>
   have H := HA.out; clear HA
   simp only [slices_IndexFunc_240_at_239_3_3_3.l0] at H
   by_cases c3 : x8_1 < (l0.length : Int)
   ·rw [if_pos c3] at H
    have c3b0 : decide (x8_1 < (l0.length : Int)) = true := decide_eq_true c3
    clear c3; replace H := ifS H; obtain ⟨c4, H⟩ := H; have c4b0 := decide_eq_true c4; clear c4; replace H := ifS H; obtain ⟨c5, H⟩ := H; have c5b0 := decide_eq_true c5; clear c5; replace H := bS H; obtain ⟨t342, A6, H⟩ := H
    replace H : (if t342 = true then (some x8_1) else (slices_IndexFunc_240_at_239_3_3_3.l0 k1 l0 (l0.length : Int) (wrap64 (x8_1 + 1)) a1_0 a1_1 a1_2)) = some r := H
    by_cases c7 : t342 = true
    ·subst c7
     have H1 : (some x8_1) = some r := by rw [if_pos rfl] at H; exact H
     clear H
     have H := H1
     clear H1
     obtain rfl := Option.some.inj H
     have p341 : 0 ≤ (x8_1 : Int) := da
     have q341 : x8_1 < (l0.length : Int) := da
     obtain ⟨ad341, A341_0, c341_0, e341, hx341_0, hl341_0, hi341_0⟩ := at_L3 HR0.out x8_1 p341 q341
     cases e341
     have HR341_0 := Aside0.mk hi341_0; have HC341_0 := Aside0.mk hl341_0; clear hi341_0 hl341_0; replace p341 := eq_true p341; replace q341 := eq_true q341
     go_wp2_with (first | ((with_reducible refine gate_value (f := 239) rfl rfl ?_); refine goesV_ (some 16) rfl rfl Try.func239 (by kernel_rfl) rfl #[.slice A341_0 (rd_L3 l0 x8_1).length c341_0, .pointer (some ⟨g1_0_, 0, none⟩), .pointer (some ⟨g1_1_, 0, none⟩), .pointer (some ⟨g1_2_, 0, none⟩)] rfl rfl (by (try simp only [List.map_toArray, List.map_cons, List.map_nil]); first | done | rfl | (simp only [List.length_drop, List.length_take]; rfl)) ?_; (with_reducible refine (impl_Board_hasSigned_1.calls _ _ (rd_L3 l0 x8_1) g1_0_ a1_0 g1_1_ a1_1 g1_2_ a1_2 true _ ?side1 ?side2 ?side3 ?side4 ?side5 A6.out).mono ?_); (case side3 => first | ((with_reducible repeat (first | refine blk_drewN ?_ _ | refine blk_drew ?_ | refine blk_alloc ?_ _)); exact hq1_0)); (case side4 => first | ((with_reducible repeat (first | refine blk_drewN ?_ _ | refine blk_drew ?_ | refine blk_alloc ?_ _)); exact hq1_1)); (case side5 => first | ((with_reducible repeat (first | refine blk_drewN ?_ _ | refine blk_drew ?_ | refine blk_alloc ?_ _)); exact hq1_2)); (case side1 => exact cd HR341_0.out); (case side2 => exact HC341_0.out); rintro e w' ⟨rfl, ⟨nd, rfl⟩⟩; refine ⟨_, rfl, ?_⟩))
     go_ret
     exact ⟨er, drw⟩
    ·replace c7 := Bool.eq_false_iff.mpr c7
     subst c7
     have H1 : (slices_IndexFunc_240_at_239_3_3_3.l0 k1 l0 (l0.length : Int) (wrap64 (x8_1 + 1)) a1_0 a1_1 a1_2) = some r := by rw [if_neg (show ¬ (false = true) by decide)] at H; exact H
     clear H
     have H := H1
     clear H1
     have H' := Aside0.mk H
     clear H
     have p341 : 0 ≤ (x8_1 : Int) := da
     have q341 : x8_1 < (l0.length : Int) := da
     obtain ⟨ad341, A341_0, c341_0, e341, hx341_0, hl341_0, hi341_0⟩ := at_L3 HR0.out x8_1 p341 q341
     cases e341
     have HR341_0 := Aside0.mk hi341_0; have HC341_0 := Aside0.mk hl341_0; clear hi341_0 hl341_0; replace p341 := eq_true p341; replace q341 := eq_true q341
     go_wp2_with (first | ((with_reducible refine gate_value (f := 239) rfl rfl ?_); refine goesV_ (some 16) rfl rfl Try.func239 (by kernel_rfl) rfl #[.slice A341_0 (rd_L3 l0 x8_1).length c341_0, .pointer (some ⟨g1_0_, 0, none⟩), .pointer (some ⟨g1_1_, 0, none⟩), .pointer (some ⟨g1_2_, 0, none⟩)] rfl rfl (by (try simp only [List.map_toArray, List.map_cons, List.map_nil]); first | done | rfl | (simp only [List.length_drop, List.length_take]; rfl)) ?_; (with_reducible refine (impl_Board_hasSigned_1.calls _ _ (rd_L3 l0 x8_1) g1_0_ a1_0 g1_1_ a1_1 g1_2_ a1_2 false _ ?side1 ?side2 ?side3 ?side4 ?side5 A6.out).mono ?_); (case side3 => first | ((with_reducible repeat (first | refine blk_drewN ?_ _ | refine blk_drew ?_ | refine blk_alloc ?_ _)); exact hq1_0)); (case side4 => first | ((with_reducible repeat (first | refine blk_drewN ?_ _ | refine blk_drew ?_ | refine blk_alloc ?_ _)); exact hq1_1)); (case side5 => first | ((with_reducible repeat (first | refine blk_drewN ?_ _ | refine blk_drew ?_ | refine blk_alloc ?_ _)); exact hq1_2)); (case side1 => exact cd HR341_0.out); (case side2 => exact HC341_0.out); rintro e w' ⟨rfl, ⟨nd, rfl⟩⟩; refine ⟨_, rfl, ?_⟩))
     go_roundg k1
     case measure => have := HK1.out; omega
     case rel => exact ⟨(wrap64 (x8_1 + 1)), er, H', ⟨by have := HK1.out; omega⟩, drw⟩
   ·rw [if_neg c3] at H
    have c3b0 : decide (x8_1 < (l0.length : Int)) = false := decide_eq_false c3
    clear c3
    obtain rfl := Option.some.inj H
    go_wp2
    go_ret
    exact ⟨er, drw⟩

/-! ### slices_ContainsFunc_226_at_239_3_3_3: function 226 -/
def slices_ContainsFunc_226_at_239_3_3_3.f (k : Nat) (l0 : List (List Int)) (a1_0 : Int) (a1_1 : Int) (a1_2 : Int) : Option (Bool) := (slices_IndexFunc_240_at_239_3_3_3.f k l0 a1_0 a1_1 a1_2).bind fun t343 => (some (decide (t343 ≥ 0)))
theorem slices_ContainsFunc_226_at_239_3_3_3.mono : ∀ a0 a1 a2 a3 k, LeO (slices_ContainsFunc_226_at_239_3_3_3.f k a0 a1 a2 a3) (slices_ContainsFunc_226_at_239_3_3_3.f (k + 1) a0 a1 a2 a3) := by
 intro a0 a1 a2 a3 k
 unfold slices_ContainsFunc_226_at_239_3_3_3.f
 repeat' (first | (with_reducible first | exact slices_IndexFunc_240_at_239_3_3_3.mono _ _ _ _ _ | exact LeO.refl _ | exact LeO.none _ | refine LeO.ite ?_ ?_ | refine LeO.bind ?_ (fun _ => ?_)) | exact slices_IndexFunc_240_at_239_3_3_3.mono _ _ _ _ _ | exact LeO.none _ | refine LeO.ite ?_ ?_ | refine LeO.bind ?_ (fun _ => ?_))
set_option maxHeartbeats 8000000 in
set_option maxRecDepth 100000 in
theorem slices_ContainsFunc_226_at_239_3_3_3.calls (k : Nat) (A0 : Option Addr) (c0 : Nat) (l0 : List (List Int)) (g1_0_ : Nat) (g1_1_ : Nat) (g1_2_ : Nat) (a1_0 : Int) (a1_1 : Int) (a1_2 : Int) (r : Bool) (w : World) (hr0 : Kd.C (Kd.slice 3 (Kd.int .i64)) w A0 l0.length l0) (hc0 : l0.length ≤ c0) (hq1_0 : w.heap[g1_0_]? = some (.cells #[.int .i64 a1_0] 3 (0, 0))) (hq1_1 : w.heap[g1_1_]? = some (.cells #[.int .i64 a1_1] 3 (0, 0))) (hq1_2 : w.heap[g1_2_]? = some (.cells #[.int .i64 a1_2] 3 (0, 0))) (h : slices_ContainsFunc_226_at_239_3_3_3.f k l0 a1_0 a1_1 a1_2 = some r) :
  Calls Try.prog 226 #[.slice A0 l0.length c0, .func (.func 239) #[] #[.pointer (some ⟨g1_0_, 0, none⟩), .pointer (some ⟨g1_1_, 0, none⟩), .pointer (some ⟨g1_2_, 0, none⟩)]] w fun e w' => e = .returned (.bool r) ∧ Drawn0 w w' := by
 have HR0 := Aside0.mk hr0; have HC0 := Aside0.mk hc0; clear hr0 hc0
 have hcq1_0_0 : w.cell? ⟨g1_0_, 0, none⟩ = some (.int .i64 a1_0) := (blk_cell hq1_0 0).trans rfl
 have hcq1_1_0 : w.cell? ⟨g1_1_, 0, none⟩ = some (.int .i64 a1_1) := (blk_cell hq1_1 0).trans rfl
 have hcq1_2_0 : w.cell? ⟨g1_2_, 0, none⟩ = some (.int .i64 a1_2) := (blk_cell hq1_2 0).trans rfl
 have H : ((slices_IndexFunc_240_at_239_3_3_3.f k l0 a1_0 a1_1 a1_2).bind fun t343 => (some (decide (t343 ≥ 0)))) = some r := h
 clear h; replace H := bS H; obtain ⟨t343, A3, H⟩ := H
 replace H : (some (decide (t343 ≥ 0))) = some r := H
 obtain rfl := Option.some.inj H
 go_enter Try.func226, Try.ntmps226
 go_wp2_with (first | ((with_reducible refine gate_callee (f := 240) rfl ?_); refine goesLa (some 7) rfl Try.func240 #[.slice A0 l0.length c0, .func (.func 239) #[] #[.pointer (some ⟨g1_0_, 0, none⟩), .pointer (some ⟨g1_1_, 0, none⟩), .pointer (some ⟨g1_2_, 0, none⟩)]] rfl ?_; (with_reducible refine (slices_IndexFunc_240_at_239_3_3_3.calls k _ _ l0 g1_0_ g1_1_ g1_2_ a1_0 a1_1 a1_2 t343 _ ?side1 ?side2 ?side3 ?side4 ?side5 A3.out).mono ?_); (case side3 => first | ((with_reducible repeat (first | refine blk_drewN ?_ _ | refine blk_drew ?_ | refine blk_alloc ?_ _)); exact hq1_0)); (case side4 => first | ((with_reducible repeat (first | refine blk_drewN ?_ _ | refine blk_drew ?_ | refine blk_alloc ?_ _)); exact hq1_1)); (case side5 => first | ((with_reducible repeat (first | refine blk_drewN ?_ _ | refine blk_drew ?_ | refine blk_alloc ?_ _)); exact hq1_2)); (case side1 => exact cd HR0.out); (case side2 => exact HC0.out); rintro e w' ⟨rfl, ⟨nd, rfl⟩⟩; refine ⟨_, rfl, ?_⟩))
 go_ret
 exact ⟨er, drw⟩

/-! ### impl_Board_hasSigned: function 225 -/
def impl_Board_hasSigned.f (k : Nat) (a0_0 : Int) (a0_1 : Int) (l0_2 : List (List Int)) (l0_3 : List Int) (l0_4 : List Int) (a1 : Int) (a2 : Int) (a3 : Int) : Option (Bool) := (slices_ContainsFunc_226_at_239_3_3_3.f k l0_2 a1 a2 a3).bind fun t348 => (some t348)
theorem impl_Board_hasSigned.mono : ∀ a0 a1 a2 a3 a4 a5 a6 a7 k, LeO (impl_Board_hasSigned.f k a0 a1 a2 a3 a4 a5 a6 a7) (impl_Board_hasSigned.f (k + 1) a0 a1 a2 a3 a4 a5 a6 a7) := by
 intro a0 a1 a2 a3 a4 a5 a6 a7 k
 unfold impl_Board_hasSigned.f
 repeat' (first | (with_reducible first | exact slices_ContainsFunc_226_at_239_3_3_3.mono _ _ _ _ _ | exact LeO.refl _ | exact LeO.none _ | refine LeO.ite ?_ ?_ | refine LeO.bind ?_ (fun _ => ?_)) | exact slices_ContainsFunc_226_at_239_3_3_3.mono _ _ _ _ _ | exact LeO.none _ | refine LeO.ite ?_ ?_ | refine LeO.bind ?_ (fun _ => ?_))
set_option maxHeartbeats 8000000 in
set_option maxRecDepth 100000 in
theorem impl_Board_hasSigned.calls (k : Nat) (a0_0 : Int) (a0_1 : Int) (A0_2 : Option Addr) (c0_2 : Nat) (l0_2 : List (List Int)) (A0_3 : Option Addr) (c0_3 : Nat) (l0_3 : List Int) (A0_4 : Option Addr) (c0_4 : Nat) (l0_4 : List Int) (a1 : Int) (a2 : Int) (a3 : Int) (r : Bool) (w : World) (hr0_2 : Kd.C (Kd.slice 3 (Kd.int .i64)) w A0_2 l0_2.length l0_2) (hc0_2 : l0_2.length ≤ c0_2) (hr0_3 : Kd.C (Kd.int .i64) w A0_3 l0_3.length l0_3) (hc0_3 : l0_3.length ≤ c0_3) (hr0_4 : Kd.C (Kd.int .i64) w A0_4 l0_4.length l0_4) (hc0_4 : l0_4.length ≤ c0_4) (h : impl_Board_hasSigned.f k a0_0 a0_1 l0_2 l0_3 l0_4 a1 a2 a3 = some r) :
  Calls Try.prog 225 #[.agg #[.int .i64 a0_0, .int .i64 a0_1, .slice A0_2 l0_2.length c0_2, .slice A0_3 l0_3.length c0_3, .slice A0_4 l0_4.length c0_4], .int .i64 a1, .int .i64 a2, .int .i64 a3] w fun e w' => e = .returned (.bool r) ∧ Below w.heap.size w w' := by
 have hu47 := Try.underlying47
 have HR0_2 := Aside0.mk hr0_2; have HC0_2 := Aside0.mk hc0_2; clear hr0_2 hc0_2; have HR0_3 := Aside0.mk hr0_3; have HC0_3 := Aside0.mk hc0_3; clear hr0_3 hc0_3; have HR0_4 := Aside0.mk hr0_4; have HC0_4 := Aside0.mk hc0_4; clear hr0_4 hc0_4
 have HB := Aside0.mk (Below.refl w.heap.size w)
 have H : ((slices_ContainsFunc_226_at_239_3_3_3.f k l0_2 a1 a2 a3).bind fun t348 => (some t348)) = some r := h
 clear h; replace H := bS H; obtain ⟨t348, A5, H⟩ := H
 replace H : (some t348) = some r := H
 obtain rfl := Option.some.inj H
 go_enter Try.func225, Try.ntmps225
 go_wp2_with (first | ((with_reducible refine gate_dst (N := 4) rfl ?_); refine boxev 4 #[.int .i64 a0_0, .int .i64 a0_1, .slice A0_2 l0_2.length c0_2, .slice A0_3 l0_3.length c0_3, .slice A0_4 l0_4.length c0_4] 47 ?_; intro gb344 hg w6 hbox hb; have BK344 := ak (hbox); have GW344 := ak (hgl hg (belowd HB)); have GE344 := ak (hgl hg (belowd HB)); replace HB := ak (below_step (belowd HB) hb); clear hb hbox hg) | ((with_reducible refine gate_dst (N := 5) rfl ?_); refine boxev 5 #[.int .i64 a1] 3 ?_; intro gb345 hg w7 hbox hb; have BK345 := ak (hbox); have GW345 := ak (hgl hg (belowg1 HB GE344)); have GE345 := ak (hgl hg (belowg1 HB GE344)); replace HB := ak (below_step (belowg1 HB GE344) hb); have NB344_345 := ak ((by rw [hg]; exact Nat.ne_of_lt (blk_lt (blkd BK344)) : gb344 ≠ gb345)); have NB345_344 := ak ((by rw [hg]; exact Nat.ne_of_gt (blk_lt (blkd BK344)) : gb345 ≠ gb344)); replace BK344 := ak (blk_below (blkd BK344) hb); clear hb hbox hg) | ((with_reducible refine gate_dst (N := 6) rfl ?_); refine boxev 6 #[.int .i64 a2] 3 ?_; intro gb346 hg w8 hbox hb; have BK346 := ak (hbox); have GW346 := ak (hgl hg (belowg2 HB GE344 GE345)); have GE346 := ak (hgl hg (belowg2 HB GE344 GE345)); replace HB := ak (below_step (belowg2 HB GE344 GE345) hb); have NB344_346 := ak ((by rw [hg]; exact Nat.ne_of_lt (blk_lt (blkd BK344)) : gb344 ≠ gb346)); have NB346_344 := ak ((by rw [hg]; exact Nat.ne_of_gt (blk_lt (blkd BK344)) : gb346 ≠ gb344)); replace BK344 := ak (blk_below (blkd BK344) hb); have NB345_346 := ak ((by rw [hg]; exact Nat.ne_of_lt (blk_lt (blkd BK345)) : gb345 ≠ gb346)); have NB346_345 := ak ((by rw [hg]; exact Nat.ne_of_gt (blk_lt (blkd BK345)) : gb346 ≠ gb345)); replace BK345 := ak (blk_below (blkd BK345) hb); clear hb hbox hg) | ((with_reducible refine gate_dst (N := 7) rfl ?_); refine boxev 7 #[.int .i64 a3] 3 ?_; intro gb347 hg w9 hbox hb; have BK347 := ak (hbox); have GW347 := ak (hgl hg (belowg3 HB GE344 GE345 GE346)); have GE347 := ak (hgl hg (belowg3 HB GE344 GE345 GE346)); replace HB := ak (below_step (belowg3 HB GE344 GE345 GE346) hb); have NB344_347 := ak ((by rw [hg]; exact Nat.ne_of_lt (blk_lt (blkd BK344)) : gb344 ≠ gb347)); have NB347_344 := ak ((by rw [hg]; exact Nat.ne_of_gt (blk_lt (blkd BK344)) : gb347 ≠ gb344)); replace BK344 := ak (blk_below (blkd BK344) hb); have NB345_347 := ak ((by rw [hg]; exact Nat.ne_of_lt (blk_lt (blkd BK345)) : gb345 ≠ gb347)); have NB347_345 := ak ((by rw [hg]; exact Nat.ne_of_gt (blk_lt (blkd BK345)) : gb347 ≠ gb345)); replace BK345 := ak (blk_below (blkd BK345) hb); have NB346_347 := ak ((by rw [hg]; exact Nat.ne_of_lt (blk_lt (blkd BK346)) : gb346 ≠ gb347)); have NB347_346 := ak ((by rw [hg]; exact Nat.ne_of_gt (blk_lt (blkd BK346)) : gb347 ≠ gb346)); replace BK346 := ak (blk_below (blkd BK346) hb); clear hb hbox hg; have hnb10 := NB344_345.out; have hnc10 := NB345_344.out; have hnb11 := NB344_346.out; have hnc11 := NB346_344.out; have hnb12 := NB344_347.out; have hnc12 := NB347_344.out; obtain ⟨hcz13_0, hcz13_1, hcz13_2, hcz13_3, hcz13_4, hfz13_0, hfz13_1, hfz13_2, hfz13_3, hfz13_4⟩ := box5 BK344) | ((with_reducible refine gate_callee (f := 226) rfl ?_); refine goesLa (some 12) rfl Try.func226 #[.slice A0_2 l0_2.length c0_2, .func (.func 239) #[] #[.pointer (some ⟨gb345, 0, none⟩), .pointer (some ⟨gb346, 0, none⟩), .pointer (some ⟨gb347, 0, none⟩)]] rfl ?_; (with_reducible refine (slices_ContainsFunc_226_at_239_3_3_3.calls k _ _ l0_2 gb345 gb346 gb347 a1 a2 a3 t348 _ ?side1 ?side2 ?side3 ?side4 ?side5 A5.out).mono ?_); (case side3 => exact (blkd BK345)); (case side4 => exact (blkd BK346)); (case side5 => exact (blkd BK347)); (case side1 => exact cd (Kd.C_below HR0_2.out HB.out)); (case side2 => exact HC0_2.out); rintro e w' ⟨rfl, ⟨nd, rfl⟩⟩; refine ⟨_, rfl, ?_⟩))
 go_ret
 exact ⟨er2, belowg4 HB GE344 GE345 GE346 GE347⟩

-- NOT PRINTED: function 227 (impl_Board_sign_1)

-- NOT PRINTED: function 987650003 (slices_IndexFunc_240_at_227_210_3)

-- NOT PRINTED: function 987650002 (slices_ContainsFunc_226_at_227_210_3)

-- NOT PRINTED: function 191 (impl_Board_sign)

-- NOT PRINTED: function 119 (impl_Board_step)

end Go.Proofs.Ytkgogglnipdcfaa.QFnBoard
