-- printed by this session's own program (wip/tools/pp.py: the kit's print.py with changes); Lean checks it
import Derived.Test.YtkgogglnipdcfaaQFnScoresx0
import Derived.Test.YtkgogglnipdcfaaQFnScoresx4
import Derived.Test.YtkgogglnipdcfaaQFnScoresx8
import Derived.Test.YtkgogglnipdcfaaQFnScoresx9
namespace Go.Proofs.Ytkgogglnipdcfaa.QFnScores
open Go.RowKit Go.Proofs.YtkgogglnipdcfaaW.PrintWords Go.Proofs.YtkgogglnipdcfaaW.PrintLast Go.Proofs.YtkgogglnipdcfaaW.PrintMore
attribute [local go_sem] max2_int min2_int max_two min_two max_three min_three max_four min_four strLss strGtr strLeq strGeq   -- for this text's walks alone
set_option linter.unusedVariables false
set_option linter.unusedSimpArgs false

/-! ### spec_l1Cur_tallies: function 164 -/
mutual
def spec_l1Cur_tallies.j0 : Nat → List (S110) → Int → List Int → Int → Int → Option ((List (S110)) × Int × Int)
  | 0, _, _, _, _, _ => none
  | k + 1, x3, x4, x1000, x1001, x1002 => spec_l1Cur_tallies.l0 k x3 x4 0 x1000 x1001 x1002
def spec_l1Cur_tallies.l0 : Nat → List (S110) → Int → Int → List Int → Int → Int → Option ((List (S110)) × Int × Int)
  | 0, _, _, _, _, _, _ => none
  | k + 1, x3, x4, x5, x1000, x1001, x1002 => if x5 < x4 then ((spec_l1Cur_pick.f x1000 x1001 x1002 9).bind fun bt466 => ((spec_l1Cur_pick.f x1000 bt466.2.1 bt466.2.2 4).bind fun bt469 => (if x3.length < 5864062014805 then (spec_l1Cur_tallies.l0 k (x3 ++ [(⟨x5, bt466.1, bt469.1⟩ : S110)]) x4 (wrap64 (x5 + 1)) x1000 bt469.2.1 bt469.2.2) else (none)))) else (if (x3.length : Int) > 0 then ((spec_l1Cur_one.f x1000 x1001 x1002 20).bind fun bt475 => (spec_l1Cur_tallies.j2 k x3 bt475.1 x1000 bt475.2.1 bt475.2.2)) else (spec_l1Cur_tallies.j2 k x3 false x1000 x1001 x1002))
def spec_l1Cur_tallies.j2 : Nat → List (S110) → Bool → List Int → Int → Int → Option ((List (S110)) × Int × Int)
  | 0, _, _, _, _, _ => none
  | k + 1, x3, x34, x1000, x1001, x1002 => if x34 = true then ((spec_l1Cur_pick.f x1000 x1001 x1002 2).bind fun bt478 => ((spec_l1Cur_among.f x1000 bt478.2.1 bt478.2.2 (([0, 100, 101] : List Int))).bind fun bt484 => ((spec_l1Cur_among.f x1000 bt484.2.1 bt484.2.2 (([(-1), 0, 100] : List Int))).bind fun bt490 => (if 0 < (x3.length : Int) then (some ((x3.set (0 : Int).toNat (⟨bt478.1, bt484.1, bt490.1⟩ : S110)), bt490.2.1, bt490.2.2)) else (none))))) else (some (x3, x1001, x1002))
end
def spec_l1Cur_tallies.f (k : Nat) (s0_0 : List Int) (s0_1 : Int) (s0_2 : Int) : Option ((List (S110)) × Int × Int) := (spec_l1Cur_pick.f s0_0 s0_1 s0_2 8).bind fun bt454 => ((spec_l1Cur_one.f s0_0 bt454.2.1 bt454.2.2 20).bind fun bt457 => (if bt457.1 = true then ((spec_l1Cur_among.f s0_0 bt457.2.1 bt457.2.2 (([0, 12, 13] : List Int))).bind fun bt463 => (spec_l1Cur_tallies.j0 k ([] : List (S110)) bt463.1 s0_0 bt463.2.1 bt463.2.2)) else (spec_l1Cur_tallies.j0 k ([] : List (S110)) (wrap64 (1 + bt454.1)) s0_0 bt457.2.1 bt457.2.2)))
theorem spec_l1Cur_tallies.mono_l : ∀ k, (∀ y0 y1 y2 y3 y4, LeO (spec_l1Cur_tallies.j0 k y0 y1 y2 y3 y4) (spec_l1Cur_tallies.j0 (k + 1) y0 y1 y2 y3 y4)) ∧ (∀ y0 y1 y2 y3 y4 y5, LeO (spec_l1Cur_tallies.l0 k y0 y1 y2 y3 y4 y5) (spec_l1Cur_tallies.l0 (k + 1) y0 y1 y2 y3 y4 y5)) ∧ (∀ y0 y1 y2 y3 y4, LeO (spec_l1Cur_tallies.j2 k y0 y1 y2 y3 y4) (spec_l1Cur_tallies.j2 (k + 1) y0 y1 y2 y3 y4))
 | 0 => ⟨fun _ _ _ _ _ r h => by simp [spec_l1Cur_tallies.j0] at h, fun _ _ _ _ _ _ r h => by simp [spec_l1Cur_tallies.l0] at h, fun _ _ _ _ _ r h => by simp [spec_l1Cur_tallies.j2] at h⟩
 | k + 1 => by
  obtain ⟨ih0, ih1, ih2⟩ := spec_l1Cur_tallies.mono_l k
  refine ⟨?_, ?_, ?_⟩
  ·intro y0 y1 y2 y3 y4
   unfold spec_l1Cur_tallies.j0
   repeat' (first | (with_reducible first | exact ih0 _ _ _ _ _ | exact ih1 _ _ _ _ _ _ | exact ih2 _ _ _ _ _ | exact LeO.refl _ | exact LeO.none _ | refine LeO.ite ?_ ?_ | refine LeO.bind ?_ (fun _ => ?_)) | exact ih0 _ _ _ _ _ | exact ih1 _ _ _ _ _ _ | exact ih2 _ _ _ _ _ | exact LeO.none _ | refine LeO.ite ?_ ?_ | refine LeO.bind ?_ (fun _ => ?_))
  ·intro y0 y1 y2 y3 y4 y5
   unfold spec_l1Cur_tallies.l0
   repeat' (first | (with_reducible first | exact ih0 _ _ _ _ _ | exact ih1 _ _ _ _ _ _ | exact ih2 _ _ _ _ _ | exact LeO.refl _ | exact LeO.none _ | refine LeO.ite ?_ ?_ | refine LeO.bind ?_ (fun _ => ?_)) | exact ih0 _ _ _ _ _ | exact ih1 _ _ _ _ _ _ | exact ih2 _ _ _ _ _ | exact LeO.none _ | refine LeO.ite ?_ ?_ | refine LeO.bind ?_ (fun _ => ?_))
  ·intro y0 y1 y2 y3 y4
   unfold spec_l1Cur_tallies.j2
   repeat' (first | (with_reducible first | exact ih0 _ _ _ _ _ | exact ih1 _ _ _ _ _ _ | exact ih2 _ _ _ _ _ | exact LeO.refl _ | exact LeO.none _ | refine LeO.ite ?_ ?_ | refine LeO.bind ?_ (fun _ => ?_)) | exact ih0 _ _ _ _ _ | exact ih1 _ _ _ _ _ _ | exact ih2 _ _ _ _ _ | exact LeO.none _ | refine LeO.ite ?_ ?_ | refine LeO.bind ?_ (fun _ => ?_))
theorem spec_l1Cur_tallies.mono : ∀ a0 a1 a2 k, LeO (spec_l1Cur_tallies.f k a0 a1 a2) (spec_l1Cur_tallies.f (k + 1) a0 a1 a2) := by
 intro a0 a1 a2 k
 obtain ⟨ih0, ih1, ih2⟩ := spec_l1Cur_tallies.mono_l k
 unfold spec_l1Cur_tallies.f
 repeat' (first | (with_reducible first | exact ih0 _ _ _ _ _ | exact ih1 _ _ _ _ _ _ | exact ih2 _ _ _ _ _ | exact LeO.refl _ | exact LeO.none _ | refine LeO.ite ?_ ?_ | refine LeO.bind ?_ (fun _ => ?_)) | exact ih0 _ _ _ _ _ | exact ih1 _ _ _ _ _ _ | exact ih2 _ _ _ _ _ | exact LeO.none _ | refine LeO.ite ?_ ?_ | refine LeO.bind ?_ (fun _ => ?_))
set_option maxHeartbeats 8000000 in
set_option maxRecDepth 100000 in
theorem spec_l1Cur_tallies.calls (k : Nat) (g : Nat) (s0_0 : List Int) (s0_1 : Int) (s0_2 : Int) (r1 : List (S110)) (r2 : Int) (r3 : Int) (w0 w : World) (hI : IsS151 w0 w g s0_0 s0_1 s0_2) (hB : Below w0.heap.size w0 w) (h : spec_l1Cur_tallies.f k s0_0 s0_1 s0_2 = some (r1, r2, r3)) :
  Calls Try.prog 164 #[.pointer (some ⟨g, 0, none⟩)] w fun e w' => ∃ v0_ : Value, e = .returned (v0_) ∧ Kd.R k110 110 w' w.heap.size (fun _ => True) v0_ r1 ∧ IsS151 w0 w' g s0_0 r2 r3 ∧ Below w0.heap.size w0 w' ∧ KeepBut w w' g none := by
 have hu110 := Try.underlying110
 have HI0 := Aside0.mk hI
 have HK := Aside0.mk (KeepBut.refl w g none)
 have HL := Aside0.mk hB.size
 clear hI
 have HW0 := Aside0.mk hB.size
 have HB := Aside0.mk hB; clear hB
 have H : ((spec_l1Cur_pick.f s0_0 s0_1 s0_2 8).bind fun bt454 => ((spec_l1Cur_one.f s0_0 bt454.2.1 bt454.2.2 20).bind fun bt457 => (if bt457.1 = true then ((spec_l1Cur_among.f s0_0 bt457.2.1 bt457.2.2 (([0, 12, 13] : List Int))).bind fun bt463 => (spec_l1Cur_tallies.j0 k ([] : List (S110)) bt463.1 s0_0 bt463.2.1 bt463.2.2)) else (spec_l1Cur_tallies.j0 k ([] : List (S110)) (wrap64 (1 + bt454.1)) s0_0 bt457.2.1 bt457.2.2)))) = some (r1, r2, r3) := h
 clear h; replace H := bS H; obtain ⟨⟨t454, t455, t456⟩, A2, H⟩ := H
 replace H : ((spec_l1Cur_one.f s0_0 t455 t456 20).bind fun bt457 => (if bt457.1 = true then ((spec_l1Cur_among.f s0_0 bt457.2.1 bt457.2.2 (([0, 12, 13] : List Int))).bind fun bt463 => (spec_l1Cur_tallies.j0 k ([] : List (S110)) bt463.1 s0_0 bt463.2.1 bt463.2.2)) else (spec_l1Cur_tallies.j0 k ([] : List (S110)) (wrap64 (1 + t454)) s0_0 bt457.2.1 bt457.2.2))) = some (r1, r2, r3) := H
 replace H := bS H; obtain ⟨⟨t457, t458, t459⟩, A3, H⟩ := H
 replace H : (if t457 = true then ((spec_l1Cur_among.f s0_0 t458 t459 (([0, 12, 13] : List Int))).bind fun bt463 => (spec_l1Cur_tallies.j0 k ([] : List (S110)) bt463.1 s0_0 bt463.2.1 bt463.2.2)) else (spec_l1Cur_tallies.j0 k ([] : List (S110)) (wrap64 (1 + t454)) s0_0 t458 t459)) = some (r1, r2, r3) := H
 have HC4 := Aside0.mk H; clear H
 go_enter Try.func164, Try.ntmps164
 go_upto_if 10 with (first | ((with_reducible refine gate_callee (f := 147) rfl ?_); refine goesLa (some 7) rfl Try.func147 #[.pointer (some ⟨g, 0, none⟩), .int .i64 8] rfl ?_; (with_reducible refine (spec_l1Cur_pick.calls g s0_0 s0_1 s0_2 8 t454 t455 t456 w0 _ ?side1 ?side2 A2.out).mono ?_); (case side1 => repeat (first | (with_reducible first | exact HI0.out | apply IsS151.alloc | apply IsS151.drewN | apply IsS151.drew | apply IsS151.set_1 | apply IsS151.set_2) | exact HI0.out)); (case side2 => repeat (first | (with_reducible first | exact HB.out | apply below_alloc | apply pw_below_drewN | apply below_drew1 | refine below_set ?_ (IsS151.ge HI0.out)) | exact HB.out)); rintro e w5 ⟨rfl, hi, hb, hk⟩; refine ⟨_, rfl, ?_⟩; replace HK := ak (KeepBut.trans (by repeat (first | (with_reducible first | exact HK.out | apply KeepBut.set_ | apply keep_drewN | apply keep_drew | apply keep_alloc) | exact HK.out)) hk (.inl rfl)); replace HB := ak (hb); replace HI0 := ak (hi); (try clear hb); (try clear hk); (try clear hi)) | ((with_reducible refine gate_callee (f := 149) rfl ?_); refine goesLa (some 10) rfl Try.func149 #[.pointer (some ⟨g, 0, none⟩), .int .i64 20] rfl ?_; (with_reducible refine (spec_l1Cur_one.calls g s0_0 t455 t456 20 t457 t458 t459 w0 _ ?side1 ?side2 A3.out).mono ?_); (case side1 => repeat (first | (with_reducible first | exact HI0.out | apply IsS151.alloc | apply IsS151.drewN | apply IsS151.drew | apply IsS151.set_1 | apply IsS151.set_2) | exact HI0.out)); (case side2 => repeat (first | (with_reducible first | exact HB.out | apply below_alloc | apply pw_below_drewN | apply below_drew1 | refine below_set ?_ (IsS151.ge HI0.out)) | exact HB.out)); rintro e w6 ⟨rfl, hi, hb, hk⟩; refine ⟨_, rfl, ?_⟩; replace HK := ak (KeepBut.trans (by repeat (first | (with_reducible first | exact HK.out | apply KeepBut.set_ | apply keep_drewN | apply keep_drew | apply keep_alloc) | exact HK.out)) hk (.inl rfl)); replace HB := ak (hb); replace HI0 := ak (hi); (try clear hb); (try clear hk); (try clear hi)))
 (try simp only [Act.put, List.setIfInBounds_toArray, List.set_cons_zero, List.set_cons_succ])
 go_cut [4] (fun v4 wc => ∃ (kq : Nat) (x4_3 : Int) (x1001_3 : Int) (x1002_3 : Int), v4 = .int .i64 x4_3 ∧ Aside0 (spec_l1Cur_tallies.j0 kq ([] : List (S110)) x4_3 s0_0 x1001_3 x1002_3 = some (r1, r2, r3)) ∧ Aside0 (kq ≤ k) ∧ Aside0 (Kd.R k110 110 wc w.heap.size (fun _ => True) (.slice none 0 0) ([] : List (S110))) ∧ Aside0 (IsS151 w0 wc g s0_0 x1001_3 x1002_3) ∧ Aside0 (KeepBut w wc g none) ∧ Aside0 (Below w0.heap.size w0 wc))
 case first =>
  have H := HC4.out; clear HC4
  by_cases c7 : t457 = true
  ·subst c7
   have H1 : ((spec_l1Cur_among.f s0_0 t458 t459 (([0, 12, 13] : List Int))).bind fun bt463 => (spec_l1Cur_tallies.j0 k ([] : List (S110)) bt463.1 s0_0 bt463.2.1 bt463.2.2)) = some (r1, r2, r3) := by rw [if_pos rfl] at H; exact H
   clear H
   have H := H1
   clear H1
   obtain ⟨y460, hy_⟩ : ∃ y_ : List Int, y_ = (([0, 12, 13] : List Int)) := ⟨_, rfl⟩
   replace H : ((spec_l1Cur_among.f s0_0 t458 t459 y460).bind fun bt463 => (spec_l1Cur_tallies.j0 k ([] : List (S110)) bt463.1 s0_0 bt463.2.1 bt463.2.2)) = some (r1, r2, r3) := yH
   have Ny460 := ak hy_; clear hy_; replace H := bS H; obtain ⟨⟨t463, t464, t465⟩, A8, H⟩ := H
   replace H : (spec_l1Cur_tallies.j0 k ([] : List (S110)) t463 s0_0 t464 t465) = some (r1, r2, r3) := H
   have H' := Aside0.mk H
   clear H
   go_wp2_with (first | ((with_reducible refine gate_dst (N := 12) rfl ?_); refine Kd.R_lit (Kd.int .i64) _ 3 ?hg (N := 12) ?hd (xs := ([0, 12, 13] : List Int)) (inner := [.int .i64 0, .int .i64 12, .int .i64 13]) (ok := fun _ => True) (okp := fun _ => True) ?hr ?hp (fun _ hk => hk) trivial (Below.refl _ _) (Nat.le_refl _) (by simp) ?_; (case hd => rfl); (case hg => rfl); (case hr => first | (go_simp; done) | (go_simp; rfl)); (case hp => exact (Reps.one (show Kd.M (Kd.int .i64) _ _ _ 0 [.int .i64 0] from rfl) (Reps.one (show Kd.M (Kd.int .i64) _ _ _ 12 [.int .i64 12] from rfl) (Reps.one (show Kd.M (Kd.int .i64) _ _ _ 13 [.int .i64 13] from rfl) (Reps.none _ _))))); intro v461 w9 ho10 hb hg_ hnew_; clear hg_ hnew_; (first | rw [← Ny460.out] at ho10 | (simp only [Int.reduceToNat] at ho10; rw [← Ny460.out] at ho10)); have HO462 := ak (Kd.R_lower ho10 (keep_size (w := w) (g := g) (row := none) (by repeat (first | (with_reducible first | exact HK.out | apply KeepBut.set_ | apply keep_drewN | apply keep_drew | apply keep_alloc) | exact HK.out)))); replace HK := ak (KeepBut.trans (by repeat (first | (with_reducible first | exact HK.out | apply KeepBut.set_ | apply keep_drewN | apply keep_drew | apply keep_alloc) | exact HK.out)) (KeepBut.of_below hb g none) (.inl rfl)); replace HB := ak (below_step (by repeat (first | (with_reducible first | exact HB.out | apply below_alloc | apply pw_below_drewN | apply below_drew1 | refine below_set ?_ (IsS151.ge HI0.out)) | exact HB.out)) hb); replace HI0 := ak (IsS151.below (by repeat (first | (with_reducible first | exact HI0.out | apply IsS151.alloc | apply IsS151.drewN | apply IsS151.drew | apply IsS151.set_1 | apply IsS151.set_2) | exact HI0.out)) hb); clear hb ho10; obtain ⟨Ao11, co11, eo11⟩ := Kd.R_slice HO462.out; subst eo11) | ((with_reducible refine gate_callee (f := 166) rfl ?_); refine goesLa (some 13) rfl Try.func166 #[.pointer (some ⟨g, 0, none⟩), .slice Ao11 y460.length co11] rfl ?_; (with_reducible refine (spec_l1Cur_among.calls g s0_0 t458 t459 _ _ y460 t463 t464 t465 w0 _ ?side1 ?side2 ?side3 ?side4 ?side5 A8.out).mono ?_); (case side1 => repeat (first | (with_reducible first | exact HI0.out | apply IsS151.alloc | apply IsS151.drewN | apply IsS151.drew | apply IsS151.set_1 | apply IsS151.set_2) | exact HI0.out)); (case side2 => repeat (first | (with_reducible first | exact HB.out | apply below_alloc | apply pw_below_drewN | apply below_drew1 | refine below_set ?_ (IsS151.ge HI0.out)) | exact HB.out)); (case side3 => exact cd (Kd.R_reads' HO462.out).2.2); (case side4 => exact (Kd.R_reads' HO462.out).2.1); (case side5 => exact far_slice (IsS151.own_ne HI0.out HO462.out (by decide))); rintro e w12 ⟨rfl, hi, hb, hk⟩; refine ⟨_, rfl, ?_⟩; replace HO462 := ak (Kd.R_mono (Kd.R_keep (IsS151.apart (show IsS151 w0 _ g s0_0 t458 t459 from by repeat (first | (with_reducible first | exact HI0.out | apply IsS151.alloc | apply IsS151.drewN | apply IsS151.drew | apply IsS151.set_1 | apply IsS151.set_2) | exact HI0.out)) (rdl HO462) (by decide)) hk (fun _ h => h.2)) (fun _ h => h.1)); replace HK := ak (KeepBut.trans (by repeat (first | (with_reducible first | exact HK.out | apply KeepBut.set_ | apply keep_drewN | apply keep_drew | apply keep_alloc) | exact HK.out)) hk (.inl rfl)); replace HB := ak (hb); replace HI0 := ak (hi); (try clear hb); (try clear hk); (try clear hi)))
   go_meet
   case rel => exact ⟨_, (t463), (t464), (t465), er, H', ⟨by first | omega | exact Nat.le_refl _⟩, ⟨by first | exact Kd.R_nil _ _ _ _ _ | exact Kd.N_nil _ _ _ _ _ | exact Kd.V_nil _ _ _ _ _ | exact Kd.Q_nil _ _ _ _ _ | exact Kd.S_nil _ _ _ _ _⟩, ⟨by repeat (first | (with_reducible first | exact HI0.out | apply IsS151.alloc | apply IsS151.drewN | apply IsS151.drew | apply IsS151.set_1 | apply IsS151.set_2) | exact HI0.out)⟩, ⟨by repeat (first | (with_reducible first | exact HK.out | apply KeepBut.set_ | apply keep_drewN | apply keep_drew | apply keep_alloc) | exact HK.out)⟩, ⟨by repeat (first | (with_reducible first | exact HB.out | apply below_alloc | apply pw_below_drewN | apply below_drew1 | refine below_set ?_ (IsS151.ge HI0.out)) | exact HB.out)⟩⟩
  ·replace c7 := Bool.eq_false_iff.mpr c7
   subst c7
   have H1 : (spec_l1Cur_tallies.j0 k ([] : List (S110)) (wrap64 (1 + t454)) s0_0 t458 t459) = some (r1, r2, r3) := by rw [if_neg (show ¬ (false = true) by decide)] at H; exact H
   clear H
   have H := H1
   clear H1
   have H' := Aside0.mk H
   clear H; go_wp2
   go_meet
   case rel => exact ⟨_, (wrap64 (1 + t454)), (t458), (t459), er, H', ⟨by first | omega | exact Nat.le_refl _⟩, ⟨by first | exact Kd.R_nil _ _ _ _ _ | exact Kd.N_nil _ _ _ _ _ | exact Kd.V_nil _ _ _ _ _ | exact Kd.Q_nil _ _ _ _ _ | exact Kd.S_nil _ _ _ _ _⟩, ⟨by repeat (first | (with_reducible first | exact HI0.out | apply IsS151.alloc | apply IsS151.drewN | apply IsS151.drew | apply IsS151.set_1 | apply IsS151.set_2) | exact HI0.out)⟩, ⟨by repeat (first | (with_reducible first | exact HK.out | apply KeepBut.set_ | apply keep_drewN | apply keep_drew | apply keep_alloc) | exact HK.out)⟩, ⟨by repeat (first | (with_reducible first | exact HB.out | apply below_alloc | apply pw_below_drewN | apply below_drew1 | refine below_set ?_ (IsS151.ge HI0.out)) | exact HB.out)⟩⟩
 case rest =>
  clear HC4
  obtain ⟨kq, x4_3, x1001_3, x1002_3, rfl, HA, HJ3, HO_3, HI0, HK, HB⟩ := hcut
  cases kq with
  | zero => exact absurd HA.out (by simp [spec_l1Cur_tallies.j0])
  | succ kj3 =>
   have H := HA.out; clear HA
   simp only [spec_l1Cur_tallies.j0] at H
   have H' := Aside0.mk H
   clear H; go_wp2
   go_loopg [3, 5] kj3 (fun kq v3 v5 w' => ∃ (x3_2 : List (S110)) (x5_2 : Int) (x1001_2 : Int) (x1002_2 : Int), v5 = .int .i64 x5_2 ∧ Aside0 (spec_l1Cur_tallies.l0 kq x3_2 x4_3 x5_2 s0_0 x1001_2 x1002_2 = some (r1, r2, r3)) ∧ Aside0 (kq ≤ kj3) ∧ Aside0 (Kd.R k110 110 w' w.heap.size (fun _ => True) v3 x3_2) ∧ Aside0 (IsS151 w0 w' g s0_0 x1001_2 x1002_2) ∧ Aside0 (KeepBut w w' g none) ∧ Aside0 (Below w0.heap.size w0 w'))
   case atStart => exact ⟨(([] : List (S110))), (0), (x1001_3), (x1002_3), er, H', ⟨Nat.le_refl _⟩, ⟨rdl HO_3⟩, ⟨by repeat (first | (with_reducible first | exact HI0.out | apply IsS151.alloc | apply IsS151.drewN | apply IsS151.drew | apply IsS151.set_1 | apply IsS151.set_2) | exact HI0.out)⟩, ⟨by repeat (first | (with_reducible first | exact HK.out | apply KeepBut.set_ | apply keep_drewN | apply keep_drew | apply keep_alloc) | exact HK.out)⟩, ⟨by repeat (first | (with_reducible first | exact HB.out | apply below_alloc | apply pw_below_drewN | apply below_drew1 | refine below_set ?_ (IsS151.ge HI0.out)) | exact HB.out)⟩⟩
   case round =>
    clear H'
    obtain ⟨x3_2, x5_2, x1001_2, x1002_2, rfl, HA, HK2, HO_3, HI0, HK, HB⟩ := hrel
    cases gk with
    | zero => exact absurd HA.out (by simp [spec_l1Cur_tallies.l0])
    | succ k2 =>
     have H := HA.out; clear HA
     simp only [spec_l1Cur_tallies.l0] at H
     by_cases c13 : x5_2 < x4_3
     ·rw [if_pos c13] at H
      have c13b0 : decide (x5_2 < x4_3) = true := decide_eq_true c13
      clear c13; replace H := bS H; obtain ⟨⟨t466, t467, t468⟩, A14, H⟩ := H
      replace H : ((spec_l1Cur_pick.f s0_0 t467 t468 4).bind fun bt469 => (if x3_2.length < 5864062014805 then (spec_l1Cur_tallies.l0 k2 (x3_2 ++ [(⟨x5_2, t466, bt469.1⟩ : S110)]) x4_3 (wrap64 (x5_2 + 1)) s0_0 bt469.2.1 bt469.2.2) else (none))) = some (r1, r2, r3) := H
      replace H := bS H; obtain ⟨⟨t469, t470, t471⟩, A15, H⟩ := H
      replace H : (if x3_2.length < 5864062014805 then (spec_l1Cur_tallies.l0 k2 (x3_2 ++ [(⟨x5_2, t466, t469⟩ : S110)]) x4_3 (wrap64 (x5_2 + 1)) s0_0 t470 t471) else (none)) = some (r1, r2, r3) := H
      replace H := ifS H; obtain ⟨c16, H⟩ := H; have LMc16 := Aside0.mk c16; clear c16
      obtain ⟨y472, hy_⟩ : ∃ y_ : List (S110), y_ = (x3_2 ++ [(⟨x5_2, t466, t469⟩ : S110)]) := ⟨_, rfl⟩
      replace H : (spec_l1Cur_tallies.l0 k2 y472 x4_3 (wrap64 (x5_2 + 1)) s0_0 t470 t471) = some (r1, r2, r3) := yH
      have Ny472 := ak hy_; clear hy_
      have H' := Aside0.mk H
      clear H
      go_wp2_with (first | ((with_reducible refine gate_callee (f := 147) rfl ?_); refine goesLa (some 22) rfl Try.func147 #[.pointer (some ⟨g, 0, none⟩), .int .i64 9] rfl ?_; (with_reducible refine (spec_l1Cur_pick.calls g s0_0 x1001_2 x1002_2 9 t466 t467 t468 w0 _ ?side1 ?side2 A14.out).mono ?_); (case side1 => repeat (first | (with_reducible first | exact HI0.out | apply IsS151.alloc | apply IsS151.drewN | apply IsS151.drew | apply IsS151.set_1 | apply IsS151.set_2) | exact HI0.out)); (case side2 => repeat (first | (with_reducible first | exact HB.out | apply below_alloc | apply pw_below_drewN | apply below_drew1 | refine below_set ?_ (IsS151.ge HI0.out)) | exact HB.out)); rintro e w17 ⟨rfl, hi, hb, hk⟩; refine ⟨_, rfl, ?_⟩; replace HO_3 := ak (Kd.R_mono (Kd.R_keep (IsS151.apart (show IsS151 w0 _ g s0_0 x1001_2 x1002_2 from by repeat (first | (with_reducible first | exact HI0.out | apply IsS151.alloc | apply IsS151.drewN | apply IsS151.drew | apply IsS151.set_1 | apply IsS151.set_2) | exact HI0.out)) (rdl HO_3) (by decide)) hk (fun _ h => h.2)) (fun _ h => h.1)); replace HK := ak (KeepBut.trans (by repeat (first | (with_reducible first | exact HK.out | apply KeepBut.set_ | apply keep_drewN | apply keep_drew | apply keep_alloc) | exact HK.out)) hk (.inl rfl)); replace HB := ak (hb); replace HI0 := ak (hi); (try clear hb); (try clear hk); (try clear hi)) | ((with_reducible refine gate_callee (f := 147) rfl ?_); refine goesLa (some 24) rfl Try.func147 #[.pointer (some ⟨g, 0, none⟩), .int .i64 4] rfl ?_; (with_reducible refine (spec_l1Cur_pick.calls g s0_0 t467 t468 4 t469 t470 t471 w0 _ ?side1 ?side2 A15.out).mono ?_); (case side1 => repeat (first | (with_reducible first | exact HI0.out | apply IsS151.alloc | apply IsS151.drewN | apply IsS151.drew | apply IsS151.set_1 | apply IsS151.set_2) | exact HI0.out)); (case side2 => repeat (first | (with_reducible first | exact HB.out | apply below_alloc | apply pw_below_drewN | apply below_drew1 | refine below_set ?_ (IsS151.ge HI0.out)) | exact HB.out)); rintro e w18 ⟨rfl, hi, hb, hk⟩; refine ⟨_, rfl, ?_⟩; replace HO_3 := ak (Kd.R_mono (Kd.R_keep (IsS151.apart (show IsS151 w0 _ g s0_0 t467 t468 from by repeat (first | (with_reducible first | exact HI0.out | apply IsS151.alloc | apply IsS151.drewN | apply IsS151.drew | apply IsS151.set_1 | apply IsS151.set_2) | exact HI0.out)) (rdl HO_3) (by decide)) hk (fun _ h => h.2)) (fun _ h => h.1)); replace HK := ak (KeepBut.trans (by repeat (first | (with_reducible first | exact HK.out | apply KeepBut.set_ | apply keep_drewN | apply keep_drew | apply keep_alloc) | exact HK.out)) hk (.inl rfl)); replace HB := ak (hb); replace HI0 := ak (hi); (try clear hb); (try clear hk); (try clear hi)) | ((with_reducible refine gate_builtin (b := .append) (xs := #[.tmp 19, .tmp 26]) rfl ?_); at_builtin; refine Kd.R_append k110 w.heap.size rfl (.tmp 19) (.tmp 26) 99 110 (.agg #[(.int .i64 0), (.int .i64 0), (.int .i64 0)]) 24 rfl Try.underlying99 info110 rfl (by decide) (by omega) u3 x3_2 (⟨x5_2, t466, t469⟩ : S110) [.int .i64 x5_2, .int .i64 t466, .int .i64 t469] (fun _ => True) (fun _ => False) rfl rfl ?aP (fun _ hk => hk.elim) ?aF ?aO (Below.refl _ _) ?aS ?aL ?_; (case aP => exact k110_mkM _ _ _ (⟨x5_2, t466, t469⟩ : S110)); (case aF => exact (fun _ _ => trivial)); (case aO => exact (rdl HO_3)); (case aS => exact (keep_size (w := w) (g := g) (row := none) (by repeat (first | (with_reducible first | exact HK.out | apply KeepBut.set_ | apply keep_drewN | apply keep_drew | apply keep_alloc) | exact HK.out)))); (case aL => have := LMc16.out; omega); intro v473 w19 ho hb hg hat; rw [← Ny472.out] at ho; replace HB := ak (below_weaken (by repeat (first | (with_reducible first | exact HB.out | apply below_alloc | apply pw_below_drewN | apply below_drew1 | refine below_set ?_ (IsS151.ge HI0.out)) | exact HB.out)) HL.out hb); replace HI0 := ak (IsS151.grown (by repeat (first | (with_reducible first | exact HI0.out | apply IsS151.alloc | apply IsS151.drewN | apply IsS151.drew | apply IsS151.set_1 | apply IsS151.set_2) | exact HI0.out)) hg (IsS151.own_ne HI0.out HO_3.out (by decide))); replace HK := ak (KeepBut.trans (by repeat (first | (with_reducible first | exact HK.out | apply KeepBut.set_ | apply keep_drewN | apply keep_drew | apply keep_alloc) | exact HK.out)) (KeepBut.of_grown hg g) (Kd.R_base2 HO_3.out)); have HO474 := ak (ho); clear HO_3; clear ho hb hg hat))
      go_roundg k2
      case measure => have := HJ3.out; have := HK2.out; omega
      case rel => exact ⟨(y472), (wrap64 (x5_2 + 1)), (t470), (t471), er, H', ⟨by have := HJ3.out; have := HK2.out; omega⟩, ⟨rdl HO474⟩, ⟨by repeat (first | (with_reducible first | exact HI0.out | apply IsS151.alloc | apply IsS151.drewN | apply IsS151.drew | apply IsS151.set_1 | apply IsS151.set_2) | exact HI0.out)⟩, ⟨by repeat (first | (with_reducible first | exact HK.out | apply KeepBut.set_ | apply keep_drewN | apply keep_drew | apply keep_alloc) | exact HK.out)⟩, ⟨by repeat (first | (with_reducible first | exact HB.out | apply below_alloc | apply pw_below_drewN | apply below_drew1 | refine below_set ?_ (IsS151.ge HI0.out)) | exact HB.out)⟩⟩
     ·rw [if_neg c13] at H
      have c13b0 : decide (x5_2 < x4_3) = false := decide_eq_false c13
      clear c13; have HC20 := Aside0.mk H; clear H
      go_upto_region 9 with (fail)
      go_cut [34] (fun v34 wc => ∃ (kq : Nat) (x34_19 : Bool) (x1001_19 : Int) (x1002_19 : Int), v34 = .bool x34_19 ∧ Aside0 (spec_l1Cur_tallies.j2 kq x3_2 x34_19 s0_0 x1001_19 x1002_19 = some (r1, r2, r3)) ∧ Aside0 (kq ≤ k2) ∧ Aside0 (Kd.R k110 110 wc w.heap.size (fun _ => True) u3 x3_2) ∧ Aside0 (IsS151 w0 wc g s0_0 x1001_19 x1002_19) ∧ Aside0 (KeepBut w wc g none) ∧ Aside0 (Below w0.heap.size w0 wc))
      case first =>
       have H := HC20.out; clear HC20
       by_cases c21 : (x3_2.length : Int) > 0
       ·rw [if_pos c21] at H
        have c21b0 : decide (0 < (x3_2.length : Int)) = true := decide_eq_true c21
        have c21b1 : decide (0 < x3_2.length) = true := decide_eq_true (by omega)
        clear c21
        (first | rw [c21b0] | (simp only [i64_w, i32_w]; rw [c21b0]) | skip)
        replace H := bS H; obtain ⟨⟨t475, t476, t477⟩, A22, H⟩ := H
        replace H : (spec_l1Cur_tallies.j2 k2 x3_2 t475 s0_0 t476 t477) = some (r1, r2, r3) := H
        have H' := Aside0.mk H
        clear H
        obtain ⟨Ao23, co23, eo23⟩ := Kd.R_slice HO_3.out
        subst eo23
        go_wp2_with (first | (go_at_call 149; (with_reducible refine (spec_l1Cur_one.calls g s0_0 x1001_2 x1002_2 20 t475 t476 t477 w0 _ ?side1 ?side2 A22.out).mono ?_); (case side1 => repeat (first | (with_reducible first | exact HI0.out | apply IsS151.alloc | apply IsS151.drewN | apply IsS151.drew | apply IsS151.set_1 | apply IsS151.set_2) | exact HI0.out)); (case side2 => repeat (first | (with_reducible first | exact HB.out | apply below_alloc | apply pw_below_drewN | apply below_drew1 | refine below_set ?_ (IsS151.ge HI0.out)) | exact HB.out)); rintro e w24 ⟨rfl, hi, hb, hk⟩; replace HO_3 := ak (Kd.R_mono (Kd.R_keep (IsS151.apart (show IsS151 w0 _ g s0_0 x1001_2 x1002_2 from by repeat (first | (with_reducible first | exact HI0.out | apply IsS151.alloc | apply IsS151.drewN | apply IsS151.drew | apply IsS151.set_1 | apply IsS151.set_2) | exact HI0.out)) (rdl HO_3) (by decide)) hk (fun _ h => h.2)) (fun _ h => h.1)); replace HK := ak (KeepBut.trans (by repeat (first | (with_reducible first | exact HK.out | apply KeepBut.set_ | apply keep_drewN | apply keep_drew | apply keep_alloc) | exact HK.out)) hk (.inl rfl)); replace HB := ak (hb); replace HI0 := ak (hi); (try clear hb); (try clear hk); (try clear hi)))
        go_meet
        case rel => exact ⟨_, (t475), (t476), (t477), er, H', ⟨by have := HJ3.out; have := HK2.out; first | omega | exact Nat.le_refl _⟩, ⟨rdl HO_3⟩, ⟨by repeat (first | (with_reducible first | exact HI0.out | apply IsS151.alloc | apply IsS151.drewN | apply IsS151.drew | apply IsS151.set_1 | apply IsS151.set_2) | exact HI0.out)⟩, ⟨by repeat (first | (with_reducible first | exact HK.out | apply KeepBut.set_ | apply keep_drewN | apply keep_drew | apply keep_alloc) | exact HK.out)⟩, ⟨by repeat (first | (with_reducible first | exact HB.out | apply below_alloc | apply pw_below_drewN | apply below_drew1 | refine below_set ?_ (IsS151.ge HI0.out)) | exact HB.out)⟩⟩
       ·rw [if_neg c21] at H
        have c21b0 : decide (0 < (x3_2.length : Int)) = false := decide_eq_false c21
        have c21b1 : decide (0 < x3_2.length) = false := decide_eq_false (by omega)
        clear c21
        (first | rw [c21b0] | (simp only [i64_w, i32_w]; rw [c21b0]) | skip)
        have H' := Aside0.mk H
        clear H
        obtain ⟨Ao25, co25, eo25⟩ := Kd.R_slice HO_3.out
        subst eo25; go_wp2
        go_meet
        case rel => exact ⟨_, (false), (x1001_2), (x1002_2), er, H', ⟨by have := HJ3.out; have := HK2.out; first | omega | exact Nat.le_refl _⟩, ⟨rdl HO_3⟩, ⟨by repeat (first | (with_reducible first | exact HI0.out | apply IsS151.alloc | apply IsS151.drewN | apply IsS151.drew | apply IsS151.set_1 | apply IsS151.set_2) | exact HI0.out)⟩, ⟨by repeat (first | (with_reducible first | exact HK.out | apply KeepBut.set_ | apply keep_drewN | apply keep_drew | apply keep_alloc) | exact HK.out)⟩, ⟨by repeat (first | (with_reducible first | exact HB.out | apply below_alloc | apply pw_below_drewN | apply below_drew1 | refine below_set ?_ (IsS151.ge HI0.out)) | exact HB.out)⟩⟩
      case rest =>
       clear HC20; (try clear c13b0)
       obtain ⟨kq, x34_19, x1001_19, x1002_19, rfl, HA, HJ19, HO_3, HI0, HK, HB⟩ := hcut
       cases kq with
       | zero => exact absurd HA.out (by simp [spec_l1Cur_tallies.j2])
       | succ kj19 =>
        have H := HA.out; clear HA
        simp only [spec_l1Cur_tallies.j2] at H
        by_cases c26 : x34_19 = true
        ·subst c26
         have H1 : ((spec_l1Cur_pick.f s0_0 x1001_19 x1002_19 2).bind fun bt478 => ((spec_l1Cur_among.f s0_0 bt478.2.1 bt478.2.2 (([0, 100, 101] : List Int))).bind fun bt484 => ((spec_l1Cur_among.f s0_0 bt484.2.1 bt484.2.2 (([(-1), 0, 100] : List Int))).bind fun bt490 => (if 0 < (x3_2.length : Int) then (some ((x3_2.set (0 : Int).toNat (⟨bt478.1, bt484.1, bt490.1⟩ : S110)), bt490.2.1, bt490.2.2)) else (none))))) = some (r1, r2, r3) := by rw [if_pos rfl] at H; exact H
         clear H
         have H := H1
         clear H1; replace H := bS H; obtain ⟨⟨t478, t479, t480⟩, A27, H⟩ := H
         replace H : ((spec_l1Cur_among.f s0_0 t479 t480 (([0, 100, 101] : List Int))).bind fun bt484 => ((spec_l1Cur_among.f s0_0 bt484.2.1 bt484.2.2 (([(-1), 0, 100] : List Int))).bind fun bt490 => (if 0 < (x3_2.length : Int) then (some ((x3_2.set (0 : Int).toNat (⟨t478, bt484.1, bt490.1⟩ : S110)), bt490.2.1, bt490.2.2)) else (none)))) = some (r1, r2, r3) := H
         obtain ⟨y481, hy_⟩ : ∃ y_ : List Int, y_ = (([0, 100, 101] : List Int)) := ⟨_, rfl⟩
         replace H : ((spec_l1Cur_among.f s0_0 t479 t480 y481).bind fun bt484 => ((spec_l1Cur_among.f s0_0 bt484.2.1 bt484.2.2 (([(-1), 0, 100] : List Int))).bind fun bt490 => (if 0 < (x3_2.length : Int) then (some ((x3_2.set (0 : Int).toNat (⟨t478, bt484.1, bt490.1⟩ : S110)), bt490.2.1, bt490.2.2)) else (none)))) = some (r1, r2, r3) := yH
         have Ny481 := ak hy_; clear hy_; replace H := bS H; obtain ⟨⟨t484, t485, t486⟩, A28, H⟩ := H
         replace H : ((spec_l1Cur_among.f s0_0 t485 t486 (([(-1), 0, 100] : List Int))).bind fun bt490 => (if 0 < (x3_2.length : Int) then (some ((x3_2.set (0 : Int).toNat (⟨t478, t484, bt490.1⟩ : S110)), bt490.2.1, bt490.2.2)) else (none))) = some (r1, r2, r3) := H
         obtain ⟨y487, hy_⟩ : ∃ y_ : List Int, y_ = (([(-1), 0, 100] : List Int)) := ⟨_, rfl⟩
         replace H : ((spec_l1Cur_among.f s0_0 t485 t486 y487).bind fun bt490 => (if 0 < (x3_2.length : Int) then (some ((x3_2.set (0 : Int).toNat (⟨t478, t484, bt490.1⟩ : S110)), bt490.2.1, bt490.2.2)) else (none))) = some (r1, r2, r3) := yH
         have Ny487 := ak hy_; clear hy_; replace H := bS H; obtain ⟨⟨t490, t491, t492⟩, A29, H⟩ := H
         replace H : (if 0 < (x3_2.length : Int) then (some ((x3_2.set (0 : Int).toNat (⟨t478, t484, t490⟩ : S110)), t491, t492)) else (none)) = some (r1, r2, r3) := H
         replace H := ifS H; obtain ⟨c30, H⟩ := H; have c30b0 := decide_eq_true c30
         have c30b1 : decide (0 < x3_2.length) = true := decide_eq_true (by omega)
         clear c30
         obtain ⟨y493, hy_⟩ : ∃ y_ : List (S110), y_ = (x3_2.set (0 : Int).toNat (⟨t478, t484, t490⟩ : S110)) := ⟨_, rfl⟩
         replace H : (some (y493, t491, t492)) = some (r1, r2, r3) := yH
         have Ny493 := ak hy_; clear hy_
         simp only [Option.some.injEq, Prod.mk.injEq] at H
         obtain ⟨rfl, rfl, rfl⟩ := H
         go_wp2_with (first | ((with_reducible refine gate_callee (f := 147) rfl ?_); refine goesLa (some 37) rfl Try.func147 #[.pointer (some ⟨g, 0, none⟩), .int .i64 2] rfl ?_; (with_reducible refine (spec_l1Cur_pick.calls g s0_0 x1001_19 x1002_19 2 t478 t479 t480 w0 _ ?side1 ?side2 A27.out).mono ?_); (case side1 => repeat (first | (with_reducible first | exact HI0.out | apply IsS151.alloc | apply IsS151.drewN | apply IsS151.drew | apply IsS151.set_1 | apply IsS151.set_2) | exact HI0.out)); (case side2 => repeat (first | (with_reducible first | exact HB.out | apply below_alloc | apply pw_below_drewN | apply below_drew1 | refine below_set ?_ (IsS151.ge HI0.out)) | exact HB.out)); rintro e w32 ⟨rfl, hi, hb, hk⟩; refine ⟨_, rfl, ?_⟩; replace HO_3 := ak (Kd.R_mono (Kd.R_keep (IsS151.apart (show IsS151 w0 _ g s0_0 x1001_19 x1002_19 from by repeat (first | (with_reducible first | exact HI0.out | apply IsS151.alloc | apply IsS151.drewN | apply IsS151.drew | apply IsS151.set_1 | apply IsS151.set_2) | exact HI0.out)) (rdl HO_3) (by decide)) hk (fun _ h => h.2)) (fun _ h => h.1)); replace HK := ak (KeepBut.trans (by repeat (first | (with_reducible first | exact HK.out | apply KeepBut.set_ | apply keep_drewN | apply keep_drew | apply keep_alloc) | exact HK.out)) hk (.inl rfl)); replace HB := ak (hb); replace HI0 := ak (hi); (try clear hb); (try clear hk); (try clear hi)) | ((with_reducible refine gate_dst (N := 39) rfl ?_); refine Kd.R_lit (Kd.int .i64) _ 3 ?hg (N := 39) ?hd (xs := ([0, 100, 101] : List Int)) (inner := [.int .i64 0, .int .i64 100, .int .i64 101]) (ok := fun _ => True) (okp := fun _ => True) ?hr ?hp (fun _ hk => hk) trivial (Below.refl _ _) (Nat.le_refl _) (by simp) ?_; (case hd => rfl); (case hg => rfl); (case hr => first | (go_simp; done) | (go_simp; rfl)); (case hp => exact (Reps.one (show Kd.M (Kd.int .i64) _ _ _ 0 [.int .i64 0] from rfl) (Reps.one (show Kd.M (Kd.int .i64) _ _ _ 100 [.int .i64 100] from rfl) (Reps.one (show Kd.M (Kd.int .i64) _ _ _ 101 [.int .i64 101] from rfl) (Reps.none _ _))))); intro v482 w33 ho34 hb hg_ hnew_; clear hg_ hnew_; (first | rw [← Ny481.out] at ho34 | (simp only [Int.reduceToNat] at ho34; rw [← Ny481.out] at ho34)); replace HO_3 := ak (Kd.R_below (rdl HO_3) hb); have HO483 := ak (Kd.R_lower ho34 (keep_size (w := w) (g := g) (row := none) (by repeat (first | (with_reducible first | exact HK.out | apply KeepBut.set_ | apply keep_drewN | apply keep_drew | apply keep_alloc) | exact HK.out)))); replace HK := ak (KeepBut.trans (by repeat (first | (with_reducible first | exact HK.out | apply KeepBut.set_ | apply keep_drewN | apply keep_drew | apply keep_alloc) | exact HK.out)) (KeepBut.of_below hb g none) (.inl rfl)); replace HB := ak (below_step (by repeat (first | (with_reducible first | exact HB.out | apply below_alloc | apply pw_below_drewN | apply below_drew1 | refine below_set ?_ (IsS151.ge HI0.out)) | exact HB.out)) hb); replace HI0 := ak (IsS151.below (by repeat (first | (with_reducible first | exact HI0.out | apply IsS151.alloc | apply IsS151.drewN | apply IsS151.drew | apply IsS151.set_1 | apply IsS151.set_2) | exact HI0.out)) hb); clear hb ho34; obtain ⟨Ao35, co35, eo35⟩ := Kd.R_slice HO483.out; subst eo35) | ((with_reducible refine gate_callee (f := 166) rfl ?_); refine goesLa (some 40) rfl Try.func166 #[.pointer (some ⟨g, 0, none⟩), .slice Ao35 y481.length co35] rfl ?_; (with_reducible refine (spec_l1Cur_among.calls g s0_0 t479 t480 _ _ y481 t484 t485 t486 w0 _ ?side1 ?side2 ?side3 ?side4 ?side5 A28.out).mono ?_); (case side1 => repeat (first | (with_reducible first | exact HI0.out | apply IsS151.alloc | apply IsS151.drewN | apply IsS151.drew | apply IsS151.set_1 | apply IsS151.set_2) | exact HI0.out)); (case side2 => repeat (first | (with_reducible first | exact HB.out | apply below_alloc | apply pw_below_drewN | apply below_drew1 | refine below_set ?_ (IsS151.ge HI0.out)) | exact HB.out)); (case side3 => exact cd (Kd.R_reads' HO483.out).2.2); (case side4 => exact (Kd.R_reads' HO483.out).2.1); (case side5 => exact far_slice (IsS151.own_ne HI0.out HO483.out (by decide))); rintro e w36 ⟨rfl, hi, hb, hk⟩; refine ⟨_, rfl, ?_⟩; replace HO_3 := ak (Kd.R_mono (Kd.R_keep (IsS151.apart (show IsS151 w0 _ g s0_0 t479 t480 from by repeat (first | (with_reducible first | exact HI0.out | apply IsS151.alloc | apply IsS151.drewN | apply IsS151.drew | apply IsS151.set_1 | apply IsS151.set_2) | exact HI0.out)) (rdl HO_3) (by decide)) hk (fun _ h => h.2)) (fun _ h => h.1)); replace HO483 := ak (Kd.R_mono (Kd.R_keep (IsS151.apart (show IsS151 w0 _ g s0_0 t479 t480 from by repeat (first | (with_reducible first | exact HI0.out | apply IsS151.alloc | apply IsS151.drewN | apply IsS151.drew | apply IsS151.set_1 | apply IsS151.set_2) | exact HI0.out)) (rdl HO483) (by decide)) hk (fun _ h => h.2)) (fun _ h => h.1)); replace HK := ak (KeepBut.trans (by repeat (first | (with_reducible first | exact HK.out | apply KeepBut.set_ | apply keep_drewN | apply keep_drew | apply keep_alloc) | exact HK.out)) hk (.inl rfl)); replace HB := ak (hb); replace HI0 := ak (hi); (try clear hb); (try clear hk); (try clear hi)) | ((with_reducible refine gate_dst (N := 42) rfl ?_); refine Kd.R_lit (Kd.int .i64) _ 3 ?hg (N := 42) ?hd (xs := ([(-1), 0, 100] : List Int)) (inner := [.int .i64 (-1), .int .i64 0, .int .i64 100]) (ok := fun _ => True) (okp := fun _ => True) ?hr ?hp (fun _ hk => hk) trivial (Below.refl _ _) (Nat.le_refl _) (by simp) ?_; (case hd => rfl); (case hg => rfl); (case hr => first | (go_simp; done) | (go_simp; rfl)); (case hp => exact (Reps.one (show Kd.M (Kd.int .i64) _ _ _ (-1) [.int .i64 (-1)] from rfl) (Reps.one (show Kd.M (Kd.int .i64) _ _ _ 0 [.int .i64 0] from rfl) (Reps.one (show Kd.M (Kd.int .i64) _ _ _ 100 [.int .i64 100] from rfl) (Reps.none _ _))))); intro v488 w37 ho38 hb hg_ hnew_; clear hg_ hnew_; (first | rw [← Ny487.out] at ho38 | (simp only [Int.reduceToNat] at ho38; rw [← Ny487.out] at ho38)); replace HO_3 := ak (Kd.R_below (rdl HO_3) hb); have HO489 := ak (Kd.R_lower (Kd.R_new' ho38 (Kd.R_lt (rdl HO483))) (keep_size (w := w) (g := g) (row := none) (by repeat (first | (with_reducible first | exact HK.out | apply KeepBut.set_ | apply keep_drewN | apply keep_drew | apply keep_alloc) | exact HK.out)))); replace HO483 := ak (Kd.R_elder' (rdl HO483) (Kd.R_base ho38) hb); replace HK := ak (KeepBut.trans (by repeat (first | (with_reducible first | exact HK.out | apply KeepBut.set_ | apply keep_drewN | apply keep_drew | apply keep_alloc) | exact HK.out)) (KeepBut.of_below hb g none) (.inl rfl)); replace HB := ak (below_step (by repeat (first | (with_reducible first | exact HB.out | apply below_alloc | apply pw_below_drewN | apply below_drew1 | refine below_set ?_ (IsS151.ge HI0.out)) | exact HB.out)) hb); replace HI0 := ak (IsS151.below (by repeat (first | (with_reducible first | exact HI0.out | apply IsS151.alloc | apply IsS151.drewN | apply IsS151.drew | apply IsS151.set_1 | apply IsS151.set_2) | exact HI0.out)) hb); clear hb ho38; obtain ⟨Ao39, co39, eo39⟩ := Kd.R_slice HO489.out; subst eo39) | ((with_reducible refine gate_callee (f := 166) rfl ?_); refine goesLa (some 43) rfl Try.func166 #[.pointer (some ⟨g, 0, none⟩), .slice Ao39 y487.length co39] rfl ?_; (with_reducible refine (spec_l1Cur_among.calls g s0_0 t485 t486 _ _ y487 t490 t491 t492 w0 _ ?side1 ?side2 ?side3 ?side4 ?side5 A29.out).mono ?_); (case side1 => repeat (first | (with_reducible first | exact HI0.out | apply IsS151.alloc | apply IsS151.drewN | apply IsS151.drew | apply IsS151.set_1 | apply IsS151.set_2) | exact HI0.out)); (case side2 => repeat (first | (with_reducible first | exact HB.out | apply below_alloc | apply pw_below_drewN | apply below_drew1 | refine below_set ?_ (IsS151.ge HI0.out)) | exact HB.out)); (case side3 => exact cd (Kd.R_reads' HO489.out).2.2); (case side4 => exact (Kd.R_reads' HO489.out).2.1); (case side5 => exact far_slice (IsS151.own_ne HI0.out HO489.out (by decide))); rintro e w40 ⟨rfl, hi, hb, hk⟩; refine ⟨_, rfl, ?_⟩; replace HO_3 := ak (Kd.R_mono (Kd.R_keep (IsS151.apart (show IsS151 w0 _ g s0_0 t485 t486 from by repeat (first | (with_reducible first | exact HI0.out | apply IsS151.alloc | apply IsS151.drewN | apply IsS151.drew | apply IsS151.set_1 | apply IsS151.set_2) | exact HI0.out)) (rdl HO_3) (by decide)) hk (fun _ h => h.2)) (fun _ h => h.1)); replace HO483 := ak (Kd.R_mono (Kd.R_keep (IsS151.apart (show IsS151 w0 _ g s0_0 t485 t486 from by repeat (first | (with_reducible first | exact HI0.out | apply IsS151.alloc | apply IsS151.drewN | apply IsS151.drew | apply IsS151.set_1 | apply IsS151.set_2) | exact HI0.out)) (rdl HO483) (by decide)) hk (fun _ h => h.2)) (fun _ h => h.1)); replace HO489 := ak (Kd.R_mono (Kd.R_keep (IsS151.apart (show IsS151 w0 _ g s0_0 t485 t486 from by repeat (first | (with_reducible first | exact HI0.out | apply IsS151.alloc | apply IsS151.drewN | apply IsS151.drew | apply IsS151.set_1 | apply IsS151.set_2) | exact HI0.out)) (rdl HO489) (by decide)) hk (fun _ h => h.2)) (fun _ h => h.1)); replace HK := ak (KeepBut.trans (by repeat (first | (with_reducible first | exact HK.out | apply KeepBut.set_ | apply keep_drewN | apply keep_drew | apply keep_alloc) | exact HK.out)) hk (.inl rfl)); replace HB := ak (hb); replace HI0 := ak (hi); (try clear hb); (try clear hk); (try clear hi); have p31 : 0 ≤ (0 : Int) := (by omega); have q31 : (0 : Int) < ((x3_2.length : Int) : Int) := da; have qi31 : (0 < x3_2.length) = True := eq_true (by omega); obtain ⟨go31, co31, eo31, gb31, gl31, cl31, HG31⟩ := Kd.R_form HO_3.out (by omega); (first | cases eo31 | (injection eo31 with ea_ en_ ec_; (first | subst ea_ | (injection ea_ with ea_; subst ea_)); subst ec_; clear en_)); have GB31 := Aside0.mk gb31; have GG31 := Aside0.mk HG31; clear gb31 gl31 HG31; obtain ⟨ce31, hcl31, hM31, hcc31, hfr31⟩ := Kd.R_elem HO_3.out z110 (0 : Int) p31 q31; obtain rfl := k110_openM hM31; have hx31_0 : w40.cell? ⟨go31, (0 : Int).toNat * 3, none⟩ = some (.int .i64 ((rd_T110 x3_2 0).f0)) := hcc31 0 _ rfl; have hx31_1 : w40.cell? ⟨go31, (0 : Int).toNat * 3 + 1, none⟩ = some (.int .i64 ((rd_T110 x3_2 0).f1)) := hcc31 1 _ rfl; have hx31_2 : w40.cell? ⟨go31, (0 : Int).toNat * 3 + 2, none⟩ = some (.int .i64 ((rd_T110 x3_2 0).f2)) := hcc31 2 _ rfl; have hf31_0 : w40.frozen? ⟨go31, (0 : Int).toNat * 3, none⟩ = false := hfr31 0; have hf31_1 : w40.frozen? ⟨go31, (0 : Int).toNat * 3 + 1, none⟩ = false := hfr31 1; have hf31_2 : w40.frozen? ⟨go31, (0 : Int).toNat * 3 + 2, none⟩ = false := hfr31 2; clear hcl31 hcc31 hfr31 hM31; (try rw [show ((0 : Int)).toNat = 0 from rfl] at hx31_0); (try simp only [Nat.reduceMul, Nat.zero_mul, Nat.zero_add, Nat.reduceAdd] at hx31_0); (try rw [show ((0 : Int)).toNat = 0 from rfl] at hf31_0); (try simp only [Nat.reduceMul, Nat.zero_mul, Nat.zero_add, Nat.reduceAdd] at hf31_0); (try rw [show ((0 : Int)).toNat = 0 from rfl] at hx31_1); (try simp only [Nat.reduceMul, Nat.zero_mul, Nat.zero_add, Nat.reduceAdd] at hx31_1); (try rw [show ((0 : Int)).toNat = 0 from rfl] at hf31_1); (try simp only [Nat.reduceMul, Nat.zero_mul, Nat.zero_add, Nat.reduceAdd] at hf31_1); (try rw [show ((0 : Int)).toNat = 0 from rfl] at hx31_2); (try simp only [Nat.reduceMul, Nat.zero_mul, Nat.zero_add, Nat.reduceAdd] at hx31_2); (try rw [show ((0 : Int)).toNat = 0 from rfl] at hf31_2); (try simp only [Nat.reduceMul, Nat.zero_mul, Nat.zero_add, Nat.reduceAdd] at hf31_2); replace p31 := eq_true p31; replace q31 := eq_true q31; have HX41 := Aside0.mk (show Kd.R k110 110 w40 w.heap.size (fun _ => True) (.slice (some ⟨go31, 0, none⟩) x3_2.length co31) x3_2 from (rdl HO_3)); obtain ⟨ce41, hcl41, hM41, hcc41, hfr41⟩ := Kd.R_elem HX41.out z110 (0 : Int) (by omega) (by have h_ : (0 : Int) < ((x3_2.length : Int) : Int) := da; first | exact h_ | (have e_ := (Kd.R_reads' HO_3.out).1; omega) | simpa using h_); obtain rfl := k110_openM hM41; have HP41 := Kd.R_seg HX41.out (0 : Int) (by omega) (by have h_ : (0 : Int) < ((x3_2.length : Int) : Int) := da; first | exact h_ | (have e_ := (Kd.R_reads' HO_3.out).1; omega) | simpa using h_) (seg := [.int .i64 t478, .int .i64 t484, .int .i64 t490]) (j := 0) hcl41 hcc41 (show 3 ≤ 3 from by decide) (x' := (⟨t478, t484, t490⟩ : S110)) (k110_mkM _ _ _ (⟨t478, t484, t490⟩ : S110) ) (fun _ hk => hk); have hx41_0 := hcc41 0 _ rfl; (try simp only [show (k110).sz = 3 from rfl, Nat.mul_one, Nat.add_zero] at hx41_0); (try rw [show ((0 : Int)).toNat = 0 from rfl] at hx41_0); (try simp only [Nat.reduceMul, Nat.zero_mul, Nat.zero_add, Nat.reduceAdd] at hx41_0); have hf41_0 := hfr41 0; (try simp only [show (k110).sz = 3 from rfl, Nat.mul_one, Nat.add_zero] at hf41_0); (try rw [show ((0 : Int)).toNat = 0 from rfl] at hf41_0); (try simp only [Nat.reduceMul, Nat.zero_mul, Nat.zero_add, Nat.reduceAdd] at hf41_0); have hx41_1 := hcc41 1 _ rfl; (try simp only [show (k110).sz = 3 from rfl, Nat.mul_one, Nat.add_zero] at hx41_1); (try rw [show ((0 : Int)).toNat = 0 from rfl] at hx41_1); (try simp only [Nat.reduceMul, Nat.zero_mul, Nat.zero_add, Nat.reduceAdd] at hx41_1); have hf41_1 := hfr41 1; (try simp only [show (k110).sz = 3 from rfl, Nat.mul_one, Nat.add_zero] at hf41_1); (try rw [show ((0 : Int)).toNat = 0 from rfl] at hf41_1); (try simp only [Nat.reduceMul, Nat.zero_mul, Nat.zero_add, Nat.reduceAdd] at hf41_1); have hx41_2 := hcc41 2 _ rfl; (try simp only [show (k110).sz = 3 from rfl, Nat.mul_one, Nat.add_zero] at hx41_2); (try rw [show ((0 : Int)).toNat = 0 from rfl] at hx41_2); (try simp only [Nat.reduceMul, Nat.zero_mul, Nat.zero_add, Nat.reduceAdd] at hx41_2); have hf41_2 := hfr41 2; (try simp only [show (k110).sz = 3 from rfl, Nat.mul_one, Nat.add_zero] at hf41_2); (try rw [show ((0 : Int)).toNat = 0 from rfl] at hf41_2); (try simp only [Nat.reduceMul, Nat.zero_mul, Nat.zero_add, Nat.reduceAdd] at hf41_2); clear hcl41 hcc41 hfr41 hM41) | ((with_reducible refine gate_store (t := 110) (p := 45) rfl ?_); refine store_event (t := 110) (p := 45) (v := ?vo_w42) (w1 := (((w40.setCell ⟨go31, 0, none⟩ (.int .i64 t478)).setCell ⟨go31, 1, none⟩ (.int .i64 t484)).setCell ⟨go31, 2, none⟩ (.int .i64 t490))) ?hg ?ho ?hn ?hr ?_; (case ho => rfl); (case hg => rfl); (case hn => rfl); (case hr => first | (go_simp; done) | (go_simp; rfl)); intro w42 hw; have hg : w40.grownBy w42 (some go31) := (by rw [hw]; exact HP41.2); have hp_ : Kd.R k110 110 w42 w.heap.size (fun _ => True) (.slice (some ⟨go31, 0, none⟩) x3_2.length co31) y493 := (by rw [hw, Ny493.out]; exact HP41.1); clear HP41; replace HI0 := ak (IsS151.grown (by repeat (first | (with_reducible first | exact HI0.out | apply IsS151.alloc | apply IsS151.drewN | apply IsS151.drew | apply IsS151.set_1 | apply IsS151.set_2) | exact HI0.out)) hg (IsS151.own_ne HI0.out HO_3.out (by decide))); replace HO483 := ak (Kd.R_over' (v := (.slice (some ⟨go31, 0, none⟩) x3_2.length co31)) (rdl HO483) (Kd.R_typed HO_3.out) (by decide) hg); replace HO489 := ak (Kd.R_over' (v := (.slice (some ⟨go31, 0, none⟩) x3_2.length co31)) (rdl HO489) (Kd.R_typed HO_3.out) (by decide) hg); replace HB := ak ((by rw [hw]; exact below_set (below_set (below_set (HB.out) (Nat.le_trans HL.out GB31.out)) (Nat.le_trans HL.out GB31.out)) (Nat.le_trans HL.out GB31.out) : Below w0.heap.size w0 w42)); replace HK := ak (KeepBut.trans (by repeat (first | (with_reducible first | exact HK.out | apply KeepBut.set_ | apply keep_drewN | apply keep_drew | apply keep_alloc) | exact HK.out)) (KeepBut.of_grown hg g) (Kd.R_base2 HO_3.out)); replace HO_3 := ak (hp_); clear hg hw hp_))
         go_ret
         exact ⟨_, er2, by (with_reducible repeat (first | apply Kd.R_alloc | apply Kd.R_drewN | apply Kd.R_drew)); exact HO_3.out, by repeat (first | (with_reducible first | exact HI0.out | apply IsS151.alloc | apply IsS151.drewN | apply IsS151.drew | apply IsS151.set_1 | apply IsS151.set_2) | exact HI0.out), by repeat (first | (with_reducible first | exact HB.out | apply below_alloc | apply pw_below_drewN | apply below_drew1 | refine below_set ?_ (IsS151.ge HI0.out)) | exact HB.out), by repeat (first | (with_reducible first | exact HK.out | apply KeepBut.set_ | apply keep_drewN | apply keep_drew | apply keep_alloc) | exact HK.out)⟩
        ·replace c26 := Bool.eq_false_iff.mpr c26
         subst c26
         have H1 : (some (x3_2, x1001_19, x1002_19)) = some (r1, r2, r3) := by rw [if_neg (show ¬ (false = true) by decide)] at H; exact H
         clear H
         have H := H1
         clear H1
         simp only [Option.some.injEq, Prod.mk.injEq] at H
         obtain ⟨rfl, rfl, rfl⟩ := H; go_wp2
         go_ret
         exact ⟨_, er2, by (with_reducible repeat (first | apply Kd.R_alloc | apply Kd.R_drewN | apply Kd.R_drew)); exact HO_3.out, by repeat (first | (with_reducible first | exact HI0.out | apply IsS151.alloc | apply IsS151.drewN | apply IsS151.drew | apply IsS151.set_1 | apply IsS151.set_2) | exact HI0.out), by repeat (first | (with_reducible first | exact HB.out | apply below_alloc | apply pw_below_drewN | apply below_drew1 | refine below_set ?_ (IsS151.ge HI0.out)) | exact HB.out), by repeat (first | (with_reducible first | exact HK.out | apply KeepBut.set_ | apply keep_drewN | apply keep_drew | apply keep_alloc) | exact HK.out)⟩

/-! ### spec_DrawAddTallies: function 79 -/
def spec_DrawAddTallies.l0 : Nat → List (S110) → List (S110) → Int → Int → List Int → Int → Int → Option ((List (S110)) × (List (S110)))
  | 0, _, _, _, _, _, _, _ => none
  | k + 1, x5, x6, x17, x18, x495000, x495001, x495002 => if x18 < x17 then ((spec_l1Cur_pick.f x495000 x495001 x495002 5).bind fun bt506 => (if 0 ≤ x18 then (if x18 < (x6.length : Int) then (spec_DrawAddTallies.l0 k x5 (x6.set (x18 : Int).toNat (⟨(rd_T110 x6 x18).f0, bt506.1, (rd_T110 x6 x18).f2⟩ : S110)) x17 (wrap64 (x18 + 1)) x495000 bt506.2.1 bt506.2.2) else (none)) else (none))) else ((spec_l1Cur_one.f x495000 x495001 x495002 12).bind fun bt510 => (if bt510.1 = true then ((spec_l1Cur_tallies.f k x495000 bt510.2.1 bt510.2.2).bind fun bt513 => (some (x5, bt513.1))) else (some (x5, x6))))
def spec_DrawAddTallies.f (k : Nat) (l0 : List Int) : Option ((List (S110)) × (List (S110))) := (spec_l1Cur_tallies.f k l0 0 0).bind fun bt495 => ((some (([] : List (S110)) : List (S110))).bind fun y500 => (if y500.length + bt495.1.length < 5864062014805 then ((some (y500 ++ bt495.1 : List (S110))).bind fun y503 => (spec_DrawAddTallies.l0 k bt495.1 y503 (y503.length : Int) 0 l0 bt495.2.1 bt495.2.2)) else (none)))
theorem spec_DrawAddTallies.mono_l : ∀ k, (∀ y0 y1 y2 y3 y4 y5 y6, LeO (spec_DrawAddTallies.l0 k y0 y1 y2 y3 y4 y5 y6) (spec_DrawAddTallies.l0 (k + 1) y0 y1 y2 y3 y4 y5 y6))
 | 0 => fun _ _ _ _ _ _ _ r h => by simp [spec_DrawAddTallies.l0] at h
 | k + 1 => by
  have ih0 := spec_DrawAddTallies.mono_l k
  ·intro y0 y1 y2 y3 y4 y5 y6
   unfold spec_DrawAddTallies.l0
   repeat' (first | (with_reducible first | exact ih0 _ _ _ _ _ _ _ | exact spec_l1Cur_tallies.mono _ _ _ _ | exact LeO.refl _ | exact LeO.none _ | refine LeO.ite ?_ ?_ | refine LeO.bind ?_ (fun _ => ?_)) | exact ih0 _ _ _ _ _ _ _ | exact spec_l1Cur_tallies.mono _ _ _ _ | exact LeO.none _ | refine LeO.ite ?_ ?_ | refine LeO.bind ?_ (fun _ => ?_))
theorem spec_DrawAddTallies.mono : ∀ a0 k, LeO (spec_DrawAddTallies.f k a0) (spec_DrawAddTallies.f (k + 1) a0) := by
 intro a0 k
 have ih0 := spec_DrawAddTallies.mono_l k
 unfold spec_DrawAddTallies.f
 repeat' (first | (with_reducible first | exact ih0 _ _ _ _ _ _ _ | exact spec_l1Cur_tallies.mono _ _ _ _ | exact LeO.refl _ | exact LeO.none _ | refine LeO.ite ?_ ?_ | refine LeO.bind ?_ (fun _ => ?_)) | exact ih0 _ _ _ _ _ _ _ | exact spec_l1Cur_tallies.mono _ _ _ _ | exact LeO.none _ | refine LeO.ite ?_ ?_ | refine LeO.bind ?_ (fun _ => ?_))
set_option maxHeartbeats 8000000 in
set_option maxRecDepth 100000 in
theorem spec_DrawAddTallies.calls (k : Nat) (A0 : Option Addr) (c0 : Nat) (l0 : List Int) (r1 : List (S110)) (r2 : List (S110)) (w : World) (hr0 : Kd.C (Kd.int .u8) w A0 l0.length l0) (hc0 : l0.length ≤ c0) (h : spec_DrawAddTallies.f k l0 = some (r1, r2)) :
  Calls Try.prog 79 #[.slice A0 l0.length c0] w fun e w' => ∃ v0_ v1_ : Value, e = .returned (.tuple #[v0_, v1_]) ∧ Kd.R k110 110 w' w.heap.size (fun k_ => some k_ ≠ (v1_ : Value).ownBlock) v0_ r1 ∧ Kd.R k110 110 w' w.heap.size (fun k_ => some k_ ≠ (v0_ : Value).ownBlock) v1_ r2 ∧ Below w.heap.size w w' := by
 have hu151 := Try.underlying151
 have HR0 := Aside0.mk hr0; have HC0 := Aside0.mk hc0; clear hr0 hc0
 have HB := Aside0.mk (Below.refl w.heap.size w)
 have H : ((spec_l1Cur_tallies.f k l0 0 0).bind fun bt495 => ((some (([] : List (S110)) : List (S110))).bind fun y500 => (if y500.length + bt495.1.length < 5864062014805 then ((some (y500 ++ bt495.1 : List (S110))).bind fun y503 => (spec_DrawAddTallies.l0 k bt495.1 y503 (y503.length : Int) 0 l0 bt495.2.1 bt495.2.2)) else (none)))) = some (r1, r2) := h
 clear h; replace H := bS H; obtain ⟨⟨t495, t498, t499⟩, A2, H⟩ := H
 replace H : ((some (([] : List (S110)) : List (S110))).bind fun y500 => (if y500.length + t495.length < 5864062014805 then ((some (y500 ++ t495 : List (S110))).bind fun y503 => (spec_DrawAddTallies.l0 k t495 y503 (y503.length : Int) 0 l0 t498 t499)) else (none))) = some (r1, r2) := H
 obtain ⟨y500, hy_⟩ : ∃ y_ : List (S110), y_ = (([] : List (S110))) := ⟨_, rfl⟩
 replace H : (if y500.length + t495.length < 5864062014805 then ((some (y500 ++ t495 : List (S110))).bind fun y503 => (spec_DrawAddTallies.l0 k t495 y503 (y503.length : Int) 0 l0 t498 t499)) else (none)) = some (r1, r2) := yH
 have Ny500 := ak hy_; clear hy_; replace H := ifS H; obtain ⟨c3, H⟩ := H; have LMc3 := Aside0.mk c3; clear c3
 obtain ⟨y503, hy_⟩ : ∃ y_ : List (S110), y_ = (y500 ++ t495) := ⟨_, rfl⟩
 replace H : (spec_DrawAddTallies.l0 k t495 y503 (y503.length : Int) 0 l0 t498 t499) = some (r1, r2) := yH
 have Ny503 := ak hy_; clear hy_
 have H' := Aside0.mk H
 clear H
 go_enter Try.func79, Try.ntmps79
 go_wp2_with (first | ((with_reducible refine gate_dst (N := 10) rfl ?_); refine boxev 10 #[.slice A0 l0.length c0, .int .i64 0, .int .u64 0] 151 ?_; intro gb494 hg w4 hbox hb; have HI494 := ak ((show IsS151 w w4 gb494 l0 0 0 from IsS151.of_blk hbox (by rw [hg]; exact (below_size (belowd HB))) HR0.out)); replace HB := ak (below_step (belowd HB) hb); clear hb hbox hg) | ((with_reducible refine gate_callee (f := 164) rfl ?_); refine goesLa (some 12) rfl Try.func164 #[.pointer (some ⟨gb494, 0, none⟩)] rfl ?_; (with_reducible refine (spec_l1Cur_tallies.calls k gb494 l0 0 0 t495 t498 t499 w _ ?side1 ?side2 A2.out).mono ?_); (case side1 => repeat (first | (with_reducible first | exact HI494.out | apply IsS151.alloc | apply IsS151.drewN | apply IsS151.drew | apply IsS151.set_1 | apply IsS151.set_2) | exact HI494.out)); (case side2 => repeat (first | (with_reducible first | exact HB.out | apply below_alloc | apply pw_below_drewN | apply below_drew1 | refine below_set ?_ (IsS151.ge HI494.out)) | exact HB.out)); rintro e w5 ⟨v496, rfl, ho0, hi, hb, hk⟩; refine ⟨_, rfl, ?_⟩; have HO497 := ak (Kd.R_lower ho0 (below_size (by repeat (first | (with_reducible first | exact HB.out | apply below_alloc | apply pw_below_drewN | apply below_drew1 | refine below_set ?_ (IsS151.ge HI494.out)) | exact HB.out)))); replace HB := ak (hb); replace HI494 := ak (hi); (try clear hb); (try clear hk); (try clear hi); (try clear ho0)) | ((with_reducible refine gate_dst (N := 13) rfl ?_); refine Kd.R_lit k110 _ 110 ?hg (N := 13) ?hd (xs := ([] : List (S110))) (inner := []) (ok := fun _ => True) (okp := fun _ => True) ?hr ?hp (fun _ hk => hk) trivial (Below.refl _ _) (Nat.le_refl _) (by simp) ?_; (case hd => rfl); (case hg => rfl); (case hr => first | (go_simp; done) | (go_simp; rfl)); (case hp => exact (Reps.none _ _)); intro v501 w6 ho7 hb hg_ hnew_; clear hg_ hnew_; (first | rw [← Ny500.out] at ho7 | (simp only [Int.reduceToNat] at ho7; rw [← Ny500.out] at ho7)); have HO502 := ak (Kd.R_lower (Kd.R_new' ho7 (Kd.R_lt (rdl HO497))) (below_size (by repeat (first | (with_reducible first | exact HB.out | apply below_alloc | apply pw_below_drewN | apply below_drew1 | refine below_set ?_ (IsS151.ge HI494.out)) | exact HB.out)))); replace HO497 := ak (Kd.R_elder' (rdl HO497) (Kd.R_base ho7) hb); replace HB := ak (below_step (by repeat (first | (with_reducible first | exact HB.out | apply below_alloc | apply pw_below_drewN | apply below_drew1 | refine below_set ?_ (IsS151.ge HI494.out)) | exact HB.out)) hb); replace HI494 := ak (IsS151.below (by repeat (first | (with_reducible first | exact HI494.out | apply IsS151.alloc | apply IsS151.drewN | apply IsS151.drew | apply IsS151.set_1 | apply IsS151.set_2) | exact HI494.out)) hb); clear hb ho7; obtain ⟨Ao9, co9, eo9⟩ := Kd.R_slice HO497.out; subst eo9) | ((with_reducible refine gate_builtin (b := .append) (xs := #[.tmp 13, .tmp 14]) rfl ?_); at_builtin; refine Kd.R_append_rows k110 (w0 := w) w.heap.size rfl (.tmp 13) (.tmp 14) 99 110 (.agg #[(.int .i64 0), (.int .i64 0), (.int .i64 0)]) 24 rfl Try.underlying99 info110 rfl (by decide) (by omega) v501 y500 t495 _ _ _ (fun k_ => some k_ ≠ (.slice Ao9 t495.length co9 : Value).ownBlock) (fun _ => False) rfl rfl ?aO ?aR (fun _ _ h => h) (fun _ h => h.elim) ?aF ?aB ?aS ?aL ?_; (case aR => exact cd (Kd.R_reads' HO497.out).2.2); (case aB => exact (by repeat (first | (with_reducible first | exact HB.out | apply below_alloc | apply pw_below_drewN | apply below_drew1 | refine below_set ?_ (IsS151.ge HI494.out)) | exact HB.out))); (case aF => exact (fun k_ hk => Kd.fresh' (Kd.R_lt (rdl HO497)) k_ hk)); (case aO => exact (by (with_reducible repeat (first | apply Kd.R_alloc | apply Kd.R_drewN | apply Kd.R_drew)); exact Kd.R_mono HO502.out (fun _ hk => hk.2))); (case aS => exact (below_size (by repeat (first | (with_reducible first | exact HB.out | apply below_alloc | apply pw_below_drewN | apply below_drew1 | refine below_set ?_ (IsS151.ge HI494.out)) | exact HB.out)))); (case aL => have := LMc3.out; omega); intro v504 w8 ho hb hg hat; rw [← Ny503.out] at ho; replace HI494 := ak (IsS151.grown (by repeat (first | (with_reducible first | exact HI494.out | apply IsS151.alloc | apply IsS151.drewN | apply IsS151.drew | apply IsS151.set_1 | apply IsS151.set_2) | exact HI494.out)) hg (IsS151.own_ne HI494.out HO502.out (by decide))); replace HO497 := ak (Kd.R_after (ok := (fun _ => True)) (rdl HO497) hg hat); replace HB := ak (hb); have HO505 := ak (ho); clear HO502; clear ho hb hg hat; obtain ⟨Ao10, co10, eo10⟩ := Kd.R_slice HO505.out; subst eo10))
 go_loopg [18] k (fun kq v18 w' => ∃ (x6_1 : List (S110)) (x18_1 : Int) (x495001_1 : Int) (x495002_1 : Int), v18 = .int .i64 x18_1 ∧ Aside0 (spec_DrawAddTallies.l0 kq t495 x6_1 (y503.length : Int) x18_1 l0 x495001_1 x495002_1 = some (r1, r2)) ∧ Aside0 (kq ≤ k) ∧ Aside0 (Kd.R k110 110 w' w.heap.size (fun k_ => some k_ ≠ ((.slice Ao10 y503.length co10) : Value).ownBlock) (.slice Ao9 t495.length co9) t495) ∧ Aside0 (Kd.R k110 110 w' w.heap.size (fun k_ => some k_ ≠ ((.slice Ao9 t495.length co9) : Value).ownBlock) (.slice Ao10 y503.length co10) x6_1) ∧ Aside0 (IsS151 w w' gb494 l0 x495001_1 x495002_1) ∧ Aside0 (Below w.heap.size w w'))
 case atStart => exact ⟨(y503), (0), (t498), (t499), er, H', ⟨Nat.le_refl _⟩, ⟨by (with_reducible repeat (first | apply Kd.R_alloc | apply Kd.R_drewN | apply Kd.R_drew)); exact Kd.R_mono HO497.out (fun _ hk => hk.2)⟩, ⟨rdl HO505⟩, ⟨by repeat (first | (with_reducible first | exact HI494.out | apply IsS151.alloc | apply IsS151.drewN | apply IsS151.drew | apply IsS151.set_1 | apply IsS151.set_2) | exact HI494.out)⟩, ⟨by repeat (first | (with_reducible first | exact HB.out | apply below_alloc | apply pw_below_drewN | apply below_drew1 | refine below_set ?_ (IsS151.ge HI494.out)) | exact HB.out)⟩⟩
 case round =>
  clear H'
  obtain ⟨x6_1, x18_1, x495001_1, x495002_1, rfl, HA, HK1, HO_5, HO_6, HI494, HB⟩ := hrel
  have hl6_1 := (Kd.R_reads' HO_6.out).1
  rw [hl6_1] at HO_6
  (try simp only [hl6_1])
  (try simp only [hl6_1] at HO_5)
  cases gk with
  | zero => exact absurd HA.out (by simp [spec_DrawAddTallies.l0])
  | succ k1 =>
   have H := HA.out; clear HA
   simp only [spec_DrawAddTallies.l0] at H
   by_cases c11 : x18_1 < (y503.length : Int)
   ·rw [if_pos c11] at H
    have c11b0 : decide (x18_1 < (y503.length : Int)) = true := decide_eq_true c11
    clear c11; replace H := bS H; obtain ⟨⟨t506, t507, t508⟩, A12, H⟩ := H
    replace H : (if 0 ≤ x18_1 then (if x18_1 < (x6_1.length : Int) then (spec_DrawAddTallies.l0 k1 t495 (x6_1.set (x18_1 : Int).toNat (⟨(rd_T110 x6_1 x18_1).f0, t506, (rd_T110 x6_1 x18_1).f2⟩ : S110)) (y503.length : Int) (wrap64 (x18_1 + 1)) l0 t507 t508) else (none)) else (none)) = some (r1, r2) := H
    replace H := ifS H; obtain ⟨c13, H⟩ := H; have c13b0 := decide_eq_true c13; clear c13; replace H := ifS H; obtain ⟨c14, H⟩ := H; have c14b0 := decide_eq_true c14; clear c14
    obtain ⟨y509, hy_⟩ : ∃ y_ : List (S110), y_ = (x6_1.set (x18_1 : Int).toNat (⟨(rd_T110 x6_1 x18_1).f0, t506, (rd_T110 x6_1 x18_1).f2⟩ : S110)) := ⟨_, rfl⟩
    replace H : (spec_DrawAddTallies.l0 k1 t495 y509 (y503.length : Int) (wrap64 (x18_1 + 1)) l0 t507 t508) = some (r1, r2) := yH
    have Ny509 := ak hy_; clear hy_
    have H' := Aside0.mk H
    clear H
    go_wp2_with (first | ((with_reducible refine gate_callee (f := 147) rfl ?_); refine goesLa (some 24) rfl Try.func147 #[.pointer (some ⟨gb494, 0, none⟩), .int .i64 5] rfl ?_; (with_reducible refine (spec_l1Cur_pick.calls gb494 l0 x495001_1 x495002_1 5 t506 t507 t508 w _ ?side1 ?side2 A12.out).mono ?_); (case side1 => repeat (first | (with_reducible first | exact HI494.out | apply IsS151.alloc | apply IsS151.drewN | apply IsS151.drew | apply IsS151.set_1 | apply IsS151.set_2) | exact HI494.out)); (case side2 => repeat (first | (with_reducible first | exact HB.out | apply below_alloc | apply pw_below_drewN | apply below_drew1 | refine below_set ?_ (IsS151.ge HI494.out)) | exact HB.out)); rintro e w16 ⟨rfl, hi, hb, hk⟩; refine ⟨_, rfl, ?_⟩; replace HO_5 := ak (Kd.R_mono (Kd.R_keep (IsS151.apart (show IsS151 w _ gb494 l0 x495001_1 x495002_1 from by repeat (first | (with_reducible first | exact HI494.out | apply IsS151.alloc | apply IsS151.drewN | apply IsS151.drew | apply IsS151.set_1 | apply IsS151.set_2) | exact HI494.out)) (rdl HO_5) (by decide)) hk (fun _ h => h.2)) (fun _ h => h.1)); replace HO_6 := ak (Kd.R_mono (Kd.R_keep (IsS151.apart (show IsS151 w _ gb494 l0 x495001_1 x495002_1 from by repeat (first | (with_reducible first | exact HI494.out | apply IsS151.alloc | apply IsS151.drewN | apply IsS151.drew | apply IsS151.set_1 | apply IsS151.set_2) | exact HI494.out)) (rdl HO_6) (by decide)) hk (fun _ h => h.2)) (fun _ h => h.1)); replace HB := ak (hb); replace HI494 := ak (hi); (try clear hb); (try clear hk); (try clear hi); have p15 : 0 ≤ (x18_1 : Int) := da; have q15 : (x18_1 : Int) < ((x6_1.length : Int) : Int) := da; obtain ⟨go15, co15, eo15, gb15, gl15, cl15, HG15⟩ := Kd.R_form HO_6.out (by omega); (first | cases eo15 | (injection eo15 with ea_ en_ ec_; (first | subst ea_ | (injection ea_ with ea_; subst ea_)); subst ec_; clear en_)); have GB15 := Aside0.mk gb15; have GG15 := Aside0.mk HG15; clear gb15 gl15 HG15; obtain ⟨ce15, hcl15, hM15, hcc15, hfr15⟩ := Kd.R_elem HO_6.out z110 (x18_1 : Int) p15 q15; obtain rfl := k110_openM hM15; have hx15_0 : w16.cell? ⟨go15, (x18_1 : Int).toNat * 3, none⟩ = some (.int .i64 ((rd_T110 x6_1 x18_1).f0)) := hcc15 0 _ rfl; have hx15_1 : w16.cell? ⟨go15, (x18_1 : Int).toNat * 3 + 1, none⟩ = some (.int .i64 ((rd_T110 x6_1 x18_1).f1)) := hcc15 1 _ rfl; have hx15_2 : w16.cell? ⟨go15, (x18_1 : Int).toNat * 3 + 2, none⟩ = some (.int .i64 ((rd_T110 x6_1 x18_1).f2)) := hcc15 2 _ rfl; have hf15_0 : w16.frozen? ⟨go15, (x18_1 : Int).toNat * 3, none⟩ = false := hfr15 0; have hf15_1 : w16.frozen? ⟨go15, (x18_1 : Int).toNat * 3 + 1, none⟩ = false := hfr15 1; have hf15_2 : w16.frozen? ⟨go15, (x18_1 : Int).toNat * 3 + 2, none⟩ = false := hfr15 2; clear hcl15 hcc15 hfr15 hM15; replace p15 := eq_true p15; replace q15 := eq_true q15; have HX17 := Aside0.mk (show Kd.R k110 110 w16 w.heap.size (fun k_ => some k_ ≠ (.slice Ao9 t495.length co9 : Value).ownBlock) (.slice (some ⟨go15, 0, none⟩) x6_1.length co10) x6_1 from (rdl HO_6)); obtain ⟨ce17, hcl17, hM17, hcc17, hfr17⟩ := Kd.R_elem HX17.out z110 (x18_1 : Int) (da) (by have h_ : (x18_1 : Int) < ((x6_1.length : Int) : Int) := da; first | exact h_ | (have e_ := (Kd.R_reads' HO_6.out).1; omega) | simpa using h_); obtain rfl := k110_openM hM17; have HP17 := Kd.R_seg HX17.out (x18_1 : Int) (da) (by have h_ : (x18_1 : Int) < ((x6_1.length : Int) : Int) := da; first | exact h_ | (have e_ := (Kd.R_reads' HO_6.out).1; omega) | simpa using h_) (seg := [.int .i64 t506]) (j := 1) hcl17 hcc17 (show 2 ≤ 3 from by decide) (x' := (⟨(rd_T110 x6_1 x18_1).f0, t506, (rd_T110 x6_1 x18_1).f2⟩ : S110)) (k110_mkM _ _ _ (⟨(rd_T110 x6_1 x18_1).f0, t506, (rd_T110 x6_1 x18_1).f2⟩ : S110) ) (fun _ hk => hk); have hx17_1 := hcc17 1 _ rfl; (try simp only [show (k110).sz = 3 from rfl, Nat.mul_one, Nat.add_zero] at hx17_1); have hf17_1 := hfr17 1; (try simp only [show (k110).sz = 3 from rfl, Nat.mul_one, Nat.add_zero] at hf17_1); clear hcl17 hcc17 hfr17 hM17) | ((with_reducible refine gate_store (t := 3) (p := 26) rfl ?_); refine store_event (t := 3) (p := 26) (v := ?vo_w18) (w1 := (w16.setCell ⟨go15, (x18_1 : Int).toNat * 3 + 1, none⟩ (.int .i64 t506))) ?hg ?ho ?hn ?hr ?_; (case ho => rfl); (case hg => rfl); (case hn => rfl); (case hr => first | (go_simp; done) | (go_simp; rfl)); intro w18 hw; have hg : w16.grownBy w18 (some go15) := (by rw [hw]; exact HP17.2); have hp_ : Kd.R k110 110 w18 w.heap.size (fun k_ => some k_ ≠ (.slice Ao9 t495.length co9 : Value).ownBlock) (.slice (some ⟨go15, 0, none⟩) x6_1.length co10) y509 := (by rw [hw, Ny509.out]; exact HP17.1); clear HP17; replace HO_5 := ak (Kd.R_after (v := (.slice (some ⟨go15, 0, none⟩) x6_1.length co10)) (v1 := (.slice (some ⟨go15, 0, none⟩) x6_1.length co10)) (ok := (fun _ => True)) (by (with_reducible repeat (first | apply Kd.R_alloc | apply Kd.R_drewN | apply Kd.R_drew)); exact Kd.R_mono HO_5.out (fun _ hk => ⟨trivial, hk⟩)) hg (.inl rfl)); replace HI494 := ak (IsS151.grown (by repeat (first | (with_reducible first | exact HI494.out | apply IsS151.alloc | apply IsS151.drewN | apply IsS151.drew | apply IsS151.set_1 | apply IsS151.set_2) | exact HI494.out)) hg (IsS151.own_ne HI494.out HO_6.out (by decide))); replace HO_6 := ak (hp_); replace HB := ak ((by rw [hw]; exact below_set (HB.out) GB15.out : Below w.heap.size w w18)); clear hg hw hp_))
    (try simp only [← hl6_1])
    go_roundg k1
    case measure => have := HK1.out; omega
    case rel => exact ⟨(y509), (wrap64 (x18_1 + 1)), (t507), (t508), er, H', ⟨by have := HK1.out; omega⟩, ⟨by (try simp only [hl6_1]); (with_reducible repeat (first | apply Kd.R_alloc | apply Kd.R_drewN | apply Kd.R_drew)); exact Kd.R_mono HO_5.out (fun _ hk => hk.2)⟩, ⟨by (try simp only [hl6_1]); (with_reducible repeat (first | apply Kd.R_alloc | apply Kd.R_drewN | apply Kd.R_drew)); exact HO_6.out⟩, ⟨by repeat (first | (with_reducible first | exact HI494.out | apply IsS151.alloc | apply IsS151.drewN | apply IsS151.drew | apply IsS151.set_1 | apply IsS151.set_2) | exact HI494.out)⟩, ⟨by repeat (first | (with_reducible first | exact HB.out | apply below_alloc | apply pw_below_drewN | apply below_drew1 | refine below_set ?_ (IsS151.ge HI494.out)) | exact HB.out)⟩⟩
   ·rw [if_neg c11] at H
    have c11b0 : decide (x18_1 < (y503.length : Int)) = false := decide_eq_false c11
    have c11b0s := c11b0
    (try simp only [hl6_1] at c11b0s)
    clear c11; replace H := bS H; obtain ⟨⟨t510, t511, t512⟩, A19, H⟩ := H
    replace H : (if t510 = true then ((spec_l1Cur_tallies.f k1 l0 t511 t512).bind fun bt513 => (some (t495, bt513.1))) else (some (t495, x6_1))) = some (r1, r2) := H
    by_cases c20 : t510 = true
    ·subst c20
     have H1 : ((spec_l1Cur_tallies.f k1 l0 t511 t512).bind fun bt513 => (some (t495, bt513.1))) = some (r1, r2) := by rw [if_pos rfl] at H; exact H
     clear H
     have H := H1
     clear H1; replace H := bS H; obtain ⟨⟨t513, t516, t517⟩, A21, H⟩ := H
     replace H : (some (t495, t513)) = some (r1, r2) := H
     simp only [Option.some.injEq, Prod.mk.injEq] at H
     obtain ⟨rfl, rfl⟩ := H
     go_wp2_with (first | ((with_reducible refine gate_callee (f := 149) rfl ?_); refine goesLa (some 29) rfl Try.func149 #[.pointer (some ⟨gb494, 0, none⟩), .int .i64 12] rfl ?_; (with_reducible refine (spec_l1Cur_one.calls gb494 l0 x495001_1 x495002_1 12 true t511 t512 w _ ?side1 ?side2 A19.out).mono ?_); (case side1 => repeat (first | (with_reducible first | exact HI494.out | apply IsS151.alloc | apply IsS151.drewN | apply IsS151.drew | apply IsS151.set_1 | apply IsS151.set_2) | exact HI494.out)); (case side2 => repeat (first | (with_reducible first | exact HB.out | apply below_alloc | apply pw_below_drewN | apply below_drew1 | refine below_set ?_ (IsS151.ge HI494.out)) | exact HB.out)); rintro e w22 ⟨rfl, hi, hb, hk⟩; refine ⟨_, rfl, ?_⟩; replace HO_5 := ak (Kd.R_mono (Kd.R_keep (IsS151.apart (show IsS151 w _ gb494 l0 x495001_1 x495002_1 from by repeat (first | (with_reducible first | exact HI494.out | apply IsS151.alloc | apply IsS151.drewN | apply IsS151.drew | apply IsS151.set_1 | apply IsS151.set_2) | exact HI494.out)) (rdl HO_5) (by decide)) hk (fun _ h => h.2)) (fun _ h => h.1)); replace HO_6 := ak (Kd.R_mono (Kd.R_keep (IsS151.apart (show IsS151 w _ gb494 l0 x495001_1 x495002_1 from by repeat (first | (with_reducible first | exact HI494.out | apply IsS151.alloc | apply IsS151.drewN | apply IsS151.drew | apply IsS151.set_1 | apply IsS151.set_2) | exact HI494.out)) (rdl HO_6) (by decide)) hk (fun _ h => h.2)) (fun _ h => h.1)); replace HB := ak (hb); replace HI494 := ak (hi); (try clear hb); (try clear hk); (try clear hi)) | ((with_reducible refine gate_callee (f := 164) rfl ?_); refine goesLa (some 32) rfl Try.func164 #[.pointer (some ⟨gb494, 0, none⟩)] rfl ?_; (with_reducible refine (spec_l1Cur_tallies.calls k1 gb494 l0 t511 t512 t513 t516 t517 w _ ?side1 ?side2 A21.out).mono ?_); (case side1 => repeat (first | (with_reducible first | exact HI494.out | apply IsS151.alloc | apply IsS151.drewN | apply IsS151.drew | apply IsS151.set_1 | apply IsS151.set_2) | exact HI494.out)); (case side2 => repeat (first | (with_reducible first | exact HB.out | apply below_alloc | apply pw_below_drewN | apply below_drew1 | refine below_set ?_ (IsS151.ge HI494.out)) | exact HB.out)); rintro e w23 ⟨v514, rfl, ho0, hi, hb, hk⟩; refine ⟨_, rfl, ?_⟩; have HO515 := ak (Kd.R_lower (Kd.R_new' (Kd.R_new' ho0 (Kd.R_lt (rdl HO_5))) (Kd.R_lt (rdl HO_6))) (below_size (by repeat (first | (with_reducible first | exact HB.out | apply below_alloc | apply pw_below_drewN | apply below_drew1 | refine below_set ?_ (IsS151.ge HI494.out)) | exact HB.out)))); replace HO_5 := ak (Kd.R_mono (Kd.R_told (Kd.R_oldK (IsS151.apart (show IsS151 w _ gb494 l0 t511 t512 from by repeat (first | (with_reducible first | exact HI494.out | apply IsS151.alloc | apply IsS151.drewN | apply IsS151.drew | apply IsS151.set_1 | apply IsS151.set_2) | exact HI494.out)) (rdl HO_5) (by decide)) hk) (Kd.R_base ho0)) (fun _ h_ => h_.1)); replace HO_6 := ak (Kd.R_mono (Kd.R_told (Kd.R_oldK (IsS151.apart (show IsS151 w _ gb494 l0 t511 t512 from by repeat (first | (with_reducible first | exact HI494.out | apply IsS151.alloc | apply IsS151.drewN | apply IsS151.drew | apply IsS151.set_1 | apply IsS151.set_2) | exact HI494.out)) (rdl HO_6) (by decide)) hk) (Kd.R_base ho0)) (fun _ h_ => h_.1)); replace HB := ak (hb); replace HI494 := ak (hi); (try clear hb); (try clear hk); (try clear hi); (try clear ho0)))
     go_ret2
     exact ⟨_, _, er2, by (with_reducible repeat (first | apply Kd.R_alloc | apply Kd.R_drewN | apply Kd.R_drew)); exact Kd.R_mono HO_5.out (fun _ hk => hk.2), by (with_reducible repeat (first | apply Kd.R_alloc | apply Kd.R_drewN | apply Kd.R_drew)); exact Kd.R_mono HO515.out (fun _ hk => hk.1.2), by repeat (first | (with_reducible first | exact HB.out | apply below_alloc | apply pw_below_drewN | apply below_drew1 | refine below_set ?_ (IsS151.ge HI494.out)) | exact HB.out)⟩
    ·replace c20 := Bool.eq_false_iff.mpr c20
     subst c20
     have H1 : (some (t495, x6_1)) = some (r1, r2) := by rw [if_neg (show ¬ (false = true) by decide)] at H; exact H
     clear H
     have H := H1
     clear H1
     simp only [Option.some.injEq, Prod.mk.injEq] at H
     obtain ⟨rfl, rfl⟩ := H
     go_wp2_with (first | ((with_reducible refine gate_callee (f := 149) rfl ?_); refine goesLa (some 29) rfl Try.func149 #[.pointer (some ⟨gb494, 0, none⟩), .int .i64 12] rfl ?_; (with_reducible refine (spec_l1Cur_one.calls gb494 l0 x495001_1 x495002_1 12 false t511 t512 w _ ?side1 ?side2 A19.out).mono ?_); (case side1 => repeat (first | (with_reducible first | exact HI494.out | apply IsS151.alloc | apply IsS151.drewN | apply IsS151.drew | apply IsS151.set_1 | apply IsS151.set_2) | exact HI494.out)); (case side2 => repeat (first | (with_reducible first | exact HB.out | apply below_alloc | apply pw_below_drewN | apply below_drew1 | refine below_set ?_ (IsS151.ge HI494.out)) | exact HB.out)); rintro e w24 ⟨rfl, hi, hb, hk⟩; refine ⟨_, rfl, ?_⟩; replace HO_5 := ak (Kd.R_mono (Kd.R_keep (IsS151.apart (show IsS151 w _ gb494 l0 x495001_1 x495002_1 from by repeat (first | (with_reducible first | exact HI494.out | apply IsS151.alloc | apply IsS151.drewN | apply IsS151.drew | apply IsS151.set_1 | apply IsS151.set_2) | exact HI494.out)) (rdl HO_5) (by decide)) hk (fun _ h => h.2)) (fun _ h => h.1)); replace HO_6 := ak (Kd.R_mono (Kd.R_keep (IsS151.apart (show IsS151 w _ gb494 l0 x495001_1 x495002_1 from by repeat (first | (with_reducible first | exact HI494.out | apply IsS151.alloc | apply IsS151.drewN | apply IsS151.drew | apply IsS151.set_1 | apply IsS151.set_2) | exact HI494.out)) (rdl HO_6) (by decide)) hk (fun _ h => h.2)) (fun _ h => h.1)); replace HB := ak (hb); replace HI494 := ak (hi); (try clear hb); (try clear hk); (try clear hi)))
     go_ret2
     exact ⟨_, _, er2, by (with_reducible repeat (first | apply Kd.R_alloc | apply Kd.R_drewN | apply Kd.R_drew)); exact HO_5.out, by (with_reducible repeat (first | apply Kd.R_alloc | apply Kd.R_drewN | apply Kd.R_drew)); exact HO_6.out, by repeat (first | (with_reducible first | exact HB.out | apply below_alloc | apply pw_below_drewN | apply below_drew1 | refine below_set ?_ (IsS151.ge HI494.out)) | exact HB.out)⟩

/-! ### impl_AddTallies: function 80 -/
mutual
def impl_AddTallies.j0 : Nat → List (S110) → List (S110) → Bool → Option ((List (S110)) × Bool)
  | 0, _, _, _ => none
  | k + 1, x0, x1, x23 => if x23 = true then (some (([] : List (S110)), false)) else (impl_AddTallies.l0 k x1 (([] : List (S110))) x0 (x0.length : Int) 0)
def impl_AddTallies.l0 : Nat → List (S110) → List (S110) → List (S110) → Int → Int → Option ((List (S110)) × Bool)
  | 0, _, _, _, _, _ => none
  | k + 1, x1, x6, x25, x26, x27 => if x27 < x26 then (if 0 ≤ x27 then (if x27 < (x25.length : Int) then (if x27 < (x1.length : Int) then (if x6.length < 5864062014805 then (impl_AddTallies.l0 k x1 (x6 ++ [(⟨x27, wrap64 (((rd_T110 x25 x27).f1) + ((rd_T110 x1 x27).f1)), wrap64 (((rd_T110 x25 x27).f2) + ((rd_T110 x1 x27).f2))⟩ : S110)]) x25 x26 (wrap64 (x27 + 1))) else (none)) else (none)) else (none)) else (none)) else ((impl_GoodTallies.f k x6).bind fun t530 => (if t530 = true then (some (x6, true)) else (some (([] : List (S110)), false))))
end
def impl_AddTallies.f (k : Nat) (l0 : List (S110)) (l1 : List (S110)) : Option ((List (S110)) × Bool) := (impl_GoodTallies.f k l0).bind fun t518 => (if t518 = true then ((impl_GoodTallies.f k l1).bind fun t519 => (if t519 = true then (impl_AddTallies.j0 k l0 l1 ((l0.length : Int) != (l1.length : Int))) else (impl_AddTallies.j0 k l0 l1 true))) else (impl_AddTallies.j0 k l0 l1 true))
theorem impl_AddTallies.mono_l : ∀ k, (∀ y0 y1 y2, LeO (impl_AddTallies.j0 k y0 y1 y2) (impl_AddTallies.j0 (k + 1) y0 y1 y2)) ∧ (∀ y0 y1 y2 y3 y4, LeO (impl_AddTallies.l0 k y0 y1 y2 y3 y4) (impl_AddTallies.l0 (k + 1) y0 y1 y2 y3 y4))
 | 0 => ⟨fun _ _ _ r h => by simp [impl_AddTallies.j0] at h, fun _ _ _ _ _ r h => by simp [impl_AddTallies.l0] at h⟩
 | k + 1 => by
  obtain ⟨ih0, ih1⟩ := impl_AddTallies.mono_l k
  refine ⟨?_, ?_⟩
  ·intro y0 y1 y2
   unfold impl_AddTallies.j0
   repeat' (first | (with_reducible first | exact ih0 _ _ _ | exact ih1 _ _ _ _ _ | exact impl_GoodTallies.mono _ _ | exact LeO.refl _ | exact LeO.none _ | refine LeO.ite ?_ ?_ | refine LeO.bind ?_ (fun _ => ?_)) | exact ih0 _ _ _ | exact ih1 _ _ _ _ _ | exact impl_GoodTallies.mono _ _ | exact LeO.none _ | refine LeO.ite ?_ ?_ | refine LeO.bind ?_ (fun _ => ?_))
  ·intro y0 y1 y2 y3 y4
   unfold impl_AddTallies.l0
   repeat' (first | (with_reducible first | exact ih0 _ _ _ | exact ih1 _ _ _ _ _ | exact impl_GoodTallies.mono _ _ | exact LeO.refl _ | exact LeO.none _ | refine LeO.ite ?_ ?_ | refine LeO.bind ?_ (fun _ => ?_)) | exact ih0 _ _ _ | exact ih1 _ _ _ _ _ | exact impl_GoodTallies.mono _ _ | exact LeO.none _ | refine LeO.ite ?_ ?_ | refine LeO.bind ?_ (fun _ => ?_))
theorem impl_AddTallies.mono : ∀ a0 a1 k, LeO (impl_AddTallies.f k a0 a1) (impl_AddTallies.f (k + 1) a0 a1) := by
 intro a0 a1 k
 obtain ⟨ih0, ih1⟩ := impl_AddTallies.mono_l k
 unfold impl_AddTallies.f
 repeat' (first | (with_reducible first | exact ih0 _ _ _ | exact ih1 _ _ _ _ _ | exact impl_GoodTallies.mono _ _ | exact LeO.refl _ | exact LeO.none _ | refine LeO.ite ?_ ?_ | refine LeO.bind ?_ (fun _ => ?_)) | exact ih0 _ _ _ | exact ih1 _ _ _ _ _ | exact impl_GoodTallies.mono _ _ | exact LeO.none _ | refine LeO.ite ?_ ?_ | refine LeO.bind ?_ (fun _ => ?_))
def impl_AddTallies.T7 : Bool × List (List Nat × List Nat) := (true, [([], []), ([], []), ([], []), ([2], [2]), ([], []), ([], []), ([4, 5], [4, 5]), ([6], [6]), ([7], [7]), ([3, 8], [3, 8]), ([], []), ([10], [10]), ([], []), ([], []), ([12, 13], [12, 13]), ([14], [14]), ([15], [15]), ([11, 16], [11, 16]), ([1, 9, 17], [1, 9, 17]), ([18], [18]), ([0, 19], [0, 19]), ([20, 20, 0, 1, 2, 3, 4, 5, 6, 7, 8, 9, 10, 11, 12, 13, 14, 15, 16, 17, 18, 19, 20], [0, 20])])
def impl_AddTallies.B7 : List Nat := [0, 0, 0, 4, 0, 0, 48, 112, 240, 508, 0, 1024, 0, 0, 12288, 28672, 61440, 130048, 262142, 524286, 1048575, 2097151]
theorem impl_AddTallies.tab7 : rtab .any (opsOf Try.f80 7) = impl_AddTallies.T7 := by kernel_rfl
theorem impl_AddTallies.bits7 : waitsOk impl_AddTallies.T7.2 impl_AddTallies.B7 = true := by kernel_rfl
set_option maxHeartbeats 8000000 in
set_option maxRecDepth 100000 in
theorem impl_AddTallies.calls (k : Nat) (A0 : Option Addr) (c0 : Nat) (l0 : List (S110)) (A1 : Option Addr) (c1 : Nat) (l1 : List (S110)) (r1 : List (S110)) (r2 : Bool) (w : World) (hr0 : Kd.C k110 w A0 l0.length l0) (hc0 : l0.length ≤ c0) (hr1 : Kd.C k110 w A1 l1.length l1) (hc1 : l1.length ≤ c1) (h : impl_AddTallies.f k l0 l1 = some (r1, r2)) :
  Calls Try.prog 80 #[.slice A0 l0.length c0, .slice A1 l1.length c1] w fun e w' => ∃ v0_ : Value, e = .returned (.tuple #[v0_, .bool r2]) ∧ Kd.R k110 110 w' w.heap.size (fun _ => True) v0_ r1 ∧ Below w.heap.size w w' := by
 have hu110 := Try.underlying110
 have HR0 := Aside0.mk hr0; have HC0 := Aside0.mk hc0; clear hr0 hc0; have HR1 := Aside0.mk hr1; have HC1 := Aside0.mk hc1; clear hr1 hc1
 have HB := Aside0.mk (Below.refl w.heap.size w)
 have H : ((impl_GoodTallies.f k l0).bind fun t518 => (if t518 = true then ((impl_GoodTallies.f k l1).bind fun t519 => (if t519 = true then (impl_AddTallies.j0 k l0 l1 ((l0.length : Int) != (l1.length : Int))) else (impl_AddTallies.j0 k l0 l1 true))) else (impl_AddTallies.j0 k l0 l1 true))) = some (r1, r2) := h
 clear h; have HC3 := Aside0.mk H; clear H
 go_enter Try.func80, Try.ntmps80
 go_upto_region 1 with (fail)
 go_cut [23] (fun v23 wc => ∃ (kq : Nat) (x23_2 : Bool), v23 = .bool x23_2 ∧ Aside0 (impl_AddTallies.j0 kq l0 l1 x23_2 = some (r1, r2)) ∧ Aside0 (kq ≤ k) ∧ Aside0 (Below w.heap.size w wc))
 case first =>
  have H := HC3.out; clear HC3; replace H := bS H; obtain ⟨t518, A4, H⟩ := H
  replace H : (if t518 = true then ((impl_GoodTallies.f k l1).bind fun t519 => (if t519 = true then (impl_AddTallies.j0 k l0 l1 ((l0.length : Int) != (l1.length : Int))) else (impl_AddTallies.j0 k l0 l1 true))) else (impl_AddTallies.j0 k l0 l1 true)) = some (r1, r2) := H
  by_cases c5 : t518 = true
  ·subst c5
   have H1 : ((impl_GoodTallies.f k l1).bind fun t519 => (if t519 = true then (impl_AddTallies.j0 k l0 l1 ((l0.length : Int) != (l1.length : Int))) else (impl_AddTallies.j0 k l0 l1 true))) = some (r1, r2) := by rw [if_pos rfl] at H; exact H
   clear H
   have H := H1
   clear H1; replace H := bS H; obtain ⟨t519, A6, H⟩ := H
   replace H : (if t519 = true then (impl_AddTallies.j0 k l0 l1 ((l0.length : Int) != (l1.length : Int))) else (impl_AddTallies.j0 k l0 l1 true)) = some (r1, r2) := H
   by_cases c7 : t519 = true
   ·subst c7
    have H1 : (impl_AddTallies.j0 k l0 l1 ((l0.length : Int) != (l1.length : Int))) = some (r1, r2) := by rw [if_pos rfl] at H; exact H
    clear H
    have H := H1
    clear H1
    have H' := Aside0.mk H
    clear H
    go_wp2_with (first | ((with_reducible refine gate_callee (f := 77) rfl ?_); refine goesLa (some 10) rfl Try.func77 #[.slice A0 l0.length c0] rfl ?_; (with_reducible refine (impl_GoodTallies.calls k _ _ l0 true _ ?side1 ?side2 A4.out).mono ?_); (case side1 => exact cd (Kd.C_below HR0.out HB.out)); (case side2 => exact HC0.out); rintro e w8 ⟨rfl, hb⟩; refine ⟨_, rfl, ?_⟩; replace HB := ak (below_step (belowd HB) hb); (try clear hb)) | (go_at_call 77; (with_reducible refine (impl_GoodTallies.calls k _ _ l1 true _ ?side1 ?side2 A6.out).mono ?_); (case side1 => exact cd (Kd.C_below HR1.out HB.out)); (case side2 => exact HC1.out); rintro e w9 ⟨rfl, hb⟩; replace HB := ak (below_step (belowd HB) hb); (try clear hb)))
    go_meet
    case rel => exact ⟨_, (((l0.length : Int) != (l1.length : Int))), er, H', ⟨by first | omega | exact Nat.le_refl _⟩, ⟨belowd HB⟩⟩
   ·replace c7 := Bool.eq_false_iff.mpr c7
    subst c7
    have H1 : (impl_AddTallies.j0 k l0 l1 true) = some (r1, r2) := by rw [if_neg (show ¬ (false = true) by decide)] at H; exact H
    clear H
    have H := H1
    clear H1
    have H' := Aside0.mk H
    clear H
    go_wp2_with (first | ((with_reducible refine gate_callee (f := 77) rfl ?_); refine goesLa (some 10) rfl Try.func77 #[.slice A0 l0.length c0] rfl ?_; (with_reducible refine (impl_GoodTallies.calls k _ _ l0 true _ ?side1 ?side2 A4.out).mono ?_); (case side1 => exact cd (Kd.C_below HR0.out HB.out)); (case side2 => exact HC0.out); rintro e w10 ⟨rfl, hb⟩; refine ⟨_, rfl, ?_⟩; replace HB := ak (below_step (belowd HB) hb); (try clear hb)) | (go_at_call 77; (with_reducible refine (impl_GoodTallies.calls k _ _ l1 false _ ?side1 ?side2 A6.out).mono ?_); (case side1 => exact cd (Kd.C_below HR1.out HB.out)); (case side2 => exact HC1.out); rintro e w11 ⟨rfl, hb⟩; replace HB := ak (below_step (belowd HB) hb); (try clear hb)))
    go_meet
    case rel => exact ⟨_, (true), er, H', ⟨by first | omega | exact Nat.le_refl _⟩, ⟨belowd HB⟩⟩
  ·replace c5 := Bool.eq_false_iff.mpr c5
   subst c5
   have H1 : (impl_AddTallies.j0 k l0 l1 true) = some (r1, r2) := by rw [if_neg (show ¬ (false = true) by decide)] at H; exact H
   clear H
   have H := H1
   clear H1
   have H' := Aside0.mk H
   clear H
   go_wp2_with (first | ((with_reducible refine gate_callee (f := 77) rfl ?_); refine goesLa (some 10) rfl Try.func77 #[.slice A0 l0.length c0] rfl ?_; (with_reducible refine (impl_GoodTallies.calls k _ _ l0 false _ ?side1 ?side2 A4.out).mono ?_); (case side1 => exact cd (Kd.C_below HR0.out HB.out)); (case side2 => exact HC0.out); rintro e w12 ⟨rfl, hb⟩; refine ⟨_, rfl, ?_⟩; replace HB := ak (below_step (belowd HB) hb); (try clear hb)))
   go_meet
   case rel => exact ⟨_, (true), er, H', ⟨by first | omega | exact Nat.le_refl _⟩, ⟨belowd HB⟩⟩
 case rest =>
  clear HC3; (try clear c1)
  obtain ⟨kq, x23_2, rfl, HA, HJ2, HB⟩ := hcut
  cases kq with
  | zero => exact absurd HA.out (by simp [impl_AddTallies.j0])
  | succ kj2 =>
   have H := HA.out; clear HA
   simp only [impl_AddTallies.j0] at H
   by_cases c13 : x23_2 = true
   ·subst c13
    have H1 : (some (([] : List (S110)), false)) = some (r1, r2) := by rw [if_pos rfl] at H; exact H
    clear H
    have H := H1
    clear H1
    simp only [Option.some.injEq, Prod.mk.injEq] at H
    obtain ⟨rfl, rfl⟩ := H; go_wp2
    go_ret2
    exact ⟨_, er2, by first | exact Kd.R_nil _ _ _ _ _ | exact Kd.N_nil _ _ _ _ _ | exact Kd.V_nil _ _ _ _ _ | exact Kd.Q_nil _ _ _ _ _ | exact Kd.S_nil _ _ _ _ _, belowd HB⟩
   ·replace c13 := Bool.eq_false_iff.mpr c13
    subst c13
    have H1 : (impl_AddTallies.l0 kj2 l1 (([] : List (S110))) l0 (l0.length : Int) 0) = some (r1, r2) := by rw [if_neg (show ¬ (false = true) by decide)] at H; exact H
    clear H
    have H := H1
    clear H1
    obtain ⟨y520, hy_⟩ : ∃ y_ : List (S110), y_ = (([] : List (S110))) := ⟨_, rfl⟩
    replace H : (impl_AddTallies.l0 kj2 l1 y520 l0 (l0.length : Int) 0) = some (r1, r2) := yH
    have Ny520 := ak hy_; clear hy_
    have H' := Aside0.mk H
    clear H
    go_wp2_with (first | ((with_reducible refine gate_dst (N := 24) rfl ?_); (try (refine gate_guard (by rfl) ?_; dsimp only)); refine Kd.R_lit k110 _ 110 ?hg (N := 24) ?hd (xs := ([] : List (S110))) (inner := []) (ok := fun _ => True) (okp := fun _ => True) ?hr ?hp (fun _ hk => hk) trivial (Below.refl _ _) (Nat.le_refl _) (by simp) ?_; (case hd => rfl); (case hg => rfl); (case hr => first | (go_simp; done) | (go_simp; rfl)); (case hp => exact (Reps.none _ _)); intro v521 w14 ho15 hb hg_ hnew_; clear hg_ hnew_; (first | rw [← Ny520.out] at ho15 | (simp only [Int.reduceToNat] at ho15; rw [← Ny520.out] at ho15)); have HO522 := ak (Kd.R_lower ho15 (below_size (belowd HB))); replace HB := ak (below_step (belowd HB) hb); clear hb ho15))
    go_loopg [6, 27] kj2 (fun kq v6 v27 w' => ∃ (x6_2 : List (S110)) (x27_2 : Int), v27 = .int .i64 x27_2 ∧ Aside0 (impl_AddTallies.l0 kq l1 x6_2 l0 (l0.length : Int) x27_2 = some (r1, r2)) ∧ Aside0 (kq ≤ kj2) ∧ Aside0 (Kd.R k110 110 w' w.heap.size (fun _ => True) v6 x6_2) ∧ Aside0 (Below w.heap.size w w'))
    case atStart => exact ⟨(y520), (0), er, H', ⟨Nat.le_refl _⟩, ⟨rdl HO522⟩, ⟨belowd HB⟩⟩
    case round =>
     clear H'
     (try clear c13)
     obtain ⟨x6_2, x27_2, rfl, HA, HK2, HO_6, HB⟩ := hrel
     cases gk with
     | zero => exact absurd HA.out (by simp [impl_AddTallies.l0])
     | succ k2 =>
      have H := HA.out; clear HA
      simp only [impl_AddTallies.l0] at H
      by_cases c16 : x27_2 < (l0.length : Int)
      ·rw [if_pos c16] at H
       have c16b0 : decide (x27_2 < (l0.length : Int)) = true := decide_eq_true c16
       clear c16; replace H := ifS H; obtain ⟨c17, H⟩ := H; have c17b0 := decide_eq_true c17; clear c17; replace H := ifS H; obtain ⟨c18, H⟩ := H; have c18b0 := decide_eq_true c18; clear c18; replace H := ifS H; obtain ⟨c19, H⟩ := H; have c19b0 := decide_eq_true c19; clear c19; replace H := ifS H; obtain ⟨c20, H⟩ := H; have LMc20 := Aside0.mk c20; clear c20
       obtain ⟨y527, hy_⟩ : ∃ y_ : List (S110), y_ = (x6_2 ++ [(⟨x27_2, wrap64 (((rd_T110 l0 x27_2).f1) + ((rd_T110 l1 x27_2).f1)), wrap64 (((rd_T110 l0 x27_2).f2) + ((rd_T110 l1 x27_2).f2))⟩ : S110)]) := ⟨_, rfl⟩
       replace H : (impl_AddTallies.l0 k2 l1 y527 l0 (l0.length : Int) (wrap64 (x27_2 + 1))) = some (r1, r2) := yH
       have Ny527 := ak hy_; clear hy_
       have H' := Aside0.mk H
       clear H
       have p523 : 0 ≤ (x27_2 : Int) := da
       have q523 : x27_2 < (l0.length : Int) := da
       obtain ⟨ad523, e523, hx523_0, hx523_1, hx523_2⟩ := at_T110 HR0.out x27_2 p523 q523
       cases e523
       replace hx523_0 := (HB.out.cell (World.block_lt_of_cell? w _ hx523_0)).trans hx523_0
       replace hx523_1 := (HB.out.cell (World.block_lt_of_cell? w _ hx523_1)).trans hx523_1
       replace hx523_2 := (HB.out.cell (World.block_lt_of_cell? w _ hx523_2)).trans hx523_2
       replace p523 := eq_true p523; replace q523 := eq_true q523
       try go_wp2_with (first | ((with_reducible refine gate_dst (N := 8) rfl ?_); (try (refine gate_guard (by rfl) ?_; dsimp only)); refine boxev 8 #[.int .i64 0, .int .i64 0, .int .i64 0] 110 ?_; intro gb524 hg w21 hbox hb; replace HO_6 := ak (Kd.R_below (Kd.R_elderB (rdl HO_6) gb524 (Nat.le_of_eq hg.symm)) hb); have BK524 := ak (hbox); have GW524 := ak (hgl hg (belowd HB)); have GE524 := ak (hgl hg (belowd HB)); replace HB := ak (below_step (belowd HB) hb); clear hb hbox hg; obtain ⟨hcz22_0, hcz22_1, hcz22_2, hfz22_0, hfz22_1, hfz22_2⟩ := box3 BK524))
       have n0_ : Aside0 (Kd.R k110 110 (((w21.setCell ⟨gb524, 0, none⟩ (.int .i64 ((rd_T110 l0 x27_2).f0))).setCell ⟨gb524, 1, none⟩ (.int .i64 ((rd_T110 l0 x27_2).f1))).setCell ⟨gb524, 2, none⟩ (.int .i64 ((rd_T110 l0 x27_2).f2))) w.heap.size (fun k_ => k_ ≠ gb524) u6 x6_2) := ⟨by (with_reducible repeat (first | apply Kd.R_alloc | apply Kd.R_drewN | apply Kd.R_drew)); exact Kd.R_mono (farsR (Kd.R_mono HO_6.out (fun k_ hk => (⟨hk, hk.2⟩ : _ ∧ k_ ≠ gb524)))) (fun _ hk => hk.1.2)⟩
       have n1_ : Aside0 ((((w21.setCell ⟨gb524, 0, none⟩ (.int .i64 ((rd_T110 l0 x27_2).f0))).setCell ⟨gb524, 1, none⟩ (.int .i64 ((rd_T110 l0 x27_2).f1))).setCell ⟨gb524, 2, none⟩ (.int .i64 ((rd_T110 l0 x27_2).f2))).heap[gb524]? = some (.cells #[.int .i64 ((rd_T110 l0 x27_2).f0), .int .i64 ((rd_T110 l0 x27_2).f1), .int .i64 ((rd_T110 l0 x27_2).f2)] 110 (0, 0))) := ⟨by (with_reducible repeat (first | refine blk_drewN ?_ _ | refine blk_drew ?_ | refine blk_alloc ?_ _)); refine blk_put (cs := #[.int .i64 ((rd_T110 l0 x27_2).f0), .int .i64 ((rd_T110 l0 x27_2).f1), .int .i64 0]) ?_ 2 _ rfl; (with_reducible repeat (first | refine blk_drewN ?_ _ | refine blk_drew ?_ | refine blk_alloc ?_ _)); refine blk_put (cs := #[.int .i64 ((rd_T110 l0 x27_2).f0), .int .i64 0, .int .i64 0]) ?_ 1 _ rfl; (with_reducible repeat (first | refine blk_drewN ?_ _ | refine blk_drew ?_ | refine blk_alloc ?_ _)); refine blk_put (cs := #[.int .i64 0, .int .i64 0, .int .i64 0]) ?_ 0 _ rfl; (with_reducible repeat (first | refine blk_drewN ?_ _ | refine blk_drew ?_ | refine blk_alloc ?_ _)); exact BK524.out⟩
       have n2_ : Aside0 (Below w.heap.size w (((w21.setCell ⟨gb524, 0, none⟩ (.int .i64 ((rd_T110 l0 x27_2).f0))).setCell ⟨gb524, 1, none⟩ (.int .i64 ((rd_T110 l0 x27_2).f1))).setCell ⟨gb524, 2, none⟩ (.int .i64 ((rd_T110 l0 x27_2).f2)))) := ⟨belowg1 HB GE524⟩
       (try clear HO_6); (try clear BK524); (try clear HB)
       generalize (((w21.setCell ⟨gb524, 0, none⟩ (.int .i64 ((rd_T110 l0 x27_2).f0))).setCell ⟨gb524, 1, none⟩ (.int .i64 ((rd_T110 l0 x27_2).f1))).setCell ⟨gb524, 2, none⟩ (.int .i64 ((rd_T110 l0 x27_2).f2))) = w23 at n0_ n1_ n2_ ⊢
       have HO_6 := n0_
       have BK524 := n1_
       have HB := n2_
       clear n0_ n1_ n2_
       replace HO_6 := ak (Kd.R_drew HO_6.out)
       replace BK524 := ak (blk_drew BK524.out)
       replace HB := ak (below_drew1 HB.out)
       have p525 : 0 ≤ (x27_2 : Int) := da
       have q525 : x27_2 < (l1.length : Int) := da
       obtain ⟨ad525, e525, hx525_0, hx525_1, hx525_2⟩ := at_T110 HR1.out x27_2 p525 q525
       have hw525_2 := hx525_2
       have hw525_1 := hx525_1
       have hw525_0 := hx525_0
       cases e525
       replace hx525_0 := (HB.out.cell (World.block_lt_of_cell? w _ hx525_0)).trans hx525_0
       replace hx525_1 := (HB.out.cell (World.block_lt_of_cell? w _ hx525_1)).trans hx525_1
       replace hx525_2 := (HB.out.cell (World.block_lt_of_cell? w _ hx525_2)).trans hx525_2
       replace p525 := eq_true p525; replace q525 := eq_true q525
       have p526 : 0 ≤ (x27_2 : Int) := da
       have q526 : x27_2 < (l1.length : Int) := da
       obtain ⟨ad526, e526, hx526_0, hx526_1, hx526_2⟩ := at_T110 HR1.out x27_2 p526 q526
       have hw526_2 := hx526_2
       have hw526_1 := hx526_1
       have hw526_0 := hx526_0
       obtain rfl : ad525 = ad526 := (by injection e526)
       replace hx526_0 := (HB.out.cell (World.block_lt_of_cell? w _ hx526_0)).trans hx526_0
       replace hx526_1 := (HB.out.cell (World.block_lt_of_cell? w _ hx526_1)).trans hx526_1
       replace hx526_2 := (HB.out.cell (World.block_lt_of_cell? w _ hx526_2)).trans hx526_2
       replace p526 := eq_true p526; replace q526 := eq_true q526
       refine start_ (n := 22) (S := fun w' => w'.cell? ⟨gb524, 0, none⟩ = some (.int .i64 ((rd_T110 l0 x27_2).f0)) ∧ w'.cell? ⟨gb524, 1, none⟩ = some (.int .i64 ((rd_T110 l0 x27_2).f1)) ∧ w'.cell? ⟨gb524, 2, none⟩ = some (.int .i64 ((rd_T110 l0 x27_2).f2)) ∧ w'.cell? (ad525.add ((x27_2).toNat * 3)) = some (.int .i64 ((rd_T110 l1 x27_2).f0)) ∧ w'.cell? ⟨(ad525.add ((x27_2).toNat * 3)).block, (ad525.add ((x27_2).toNat * 3)).off + 1, none⟩ = some (.int .i64 ((rd_T110 l1 x27_2).f1)) ∧ w'.cell? ⟨(ad525.add ((x27_2).toNat * 3)).block, (ad525.add ((x27_2).toNat * 3)).off + 2, none⟩ = some (.int .i64 ((rd_T110 l1 x27_2).f2)) ∧ w'.cell? (ad525.add ((x27_2).toNat * 3)) = some (.int .i64 ((rd_T110 l1 x27_2).f0)) ∧ w'.cell? ⟨(ad525.add ((x27_2).toNat * 3)).block, (ad525.add ((x27_2).toNat * 3)).off + 1, none⟩ = some (.int .i64 ((rd_T110 l1 x27_2).f1)) ∧ w'.cell? ⟨(ad525.add ((x27_2).toNat * 3)).block, (ad525.add ((x27_2).toNat * 3)).off + 2, none⟩ = some (.int .i64 ((rd_T110 l1 x27_2).f2))) (ds := []) (bl 22 0) (by kernel_rfl) rfl rfl ⟨bq BK524 0, bq BK524 1, bq BK524 2, ((HB.out.cell (World.block_lt_of_cell? w _ hw525_0)).trans hw525_0), ((HB.out.cell (World.block_lt_of_cell? w _ hw525_1)).trans hw525_1), ((HB.out.cell (World.block_lt_of_cell? w _ hw525_2)).trans hw525_2), ((HB.out.cell (World.block_lt_of_cell? w _ hw526_0)).trans hw526_0), ((HB.out.cell (World.block_lt_of_cell? w _ hw526_1)).trans hw526_1), ((HB.out.cell (World.block_lt_of_cell? w _ hw526_2)).trans hw526_2)⟩ (fun hHeld => ?_); refine with_tabW impl_AddTallies.tab7 impl_AddTallies.bits7 (fun HT_ HW_ => ?_)
       generalize w23.drew = w24 at HO_6 BK524 HB hx525_0 hx525_1 hx525_2 hx526_0 hx526_1 hx526_2 hHeld ⊢
       refine pureA 0 (some 32) 22 1 HT_ ?_
       refine pureA 1 (some 33) 22 3 HT_ ?_
       refine pureA 2 (some 34) 22 7 HT_ ?_
       refine pureA 4 (some 36) 22 23 HT_ ?_
       refine pureA 5 (some 37) 22 55 HT_ ?_
       refine pureA 6 (some 38) 22 119 HT_ ?_
       refine pureA 7 (some 39) 22 247 HT_ ?_
       refine pureA 10 (some 42) 22 1271 HT_ ?_
       refine pureA 12 (some 44) 22 5367 HT_ ?_
       refine pureA 13 (some 45) 22 13559 HT_ ?_
       refine pureA 14 (some 46) 22 29943 HT_ ?_
       refine pureA 15 (some 47) 22 62711 HT_ ?_
       refine takeA 3 (some 35) 22 62719 HT_ HW_ hHeld ?_ (hy := by rintro w' ⟨s0, s1, s2, s3, s4, s5, s6, s7, s8⟩; go_simp; with_reducible rfl)
       refine takeA 8 (some 40) 22 62975 HT_ HW_ hHeld ?_ (hy := by rintro w' ⟨s0, s1, s2, s3, s4, s5, s6, s7, s8⟩; go_simp; with_reducible rfl)
       refine pureA 9 (some 41) 22 63487 HT_ ?_
       refine takeA 11 (some 43) 22 65535 HT_ HW_ hHeld ?_ (hy := by rintro w' ⟨s0, s1, s2, s3, s4, s5, s6, s7, s8⟩; go_simp; with_reducible rfl)
       refine takeA 16 (some 48) 22 131071 HT_ HW_ hHeld ?_ (hy := by rintro w' ⟨s0, s1, s2, s3, s4, s5, s6, s7, s8⟩; go_simp; with_reducible rfl)
       refine pureA 17 (some 49) 22 262143 HT_ ?_
       refine pureA 18 (some 50) 22 524287 HT_ ?_
       refine oneA 19 (some 51) 22 1048575 HT_ (fun K hK => ?_)
       refine value_ (w1 := ?_) (v := ?_) (by rfl) rfl ?_ ?_
       rotate_left 2
       ·go_simp
        constructor
        ·rfl
        ·rfl
       refine hK.out _ _ ⟨(blk_cell (blk_alloc BK524.out _) 0).trans rfl, (blk_cell (blk_alloc BK524.out _) 1).trans rfl, (blk_cell (blk_alloc BK524.out _) 2).trans rfl, (World.cell?_alloc_lt _ _ _ (World.block_lt_of_cell? _ _ (((HB.out.cell (World.block_lt_of_cell? w _ hw525_0)).trans hw525_0)))).trans (((HB.out.cell (World.block_lt_of_cell? w _ hw525_0)).trans hw525_0)), (World.cell?_alloc_lt _ _ _ (World.block_lt_of_cell? _ _ (((HB.out.cell (World.block_lt_of_cell? w _ hw525_1)).trans hw525_1)))).trans (((HB.out.cell (World.block_lt_of_cell? w _ hw525_1)).trans hw525_1)), (World.cell?_alloc_lt _ _ _ (World.block_lt_of_cell? _ _ (((HB.out.cell (World.block_lt_of_cell? w _ hw525_2)).trans hw525_2)))).trans (((HB.out.cell (World.block_lt_of_cell? w _ hw525_2)).trans hw525_2)), (World.cell?_alloc_lt _ _ _ (World.block_lt_of_cell? _ _ (((HB.out.cell (World.block_lt_of_cell? w _ hw526_0)).trans hw526_0)))).trans (((HB.out.cell (World.block_lt_of_cell? w _ hw526_0)).trans hw526_0)), (World.cell?_alloc_lt _ _ _ (World.block_lt_of_cell? _ _ (((HB.out.cell (World.block_lt_of_cell? w _ hw526_1)).trans hw526_1)))).trans (((HB.out.cell (World.block_lt_of_cell? w _ hw526_1)).trans hw526_1)), (World.cell?_alloc_lt _ _ _ (World.block_lt_of_cell? _ _ (((HB.out.cell (World.block_lt_of_cell? w _ hw526_2)).trans hw526_2)))).trans (((HB.out.cell (World.block_lt_of_cell? w _ hw526_2)).trans hw526_2))⟩ (fun hHeld => ?_)
       clear hK K
       refine norm_ (a' := ?_) ?_ ?_
       rotate_left
       ·show Act.put _ (some 51) _ = _
        simp only [Act.put, List.setIfInBounds_toArray, List.set_cons_zero, List.set_cons_succ, i64_w, i32_w]
        rfl
       refine oneA 20 (some 52) 22 2097151 HT_ (fun K hK => ?_)
       refine Kd.R_append_step k110 (w0 := w) w.heap.size (by rfl) (.tmp 32) (.tmp 51) 99 110 (.agg #[(.int .i64 0), (.int .i64 0), (.int .i64 0)]) 24 rfl Try.underlying99 info110 rfl (by decide) (by omega) u6 x6_2 (⟨x27_2, wrap64 (((rd_T110 l0 x27_2).f1) + ((rd_T110 l1 x27_2).f1)), wrap64 (((rd_T110 l0 x27_2).f2) + ((rd_T110 l1 x27_2).f2))⟩ : S110) [.int .i64 x27_2, .int .i64 (wrap64 (((rd_T110 l0 x27_2).f1) + ((rd_T110 l1 x27_2).f1))), .int .i64 (wrap64 (((rd_T110 l0 x27_2).f2) + ((rd_T110 l1 x27_2).f2)))] (fun k_ => k_ ≠ gb524) (fun _ => False) rfl rfl ?aP (fun _ hk => hk.elim) ?aF ?aO ?aB ?aS ?aL ?_
       (case aP => exact k110_mkM _ _ _ (⟨x27_2, wrap64 (((rd_T110 l0 x27_2).f1) + ((rd_T110 l1 x27_2).f1)), wrap64 (((rd_T110 l0 x27_2).f2) + ((rd_T110 l1 x27_2).f2))⟩ : S110))
       (case aB => exact (belowg1 HB GE524))
       (case aF => exact (fun k_ hk => Kd.freshB (blkd BK524) k_ hk))
       (case aO => exact (rdl HO_6))
       (case aS => exact (below_size (belowg1 HB GE524)))
       (case aL => have := LMc20.out; omega)
       intro v528 w25 ho hb hg hat
       rw [← Ny527.out] at ho
       replace BK524 := ak (blk_grown (blkd BK524) hg (Kd.R_away HO_6.out (fun _ hk => hk)))
       replace HB := ak (hb)
       have HO529 := ak (ho); clear HO_6; clear ho hb hg hat
       refine hK.out _ _ ⟨bq BK524 0, bq BK524 1, bq BK524 2, ((HB.out.cell (World.block_lt_of_cell? w _ hw525_0)).trans hw525_0), ((HB.out.cell (World.block_lt_of_cell? w _ hw525_1)).trans hw525_1), ((HB.out.cell (World.block_lt_of_cell? w _ hw525_2)).trans hw525_2), ((HB.out.cell (World.block_lt_of_cell? w _ hw526_0)).trans hw526_0), ((HB.out.cell (World.block_lt_of_cell? w _ hw526_1)).trans hw526_1), ((HB.out.cell (World.block_lt_of_cell? w _ hw526_2)).trans hw526_2)⟩ (fun hHeld => ?_)
       clear hK K
       refine norm_ (a' := ?_) ?_ ?_
       rotate_left
       ·show Act.put _ (some 52) _ = _
        simp only [Act.put, List.setIfInBounds_toArray, List.set_cons_zero, List.set_cons_succ, i64_w, i32_w]
        rfl
       refine pureA 21 (some 6) 22 4194303 HT_ ?_
       refine done_ (done_of HT_.out (by kernel_rfl)) ?_
       try go_wp2
       go_roundg k2
       case measure => have := HJ2.out; have := HK2.out; omega
       case rel => exact ⟨(y527), (wrap64 (x27_2 + 1)), er, H', ⟨by have := HJ2.out; have := HK2.out; omega⟩, ⟨by (with_reducible repeat (first | apply Kd.R_alloc | apply Kd.R_drewN | apply Kd.R_drew)); exact Kd.R_mono HO529.out (fun _ hk => trivial)⟩, ⟨belowg1 HB GE524⟩⟩
      ·rw [if_neg c16] at H
       have c16b0 : decide (x27_2 < (l0.length : Int)) = false := decide_eq_false c16
       clear c16; replace H := bS H; obtain ⟨t530, A26, H⟩ := H
       replace H : (if t530 = true then (some (x6_2, true)) else (some (([] : List (S110)), false))) = some (r1, r2) := H
       by_cases c27 : t530 = true
       ·subst c27
        have H1 : (some (x6_2, true)) = some (r1, r2) := by rw [if_pos rfl] at H; exact H
        clear H
        have H := H1
        clear H1
        simp only [Option.some.injEq, Prod.mk.injEq] at H
        obtain ⟨rfl, rfl⟩ := H
        obtain ⟨Ao28, co28, eo28⟩ := Kd.R_slice HO_6.out
        subst eo28
        go_wp2_with (first | ((with_reducible refine gate_callee (f := 77) rfl ?_); refine goesLa (some 55) rfl Try.func77 #[.slice Ao28 x6_2.length co28] rfl ?_; (with_reducible refine (impl_GoodTallies.calls k2 _ _ x6_2 true _ ?side1 ?side2 A26.out).mono ?_); (case side1 => exact cd (Kd.R_reads' HO_6.out).2.2); (case side2 => exact (Kd.R_reads' HO_6.out).2.1); rintro e w29 ⟨rfl, hb⟩; refine ⟨_, rfl, ?_⟩; replace HO_6 := ak (Kd.R_below (rdl HO_6) hb); replace HB := ak (below_step (belowd HB) hb); (try clear hb)))
        go_ret2
        exact ⟨_, er2, by (with_reducible repeat (first | apply Kd.R_alloc | apply Kd.R_drewN | apply Kd.R_drew)); exact HO_6.out, belowd HB⟩
       ·replace c27 := Bool.eq_false_iff.mpr c27
        subst c27
        have H1 : (some (([] : List (S110)), false)) = some (r1, r2) := by rw [if_neg (show ¬ (false = true) by decide)] at H; exact H
        clear H
        have H := H1
        clear H1
        simp only [Option.some.injEq, Prod.mk.injEq] at H
        obtain ⟨rfl, rfl⟩ := H
        obtain ⟨Ao30, co30, eo30⟩ := Kd.R_slice HO_6.out
        subst eo30
        go_wp2_with (first | ((with_reducible refine gate_callee (f := 77) rfl ?_); refine goesLa (some 55) rfl Try.func77 #[.slice Ao30 x6_2.length co30] rfl ?_; (with_reducible refine (impl_GoodTallies.calls k2 _ _ x6_2 false _ ?side1 ?side2 A26.out).mono ?_); (case side1 => exact cd (Kd.R_reads' HO_6.out).2.2); (case side2 => exact (Kd.R_reads' HO_6.out).2.1); rintro e w31 ⟨rfl, hb⟩; refine ⟨_, rfl, ?_⟩; replace HO_6 := ak (Kd.R_below (rdl HO_6) hb); replace HB := ak (below_step (belowd HB) hb); (try clear hb)))
        go_ret2
        exact ⟨_, er2, by first | exact Kd.R_nil _ _ _ _ _ | exact Kd.N_nil _ _ _ _ _ | exact Kd.V_nil _ _ _ _ _ | exact Kd.Q_nil _ _ _ _ _ | exact Kd.S_nil _ _ _ _ _, belowd HB⟩

/-! ### spec_l14Tally: function 210 -/
def spec_l14Tally.f (a0_0 : Int) (a0_1 : Int) (a0_2 : Int) (a1 : Int) : Option (Bool) := if a0_0 = a1 then ((spec_l1In.f a0_1 0 100).bind fun t532 => (if t532 = true then ((spec_l1In.f a0_2 0 100).bind fun t533 => (some t533)) else (some false))) else (some false)
set_option maxHeartbeats 8000000 in
set_option maxRecDepth 100000 in
theorem spec_l14Tally.calls (a0_0 : Int) (a0_1 : Int) (a0_2 : Int) (a1 : Int) (r : Bool) (w : World) (h : spec_l14Tally.f a0_0 a0_1 a0_2 a1 = some r) :
  Calls Try.prog 210 #[.agg #[.int .i64 a0_0, .int .i64 a0_1, .int .i64 a0_2], .int .i64 a1] w fun e w' => e = .returned (.bool r) ∧ Below w.heap.size w w' := by
 have hu110 := Try.underlying110
 have HB := Aside0.mk (Below.refl w.heap.size w)
 have H : (if a0_0 = a1 then ((spec_l1In.f a0_1 0 100).bind fun t532 => (if t532 = true then ((spec_l1In.f a0_2 0 100).bind fun t533 => (some t533)) else (some false))) else (some false)) = some r := h
 clear h
 by_cases c3 : a0_0 = a1
 ·rw [if_pos c3] at H
  have c3b0 : (a0_0 == a1) = true := beq_iff_eq.mpr c3
  have c3b1 : (a0_0 != a1) = false := bne_eq_false_iff_eq.mpr c3
  clear c3; replace H := bS H; obtain ⟨t532, A4, H⟩ := H
  replace H : (if t532 = true then ((spec_l1In.f a0_2 0 100).bind fun t533 => (some t533)) else (some false)) = some r := H
  by_cases c5 : t532 = true
  ·subst c5
   have H1 : ((spec_l1In.f a0_2 0 100).bind fun t533 => (some t533)) = some r := by rw [if_pos rfl] at H; exact H
   clear H
   have H := H1
   clear H1; replace H := bS H; obtain ⟨t533, A6, H⟩ := H
   replace H : (some t533) = some r := H
   obtain rfl := Option.some.inj H
   go_enter Try.func210, Try.ntmps210
   go_wp2_with (first | ((with_reducible refine gate_dst (N := 2) rfl ?_); refine boxev 2 #[.int .i64 a0_0, .int .i64 a0_1, .int .i64 a0_2] 110 ?_; intro gb531 hg w7 hbox hb; have BK531 := ak (hbox); have GW531 := ak (hgl hg (belowd HB)); have GE531 := ak (hgl hg (belowd HB)); replace HB := ak (below_step (belowd HB) hb); clear hb hbox hg; obtain ⟨hcz8_0, hcz8_1, hcz8_2, hfz8_0, hfz8_1, hfz8_2⟩ := box3 BK531) | (go_at_call 153; (with_reducible refine (spec_l1In.calls a0_1 0 100 true _ A4.out).mono ?_); rintro e w' ⟨rfl, ⟨nd, rfl⟩⟩) | (go_at_call 153; (with_reducible refine (spec_l1In.calls a0_2 0 100 t533 _ A6.out).mono ?_); rintro e w' ⟨rfl, ⟨nd, rfl⟩⟩))
   go_ret
   exact ⟨er2, belowg1 HB GE531⟩
  ·replace c5 := Bool.eq_false_iff.mpr c5
   subst c5
   have H1 : (some false) = some r := by rw [if_neg (show ¬ (false = true) by decide)] at H; exact H
   clear H
   have H := H1
   clear H1
   obtain rfl := Option.some.inj H
   go_enter Try.func210, Try.ntmps210
   go_wp2_with (first | ((with_reducible refine gate_dst (N := 2) rfl ?_); refine boxev 2 #[.int .i64 a0_0, .int .i64 a0_1, .int .i64 a0_2] 110 ?_; intro gb531 hg w9 hbox hb; have BK531 := ak (hbox); have GW531 := ak (hgl hg (belowd HB)); have GE531 := ak (hgl hg (belowd HB)); replace HB := ak (below_step (belowd HB) hb); clear hb hbox hg; obtain ⟨hcz10_0, hcz10_1, hcz10_2, hfz10_0, hfz10_1, hfz10_2⟩ := box3 BK531) | (go_at_call 153; (with_reducible refine (spec_l1In.calls a0_1 0 100 false _ A4.out).mono ?_); rintro e w' ⟨rfl, ⟨nd, rfl⟩⟩))
   go_ret
   exact ⟨er2, belowg1 HB GE531⟩
 ·rw [if_neg c3] at H
  have c3b0 : (a0_0 == a1) = false := beq_eq_false_iff_ne.mpr c3
  have c3b1 : (a0_0 != a1) = true := bne_iff_ne.mpr c3
  obtain rfl := Option.some.inj H
  go_enter Try.func210, Try.ntmps210
  go_wp2_with (first | ((with_reducible refine gate_dst (N := 2) rfl ?_); refine boxev 2 #[.int .i64 a0_0, .int .i64 a0_1, .int .i64 a0_2] 110 ?_; intro gb531 hg w11 hbox hb; have BK531 := ak (hbox); have GW531 := ak (hgl hg (belowd HB)); have GE531 := ak (hgl hg (belowd HB)); replace HB := ak (below_step (belowd HB) hb); clear hb hbox hg; obtain ⟨hcz12_0, hcz12_1, hcz12_2, hfz12_0, hfz12_1, hfz12_2⟩ := box3 BK531))
  go_ret
  exact ⟨er2, belowg1 HB GE531⟩

/-! ### spec_GoodTallies: function 165 -/
def spec_GoodTallies.l0 : Nat → List (S110) → List (S110) → Int → Int → Option (Bool)
  | 0, _, _, _, _ => none
  | k + 1, x0, x5, x6, x7 => if x7 < x6 then (if 0 ≤ x7 then (if x7 < (x5.length : Int) then ((spec_l14Tally.f ((rd_T110 x5 x7).f0) ((rd_T110 x5 x7).f1) ((rd_T110 x5 x7).f2) x7).bind fun t536 => (if t536 = true then (spec_GoodTallies.l0 k x0 x5 x6 (wrap64 (x7 + 1))) else (some false))) else (none)) else (none)) else ((spec_l1In.f (x0.length : Int) 1 12).bind fun t537 => (some t537))
def spec_GoodTallies.f (k : Nat) (l0 : List (S110)) : Option (Bool) := spec_GoodTallies.l0 k l0 l0 (l0.length : Int) 0
theorem spec_GoodTallies.mono_l : ∀ k, (∀ y0 y1 y2 y3, LeO (spec_GoodTallies.l0 k y0 y1 y2 y3) (spec_GoodTallies.l0 (k + 1) y0 y1 y2 y3))
 | 0 => fun _ _ _ _ r h => by simp [spec_GoodTallies.l0] at h
 | k + 1 => by
  have ih0 := spec_GoodTallies.mono_l k
  ·intro y0 y1 y2 y3
   unfold spec_GoodTallies.l0
   repeat' (first | (with_reducible first | exact ih0 _ _ _ _ | exact LeO.refl _ | exact LeO.none _ | refine LeO.ite ?_ ?_ | refine LeO.bind ?_ (fun _ => ?_)) | exact ih0 _ _ _ _ | exact LeO.none _ | refine LeO.ite ?_ ?_ | refine LeO.bind ?_ (fun _ => ?_))
theorem spec_GoodTallies.mono : ∀ a0 k, LeO (spec_GoodTallies.f k a0) (spec_GoodTallies.f (k + 1) a0) := by
 intro a0 k
 have ih0 := spec_GoodTallies.mono_l k
 unfold spec_GoodTallies.f
 repeat' (first | (with_reducible first | exact ih0 _ _ _ _ | exact LeO.refl _ | exact LeO.none _ | refine LeO.ite ?_ ?_ | refine LeO.bind ?_ (fun _ => ?_)) | exact ih0 _ _ _ _ | exact LeO.none _ | refine LeO.ite ?_ ?_ | refine LeO.bind ?_ (fun _ => ?_))
set_option maxHeartbeats 8000000 in
set_option maxRecDepth 100000 in
theorem spec_GoodTallies.calls (k : Nat) (A0 : Option Addr) (c0 : Nat) (l0 : List (S110)) (r : Bool) (w : World) (hr0 : Kd.C k110 w A0 l0.length l0) (hc0 : l0.length ≤ c0) (h : spec_GoodTallies.f k l0 = some r) :
  Calls Try.prog 165 #[.slice A0 l0.length c0] w fun e w' => e = .returned (.bool r) ∧ Below w.heap.size w w' := by
 have hu110 := Try.underlying110
 have HR0 := Aside0.mk hr0; have HC0 := Aside0.mk hc0; clear hr0 hc0
 have HB := Aside0.mk (Below.refl w.heap.size w)
 have H : (spec_GoodTallies.l0 k l0 l0 (l0.length : Int) 0) = some r := h
 clear h
 have H' := Aside0.mk H
 clear H
 go_enter Try.func165, Try.ntmps165
 go_wp2
 go_loopg [7] k (fun kq v7 w' => ∃ (x7_1 : Int), v7 = .int .i64 x7_1 ∧ Aside0 (spec_GoodTallies.l0 kq l0 l0 (l0.length : Int) x7_1 = some r) ∧ Aside0 (kq ≤ k) ∧ Aside0 (Below w.heap.size w w'))
 case atStart => exact ⟨(0), er, H', ⟨Nat.le_refl _⟩, ⟨belowd HB⟩⟩
 case round =>
  clear H'
  obtain ⟨x7_1, rfl, HA, HK1, HB⟩ := hrel
  cases gk with
  | zero => exact absurd HA.out (by simp [spec_GoodTallies.l0])
  | succ k1 =>
   have H := HA.out; clear HA
   simp only [spec_GoodTallies.l0] at H
   by_cases c2 : x7_1 < (l0.length : Int)
   ·rw [if_pos c2] at H
    have c2b0 : decide (x7_1 < (l0.length : Int)) = true := decide_eq_true c2
    clear c2; replace H := ifS H; obtain ⟨c3, H⟩ := H; have c3b0 := decide_eq_true c3; clear c3; replace H := ifS H; obtain ⟨c4, H⟩ := H; have c4b0 := decide_eq_true c4; clear c4; replace H := bS H; obtain ⟨t536, A5, H⟩ := H
    replace H : (if t536 = true then (spec_GoodTallies.l0 k1 l0 l0 (l0.length : Int) (wrap64 (x7_1 + 1))) else (some false)) = some r := H
    by_cases c6 : t536 = true
    ·subst c6
     have H1 : (spec_GoodTallies.l0 k1 l0 l0 (l0.length : Int) (wrap64 (x7_1 + 1))) = some r := by rw [if_pos rfl] at H; exact H
     clear H
     have H := H1
     clear H1
     have H' := Aside0.mk H
     clear H
     have p534 : 0 ≤ (x7_1 : Int) := da
     have q534 : x7_1 < (l0.length : Int) := da
     obtain ⟨ad534, e534, hx534_0, hx534_1, hx534_2⟩ := at_T110 HR0.out x7_1 p534 q534
     cases e534
     replace hx534_0 := (HB.out.cell (World.block_lt_of_cell? w _ hx534_0)).trans hx534_0
     replace hx534_1 := (HB.out.cell (World.block_lt_of_cell? w _ hx534_1)).trans hx534_1
     replace hx534_2 := (HB.out.cell (World.block_lt_of_cell? w _ hx534_2)).trans hx534_2
     replace p534 := eq_true p534; replace q534 := eq_true q534
     go_wp2_with (first | ((with_reducible refine gate_dst (N := 4) rfl ?_); refine boxev 4 #[.int .i64 0, .int .i64 0, .int .i64 0] 110 ?_; intro gb535 hg w7 hbox hb; have BK535 := ak (hbox); have GW535 := ak (hgl hg (belowd HB)); have GE535 := ak (hgl hg (belowd HB)); replace HB := ak (below_step (belowd HB) hb); clear hb hbox hg; obtain ⟨hcz8_0, hcz8_1, hcz8_2, hfz8_0, hfz8_1, hfz8_2⟩ := box3 BK535) | ((with_reducible refine gate_callee (f := 210) rfl ?_); refine goesLa (some 14) rfl Try.func210 #[.agg #[.int .i64 ((rd_T110 l0 x7_1).f0), .int .i64 ((rd_T110 l0 x7_1).f1), .int .i64 ((rd_T110 l0 x7_1).f2)], .int .i64 x7_1] rfl ?_; (with_reducible refine (spec_l14Tally.calls ((rd_T110 l0 x7_1).f0) ((rd_T110 l0 x7_1).f1) ((rd_T110 l0 x7_1).f2) x7_1 true _ A5.out).mono ?_); rintro e w9 ⟨rfl, hb⟩; refine ⟨_, rfl, ?_⟩; replace BK535 := ak (blk_below (g := gb535) (o := .cells #[.int .i64 ((rd_T110 l0 x7_1).f0), .int .i64 ((rd_T110 l0 x7_1).f1), .int .i64 ((rd_T110 l0 x7_1).f2)] 110 (0, 0)) (by (with_reducible repeat (first | refine blk_drewN ?_ _ | refine blk_drew ?_ | refine blk_alloc ?_ _)); refine blk_put (cs := #[.int .i64 ((rd_T110 l0 x7_1).f0), .int .i64 ((rd_T110 l0 x7_1).f1), .int .i64 0]) ?_ 2 _ rfl; (with_reducible repeat (first | refine blk_drewN ?_ _ | refine blk_drew ?_ | refine blk_alloc ?_ _)); refine blk_put (cs := #[.int .i64 ((rd_T110 l0 x7_1).f0), .int .i64 0, .int .i64 0]) ?_ 1 _ rfl; (with_reducible repeat (first | refine blk_drewN ?_ _ | refine blk_drew ?_ | refine blk_alloc ?_ _)); refine blk_put (cs := #[.int .i64 0, .int .i64 0, .int .i64 0]) ?_ 0 _ rfl; (with_reducible repeat (first | refine blk_drewN ?_ _ | refine blk_drew ?_ | refine blk_alloc ?_ _)); exact BK535.out) hb); replace HB := ak (below_step (belowg1 HB GE535) hb); (try clear hb)))
     go_roundg k1
     case measure => have := HK1.out; omega
     case rel => exact ⟨(wrap64 (x7_1 + 1)), er, H', ⟨by have := HK1.out; omega⟩, ⟨belowg1 HB GE535⟩⟩
    ·replace c6 := Bool.eq_false_iff.mpr c6
     subst c6
     have H1 : (some false) = some r := by rw [if_neg (show ¬ (false = true) by decide)] at H; exact H
     clear H
     have H := H1
     clear H1
     obtain rfl := Option.some.inj H
     have p534 : 0 ≤ (x7_1 : Int) := da
     have q534 : x7_1 < (l0.length : Int) := da
     obtain ⟨ad534, e534, hx534_0, hx534_1, hx534_2⟩ := at_T110 HR0.out x7_1 p534 q534
     cases e534
     replace hx534_0 := (HB.out.cell (World.block_lt_of_cell? w _ hx534_0)).trans hx534_0
     replace hx534_1 := (HB.out.cell (World.block_lt_of_cell? w _ hx534_1)).trans hx534_1
     replace hx534_2 := (HB.out.cell (World.block_lt_of_cell? w _ hx534_2)).trans hx534_2
     replace p534 := eq_true p534; replace q534 := eq_true q534
     go_wp2_with (first | ((with_reducible refine gate_dst (N := 4) rfl ?_); refine boxev 4 #[.int .i64 0, .int .i64 0, .int .i64 0] 110 ?_; intro gb535 hg w10 hbox hb; have BK535 := ak (hbox); have GW535 := ak (hgl hg (belowd HB)); have GE535 := ak (hgl hg (belowd HB)); replace HB := ak (below_step (belowd HB) hb); clear hb hbox hg; obtain ⟨hcz11_0, hcz11_1, hcz11_2, hfz11_0, hfz11_1, hfz11_2⟩ := box3 BK535) | ((with_reducible refine gate_callee (f := 210) rfl ?_); refine goesLa (some 14) rfl Try.func210 #[.agg #[.int .i64 ((rd_T110 l0 x7_1).f0), .int .i64 ((rd_T110 l0 x7_1).f1), .int .i64 ((rd_T110 l0 x7_1).f2)], .int .i64 x7_1] rfl ?_; (with_reducible refine (spec_l14Tally.calls ((rd_T110 l0 x7_1).f0) ((rd_T110 l0 x7_1).f1) ((rd_T110 l0 x7_1).f2) x7_1 false _ A5.out).mono ?_); rintro e w12 ⟨rfl, hb⟩; refine ⟨_, rfl, ?_⟩; replace BK535 := ak (blk_below (g := gb535) (o := .cells #[.int .i64 ((rd_T110 l0 x7_1).f0), .int .i64 ((rd_T110 l0 x7_1).f1), .int .i64 ((rd_T110 l0 x7_1).f2)] 110 (0, 0)) (by (with_reducible repeat (first | refine blk_drewN ?_ _ | refine blk_drew ?_ | refine blk_alloc ?_ _)); refine blk_put (cs := #[.int .i64 ((rd_T110 l0 x7_1).f0), .int .i64 ((rd_T110 l0 x7_1).f1), .int .i64 0]) ?_ 2 _ rfl; (with_reducible repeat (first | refine blk_drewN ?_ _ | refine blk_drew ?_ | refine blk_alloc ?_ _)); refine blk_put (cs := #[.int .i64 ((rd_T110 l0 x7_1).f0), .int .i64 0, .int .i64 0]) ?_ 1 _ rfl; (with_reducible repeat (first | refine blk_drewN ?_ _ | refine blk_drew ?_ | refine blk_alloc ?_ _)); refine blk_put (cs := #[.int .i64 0, .int .i64 0, .int .i64 0]) ?_ 0 _ rfl; (with_reducible repeat (first | refine blk_drewN ?_ _ | refine blk_drew ?_ | refine blk_alloc ?_ _)); exact BK535.out) hb); replace HB := ak (below_step (belowg1 HB GE535) hb); (try clear hb)))
     go_ret
     exact ⟨er2, belowg1 HB GE535⟩
   ·rw [if_neg c2] at H
    have c2b0 : decide (x7_1 < (l0.length : Int)) = false := decide_eq_false c2
    clear c2; replace H := bS H; obtain ⟨t537, A13, H⟩ := H
    replace H : (some t537) = some r := H
    obtain rfl := Option.some.inj H
    go_wp2_with (first | ((with_reducible refine gate_callee (f := 153) rfl ?_); refine goesLa (some 19) rfl Try.func153 #[.int .i64 (l0.length : Int), .int .i64 1, .int .i64 12] rfl ?_; (with_reducible refine (spec_l1In.calls (l0.length : Int) 1 12 t537 _ A13.out).mono ?_); rintro e w' ⟨rfl, ⟨nd, rfl⟩⟩; refine ⟨_, rfl, ?_⟩))
    go_ret
    exact ⟨er2, belowd HB⟩

end Go.Proofs.Ytkgogglnipdcfaa.QFnScores
