-- printed by this session's own program (wip/tools/pp.py: the kit's print.py with changes); Lean checks it
import Derived.Test.YtkgogglnipdcfaaQFnExactDebitsForx0
import Derived.Test.YtkgogglnipdcfaaQFnExactDebitsForx3
import Derived.Test.YtkgogglnipdcfaaQFnExactDebitsForx4
import Derived.Test.YtkgogglnipdcfaaQFnExactDebitsForx5
import Derived.Test.YtkgogglnipdcfaaQFnExactDebitsForx6
namespace Go.Proofs.Ytkgogglnipdcfaa.QFnExactDebitsFor
open Go.RowKit Go.Proofs.YtkgogglnipdcfaaW.PrintWords Go.Proofs.YtkgogglnipdcfaaW.PrintLast Go.Proofs.YtkgogglnipdcfaaW.PrintMore
attribute [local go_sem] max2_int min2_int max_two min_two max_three min_three max_four min_four strLss strGtr strLeq strGeq   -- for this text's walks alone
set_option linter.unusedVariables false
set_option linter.unusedSimpArgs false

/-! ### laws_FnExactDebitsFor: function 9 -/
mutual
def laws_FnExactDebitsFor.j0 : Nat → Int → List (S176) → Int → List (S85) → Bool → List (S91) → List (S85) → Bool → Bool → Option (Bool)
  | 0, _, _, _, _, _, _, _, _, _ => none
  | k + 1, x0, x1, x2, x8, x9, x10, x11, x12, x48 => if x48 = true then (some false) else ((laws_toStatementS.f k x1).bind fun t309 => ((laws_eqStatementS.f k x10 t309).bind fun t312 => (if t312 = true then ((laws_markStatementS.f k x10 1).bind fun bt313 => (if bt313.1 < 0 then (laws_FnExactDebitsFor.j1 k x0 x1 x2 x8 x9 x11 true) else ((laws_eqClaimS.f k x11 x8).bind fun t315 => (if t315 = true then (laws_FnExactDebitsFor.j1 k x0 x1 x2 x8 x9 x11 (x12 != x9)) else (laws_FnExactDebitsFor.j1 k x0 x1 x2 x8 x9 x11 true))))) else (some false))))
def laws_FnExactDebitsFor.j1 : Nat → Int → List (S176) → Int → List (S85) → Bool → List (S85) → Bool → Option (Bool)
  | 0, _, _, _, _, _, _, _ => none
  | k + 1, x0, x1, x2, x8, x9, x11, x69 => if x69 = true then (some false) else ((laws_markClaimS.f k x11 1).bind fun bt316 => ((laws_heldClaimS.f k bt316.2 1).bind fun t318 => (if t318 < 0 then (some false) else (if t318 = bt316.1 then ((laws_toStatementS.f k x1).bind fun t319 => ((impl_DebitsFor.f k x0 t319 x2).bind fun bt322 => ((laws_eqClaimS.f k bt322.1 x8).bind fun t326 => (if t326 = true then (laws_FnExactDebitsFor.j2 k bt316.2 bt316.1 (bt322.2 != x9)) else (laws_FnExactDebitsFor.j2 k bt316.2 bt316.1 true))))) else (some false)))))
def laws_FnExactDebitsFor.j2 : Nat → List (S85) → Int → Bool → Option (Bool)
  | 0, _, _, _ => none
  | k + 1, x11, x14, x97 => if x97 = true then (some false) else ((laws_heldClaimS.f k x11 1).bind fun t327 => (if t327 < 0 then (some false) else (if t327 = x14 then (some true) else (some false))))
end
def laws_FnExactDebitsFor.f (k : Nat) (a0 : Int) (l1 : List (S176)) (a2 : Int) : Option (Bool) := (laws_szStatementS.f l1 1048576).bind fun t293 => (if t293 < 0 then (some true) else ((laws_toStatementS.f k l1).bind fun t294 => ((spec_DebitsFor.f k a0 t294 a2).bind fun bt297 => ((laws_toStatementS.f k l1).bind fun t301 => ((impl_DebitsFor.f k a0 t301 a2).bind fun bt304 => ((laws_eqClaimS.f k bt304.1 bt297.1).bind fun t308 => (if t308 = true then (laws_FnExactDebitsFor.j0 k a0 l1 a2 bt297.1 bt297.2 t301 bt304.1 bt304.2 (bt304.2 != bt297.2)) else (laws_FnExactDebitsFor.j0 k a0 l1 a2 bt297.1 bt297.2 t301 bt304.1 bt304.2 true))))))))
theorem laws_FnExactDebitsFor.mono_l : ∀ k, (∀ y0 y1 y2 y3 y4 y5 y6 y7 y8, LeO (laws_FnExactDebitsFor.j0 k y0 y1 y2 y3 y4 y5 y6 y7 y8) (laws_FnExactDebitsFor.j0 (k + 1) y0 y1 y2 y3 y4 y5 y6 y7 y8)) ∧ (∀ y0 y1 y2 y3 y4 y5 y6, LeO (laws_FnExactDebitsFor.j1 k y0 y1 y2 y3 y4 y5 y6) (laws_FnExactDebitsFor.j1 (k + 1) y0 y1 y2 y3 y4 y5 y6)) ∧ (∀ y0 y1 y2, LeO (laws_FnExactDebitsFor.j2 k y0 y1 y2) (laws_FnExactDebitsFor.j2 (k + 1) y0 y1 y2))
 | 0 => ⟨fun _ _ _ _ _ _ _ _ _ r h => by simp [laws_FnExactDebitsFor.j0] at h, fun _ _ _ _ _ _ _ r h => by simp [laws_FnExactDebitsFor.j1] at h, fun _ _ _ r h => by simp [laws_FnExactDebitsFor.j2] at h⟩
 | k + 1 => by
  obtain ⟨ih0, ih1, ih2⟩ := laws_FnExactDebitsFor.mono_l k
  refine ⟨?_, ?_, ?_⟩
  ·intro y0 y1 y2 y3 y4 y5 y6 y7 y8
   unfold laws_FnExactDebitsFor.j0
   repeat' (first | (with_reducible first | exact ih0 _ _ _ _ _ _ _ _ _ | exact ih1 _ _ _ _ _ _ _ | exact ih2 _ _ _ | exact impl_DebitsFor.mono _ _ _ _ | exact laws_eqClaimS.mono _ _ _ | exact laws_eqStatementS.mono _ _ _ | exact laws_heldClaimS.mono _ _ _ | exact laws_markClaimS.mono _ _ _ | exact laws_markStatementS.mono _ _ _ | exact laws_toStatementS.mono _ _ | exact spec_DebitsFor.mono _ _ _ _ | exact LeO.refl _ | exact LeO.none _ | refine LeO.ite ?_ ?_ | refine LeO.bind ?_ (fun _ => ?_)) | exact ih0 _ _ _ _ _ _ _ _ _ | exact ih1 _ _ _ _ _ _ _ | exact ih2 _ _ _ | exact impl_DebitsFor.mono _ _ _ _ | exact laws_eqClaimS.mono _ _ _ | exact laws_eqStatementS.mono _ _ _ | exact laws_heldClaimS.mono _ _ _ | exact laws_markClaimS.mono _ _ _ | exact laws_markStatementS.mono _ _ _ | exact laws_toStatementS.mono _ _ | exact spec_DebitsFor.mono _ _ _ _ | exact LeO.none _ | refine LeO.ite ?_ ?_ | refine LeO.bind ?_ (fun _ => ?_))
  ·intro y0 y1 y2 y3 y4 y5 y6
   unfold laws_FnExactDebitsFor.j1
   repeat' (first | (with_reducible first | exact ih0 _ _ _ _ _ _ _ _ _ | exact ih1 _ _ _ _ _ _ _ | exact ih2 _ _ _ | exact impl_DebitsFor.mono _ _ _ _ | exact laws_eqClaimS.mono _ _ _ | exact laws_eqStatementS.mono _ _ _ | exact laws_heldClaimS.mono _ _ _ | exact laws_markClaimS.mono _ _ _ | exact laws_markStatementS.mono _ _ _ | exact laws_toStatementS.mono _ _ | exact spec_DebitsFor.mono _ _ _ _ | exact LeO.refl _ | exact LeO.none _ | refine LeO.ite ?_ ?_ | refine LeO.bind ?_ (fun _ => ?_)) | exact ih0 _ _ _ _ _ _ _ _ _ | exact ih1 _ _ _ _ _ _ _ | exact ih2 _ _ _ | exact impl_DebitsFor.mono _ _ _ _ | exact laws_eqClaimS.mono _ _ _ | exact laws_eqStatementS.mono _ _ _ | exact laws_heldClaimS.mono _ _ _ | exact laws_markClaimS.mono _ _ _ | exact laws_markStatementS.mono _ _ _ | exact laws_toStatementS.mono _ _ | exact spec_DebitsFor.mono _ _ _ _ | exact LeO.none _ | refine LeO.ite ?_ ?_ | refine LeO.bind ?_ (fun _ => ?_))
  ·intro y0 y1 y2
   unfold laws_FnExactDebitsFor.j2
   repeat' (first | (with_reducible first | exact ih0 _ _ _ _ _ _ _ _ _ | exact ih1 _ _ _ _ _ _ _ | exact ih2 _ _ _ | exact impl_DebitsFor.mono _ _ _ _ | exact laws_eqClaimS.mono _ _ _ | exact laws_eqStatementS.mono _ _ _ | exact laws_heldClaimS.mono _ _ _ | exact laws_markClaimS.mono _ _ _ | exact laws_markStatementS.mono _ _ _ | exact laws_toStatementS.mono _ _ | exact spec_DebitsFor.mono _ _ _ _ | exact LeO.refl _ | exact LeO.none _ | refine LeO.ite ?_ ?_ | refine LeO.bind ?_ (fun _ => ?_)) | exact ih0 _ _ _ _ _ _ _ _ _ | exact ih1 _ _ _ _ _ _ _ | exact ih2 _ _ _ | exact impl_DebitsFor.mono _ _ _ _ | exact laws_eqClaimS.mono _ _ _ | exact laws_eqStatementS.mono _ _ _ | exact laws_heldClaimS.mono _ _ _ | exact laws_markClaimS.mono _ _ _ | exact laws_markStatementS.mono _ _ _ | exact laws_toStatementS.mono _ _ | exact spec_DebitsFor.mono _ _ _ _ | exact LeO.none _ | refine LeO.ite ?_ ?_ | refine LeO.bind ?_ (fun _ => ?_))
theorem laws_FnExactDebitsFor.mono : ∀ a0 a1 a2 k, LeO (laws_FnExactDebitsFor.f k a0 a1 a2) (laws_FnExactDebitsFor.f (k + 1) a0 a1 a2) := by
 intro a0 a1 a2 k
 obtain ⟨ih0, ih1, ih2⟩ := laws_FnExactDebitsFor.mono_l k
 unfold laws_FnExactDebitsFor.f
 repeat' (first | (with_reducible first | exact ih0 _ _ _ _ _ _ _ _ _ | exact ih1 _ _ _ _ _ _ _ | exact ih2 _ _ _ | exact impl_DebitsFor.mono _ _ _ _ | exact laws_eqClaimS.mono _ _ _ | exact laws_eqStatementS.mono _ _ _ | exact laws_heldClaimS.mono _ _ _ | exact laws_markClaimS.mono _ _ _ | exact laws_markStatementS.mono _ _ _ | exact laws_toStatementS.mono _ _ | exact spec_DebitsFor.mono _ _ _ _ | exact LeO.refl _ | exact LeO.none _ | refine LeO.ite ?_ ?_ | refine LeO.bind ?_ (fun _ => ?_)) | exact ih0 _ _ _ _ _ _ _ _ _ | exact ih1 _ _ _ _ _ _ _ | exact ih2 _ _ _ | exact impl_DebitsFor.mono _ _ _ _ | exact laws_eqClaimS.mono _ _ _ | exact laws_eqStatementS.mono _ _ _ | exact laws_heldClaimS.mono _ _ _ | exact laws_markClaimS.mono _ _ _ | exact laws_markStatementS.mono _ _ _ | exact laws_toStatementS.mono _ _ | exact spec_DebitsFor.mono _ _ _ _ | exact LeO.none _ | refine LeO.ite ?_ ?_ | refine LeO.bind ?_ (fun _ => ?_))
set_option maxHeartbeats 8000000 in
set_option maxRecDepth 100000 in
theorem laws_FnExactDebitsFor.calls (k : Nat) (a0 : Int) (A1 : Option Addr) (c1 : Nat) (l1 : List (S176)) (a2 : Int) (r : Bool) (w : World) (hr1 : Kd.C k176 w A1 l1.length l1) (hc1 : l1.length ≤ c1) (h : laws_FnExactDebitsFor.f k a0 l1 a2 = some r) (hr_ : r = true) :
  Calls Try.prog 9 #[.int .i64 a0, .slice A1 l1.length c1, .int .i64 a2] w fun e w' => e = .returned (.bool r) ∧ Below w.heap.size w w' := by
 have HR1 := Aside0.mk hr1; have HC1 := Aside0.mk hc1; clear hr1 hc1
 have HB := Aside0.mk (Below.refl w.heap.size w)
 have H : ((laws_szStatementS.f l1 1048576).bind fun t293 => (if t293 < 0 then (some true) else ((laws_toStatementS.f k l1).bind fun t294 => ((spec_DebitsFor.f k a0 t294 a2).bind fun bt297 => ((laws_toStatementS.f k l1).bind fun t301 => ((impl_DebitsFor.f k a0 t301 a2).bind fun bt304 => ((laws_eqClaimS.f k bt304.1 bt297.1).bind fun t308 => (if t308 = true then (laws_FnExactDebitsFor.j0 k a0 l1 a2 bt297.1 bt297.2 t301 bt304.1 bt304.2 (bt304.2 != bt297.2)) else (laws_FnExactDebitsFor.j0 k a0 l1 a2 bt297.1 bt297.2 t301 bt304.1 bt304.2 true))))))))) = some r := h
 clear h; replace H := bS H; obtain ⟨t293, A4, H⟩ := H
 replace H : (if t293 < 0 then (some true) else ((laws_toStatementS.f k l1).bind fun t294 => ((spec_DebitsFor.f k a0 t294 a2).bind fun bt297 => ((laws_toStatementS.f k l1).bind fun t301 => ((impl_DebitsFor.f k a0 t301 a2).bind fun bt304 => ((laws_eqClaimS.f k bt304.1 bt297.1).bind fun t308 => (if t308 = true then (laws_FnExactDebitsFor.j0 k a0 l1 a2 bt297.1 bt297.2 t301 bt304.1 bt304.2 (bt304.2 != bt297.2)) else (laws_FnExactDebitsFor.j0 k a0 l1 a2 bt297.1 bt297.2 t301 bt304.1 bt304.2 true)))))))) = some r := H
 by_cases c5 : t293 < 0
 ·rw [if_pos c5] at H
  have c5b0 : decide (t293 < 0) = true := decide_eq_true c5
  clear c5
  obtain rfl := Option.some.inj H
  go_enter Try.func9, Try.ntmps9
  go_wp2_with (first | ((with_reducible refine gate_callee (f := 47) rfl ?_); refine goesLa (some 20) rfl Try.func47 #[.slice A1 l1.length c1, .int .i64 1048576] rfl ?_; (with_reducible refine (laws_szStatementS.calls _ _ l1 1048576 t293 _ ?side1 ?side2 A4.out).mono ?_); (case side1 => exact cd HR1.out); (case side2 => exact HC1.out); rintro e w' ⟨rfl, ⟨nd, rfl⟩⟩; refine ⟨_, rfl, ?_⟩))
  go_ret
  exact ⟨er2, belowd HB⟩
 ·rw [if_neg c5] at H
  have c5b0 : decide (t293 < 0) = false := decide_eq_false c5
  clear c5; replace H := bS H; obtain ⟨t294, A6, H⟩ := H
  replace H : ((spec_DebitsFor.f k a0 t294 a2).bind fun bt297 => ((laws_toStatementS.f k l1).bind fun t301 => ((impl_DebitsFor.f k a0 t301 a2).bind fun bt304 => ((laws_eqClaimS.f k bt304.1 bt297.1).bind fun t308 => (if t308 = true then (laws_FnExactDebitsFor.j0 k a0 l1 a2 bt297.1 bt297.2 t301 bt304.1 bt304.2 (bt304.2 != bt297.2)) else (laws_FnExactDebitsFor.j0 k a0 l1 a2 bt297.1 bt297.2 t301 bt304.1 bt304.2 true)))))) = some r := H
  replace H := bS H; obtain ⟨⟨t297, t298⟩, A7, H⟩ := H
  replace H : ((laws_toStatementS.f k l1).bind fun t301 => ((impl_DebitsFor.f k a0 t301 a2).bind fun bt304 => ((laws_eqClaimS.f k bt304.1 t297).bind fun t308 => (if t308 = true then (laws_FnExactDebitsFor.j0 k a0 l1 a2 t297 t298 t301 bt304.1 bt304.2 (bt304.2 != t298)) else (laws_FnExactDebitsFor.j0 k a0 l1 a2 t297 t298 t301 bt304.1 bt304.2 true))))) = some r := H
  replace H := bS H; obtain ⟨t301, A8, H⟩ := H
  replace H : ((impl_DebitsFor.f k a0 t301 a2).bind fun bt304 => ((laws_eqClaimS.f k bt304.1 t297).bind fun t308 => (if t308 = true then (laws_FnExactDebitsFor.j0 k a0 l1 a2 t297 t298 t301 bt304.1 bt304.2 (bt304.2 != t298)) else (laws_FnExactDebitsFor.j0 k a0 l1 a2 t297 t298 t301 bt304.1 bt304.2 true)))) = some r := H
  replace H := bS H; obtain ⟨⟨t304, t305⟩, A9, H⟩ := H
  replace H : ((laws_eqClaimS.f k t304 t297).bind fun t308 => (if t308 = true then (laws_FnExactDebitsFor.j0 k a0 l1 a2 t297 t298 t301 t304 t305 (t305 != t298)) else (laws_FnExactDebitsFor.j0 k a0 l1 a2 t297 t298 t301 t304 t305 true))) = some r := H
  have HC10 := Aside0.mk H; clear H
  go_enter Try.func9, Try.ntmps9
  go_upto_region 8 with (first | ((with_reducible refine gate_callee (f := 47) rfl ?_); refine goesLa (some 20) rfl Try.func47 #[.slice A1 l1.length c1, .int .i64 1048576] rfl ?_; (with_reducible refine (laws_szStatementS.calls _ _ l1 1048576 t293 _ ?side1 ?side2 A4.out).mono ?_); (case side1 => exact cd HR1.out); (case side2 => exact HC1.out); rintro e w' ⟨rfl, ⟨nd, rfl⟩⟩; refine ⟨_, rfl, ?_⟩) | ((with_reducible refine gate_callee (f := 49) rfl ?_); refine goesLa (some 26) rfl Try.func49 #[.slice A1 l1.length c1] rfl ?_; (with_reducible refine (laws_toStatementS.calls k _ _ l1 t294 _ ?side1 ?side2 A6.out).mono ?_); (case side1 => exact cd HR1.out); (case side2 => exact HC1.out); rintro e w11 ⟨v295, rfl, ho0, hb⟩; refine ⟨_, rfl, ?_⟩; have HO296 := ak (Kd.R_lower ho0 (below_size (belowd HB))); replace HB := ak (below_step (belowd HB) hb); (try clear hb); (try clear ho0); obtain ⟨Ao12, co12, eo12⟩ := Kd.R_slice HO296.out; subst eo12) | ((with_reducible refine gate_callee (f := 66) rfl ?_); refine goesLa (some 28) rfl Try.func66 #[.int .i64 a0, .slice Ao12 t294.length co12, .int .i64 a2] rfl ?_; (with_reducible refine (spec_DebitsFor.calls k a0 _ _ t294 a2 t297 t298 _ ?side1 ?side2 A7.out).mono ?_); (case side1 => exact cd (Kd.R_reads' HO296.out).2.2); (case side2 => exact (Kd.R_reads' HO296.out).2.1); rintro e w13 ⟨v299, rfl, ho0, hb⟩; refine ⟨_, rfl, ?_⟩; replace HO296 := ak (Kd.R_below (rdl HO296) hb); have HO300 := ak (Kd.R_lower ho0 (below_size (belowd HB))); replace HB := ak (below_step (belowd HB) hb); (try clear hb); (try clear ho0)) | ((with_reducible refine gate_callee (f := 49) rfl ?_); refine goesLa (some 32) rfl Try.func49 #[.slice A1 l1.length c1] rfl ?_; (with_reducible refine (laws_toStatementS.calls k _ _ l1 t301 _ ?side1 ?side2 A8.out).mono ?_); (case side1 => exact cd (Kd.C_below HR1.out HB.out)); (case side2 => exact HC1.out); rintro e w14 ⟨v302, rfl, ho0, hb⟩; refine ⟨_, rfl, ?_⟩; replace HO300 := ak (Kd.R_below (rdl HO300) hb); have HO303 := ak (Kd.R_lower (Kd.R_new' ho0 (Kd.R_lt (rdl HO296))) (below_size (belowd HB))); replace HO296 := ak (Kd.R_elder' (rdl HO296) (Kd.R_base ho0) hb); replace HB := ak (below_step (belowd HB) hb); (try clear hb); (try clear ho0); obtain ⟨Ao15, co15, eo15⟩ := Kd.R_slice HO303.out; subst eo15) | ((with_reducible refine gate_callee (f := 67) rfl ?_); refine goesLa (some 37) rfl Try.func67 #[.int .i64 a0, .slice Ao15 t301.length co15, .int .i64 a2] rfl ?_; (with_reducible refine (impl_DebitsFor.calls k a0 _ _ t301 a2 t304 t305 _ ?side1 ?side2 A9.out).mono ?_); (case side1 => exact cd (Kd.R_reads' HO303.out).2.2); (case side2 => exact (Kd.R_reads' HO303.out).2.1); rintro e w16 ⟨v306, rfl, ho0, hb⟩; refine ⟨_, rfl, ?_⟩; replace HO296 := ak (Kd.R_below (rdl HO296) hb); replace HO303 := ak (Kd.R_below (rdl HO303) hb); have HO307 := ak (Kd.R_lower (Kd.R_new' ho0 (Kd.R_lt (rdl HO300))) (below_size (belowd HB))); replace HO300 := ak (Kd.R_elder' (rdl HO300) (Kd.R_base ho0) hb); replace HB := ak (below_step (belowd HB) hb); (try clear hb); (try clear ho0)))
  (try simp only [Act.put, List.setIfInBounds_toArray, List.set_cons_zero, List.set_cons_succ])
  go_cut [48] (fun v48 wc => ∃ (kq : Nat) (x48_9 : Bool), v48 = .bool x48_9 ∧ Aside0 (laws_FnExactDebitsFor.j0 kq a0 l1 a2 t297 t298 t301 t304 t305 x48_9 = some r) ∧ Aside0 (kq ≤ k) ∧ Aside0 (Kd.R k85 85 wc w.heap.size (fun k_ => some k_ ≠ (v306 : Value).ownBlock) v299 t297) ∧ Aside0 (Kd.R k91 91 wc w.heap.size (fun _ => True) (.slice Ao15 t301.length co15) t301) ∧ Aside0 (Kd.R k85 85 wc w.heap.size (fun k_ => some k_ ≠ (v299 : Value).ownBlock) v306 t304) ∧ Aside0 (Below w.heap.size w wc))
  case first =>
   have H := HC10.out; clear HC10; replace H := bS H; obtain ⟨t308, A17, H⟩ := H
   replace H : (if t308 = true then (laws_FnExactDebitsFor.j0 k a0 l1 a2 t297 t298 t301 t304 t305 (t305 != t298)) else (laws_FnExactDebitsFor.j0 k a0 l1 a2 t297 t298 t301 t304 t305 true)) = some r := H
   by_cases c18 : t308 = true
   ·subst c18
    have H1 : (laws_FnExactDebitsFor.j0 k a0 l1 a2 t297 t298 t301 t304 t305 (t305 != t298)) = some r := by rw [if_pos rfl] at H; exact H
    clear H
    have H := H1
    clear H1
    have H' := Aside0.mk H
    clear H
    obtain ⟨Ao19, co19, eo19⟩ := Kd.R_slice HO307.out
    subst eo19
    obtain ⟨Ao20, co20, eo20⟩ := Kd.R_slice HO300.out
    subst eo20
    go_wp2_with (first | ((with_reducible refine gate_callee (f := 51) rfl ?_); refine goesLa (some 42) rfl Try.func51 #[.slice Ao19 t304.length co19, .slice Ao20 t297.length co20] rfl ?_; (with_reducible refine (laws_eqClaimS.calls k _ _ t304 _ _ t297 true _ ?side1 ?side2 ?side3 ?side4 A17.out).mono ?_); (case side1 => exact cd (Kd.R_reads' HO307.out).2.2); (case side2 => exact (Kd.R_reads' HO307.out).2.1); (case side3 => exact cd (Kd.R_reads' HO300.out).2.2); (case side4 => exact (Kd.R_reads' HO300.out).2.1); rintro e w21 ⟨rfl, hb⟩; refine ⟨_, rfl, ?_⟩; replace HO296 := ak (Kd.R_below (rdl HO296) hb); replace HO300 := ak (Kd.R_below (rdl HO300) hb); replace HO303 := ak (Kd.R_below (rdl HO303) hb); replace HO307 := ak (Kd.R_below (rdl HO307) hb); replace HB := ak (below_step (belowd HB) hb); (try clear hb)))
    go_meet
    case rel => exact ⟨_, ((t305 != t298)), er, H', ⟨by first | omega | exact Nat.le_refl _⟩, ⟨by (with_reducible repeat (first | apply Kd.R_alloc | apply Kd.R_drewN | apply Kd.R_drew)); exact Kd.R_mono HO300.out (fun _ hk => hk.2)⟩, ⟨by (with_reducible repeat (first | apply Kd.R_alloc | apply Kd.R_drewN | apply Kd.R_drew)); exact Kd.R_mono HO303.out (fun _ hk => trivial)⟩, ⟨by (with_reducible repeat (first | apply Kd.R_alloc | apply Kd.R_drewN | apply Kd.R_drew)); exact Kd.R_mono HO307.out (fun _ hk => hk.2)⟩, ⟨belowd HB⟩⟩
   ·replace c18 := Bool.eq_false_iff.mpr c18
    subst c18
    have H1 : (laws_FnExactDebitsFor.j0 k a0 l1 a2 t297 t298 t301 t304 t305 true) = some r := by rw [if_neg (show ¬ (false = true) by decide)] at H; exact H
    clear H
    have H := H1
    clear H1
    have H' := Aside0.mk H
    clear H
    obtain ⟨Ao22, co22, eo22⟩ := Kd.R_slice HO307.out
    subst eo22
    obtain ⟨Ao23, co23, eo23⟩ := Kd.R_slice HO300.out
    subst eo23
    go_wp2_with (first | ((with_reducible refine gate_callee (f := 51) rfl ?_); refine goesLa (some 42) rfl Try.func51 #[.slice Ao22 t304.length co22, .slice Ao23 t297.length co23] rfl ?_; (with_reducible refine (laws_eqClaimS.calls k _ _ t304 _ _ t297 false _ ?side1 ?side2 ?side3 ?side4 A17.out).mono ?_); (case side1 => exact cd (Kd.R_reads' HO307.out).2.2); (case side2 => exact (Kd.R_reads' HO307.out).2.1); (case side3 => exact cd (Kd.R_reads' HO300.out).2.2); (case side4 => exact (Kd.R_reads' HO300.out).2.1); rintro e w24 ⟨rfl, hb⟩; refine ⟨_, rfl, ?_⟩; replace HO296 := ak (Kd.R_below (rdl HO296) hb); replace HO300 := ak (Kd.R_below (rdl HO300) hb); replace HO303 := ak (Kd.R_below (rdl HO303) hb); replace HO307 := ak (Kd.R_below (rdl HO307) hb); replace HB := ak (below_step (belowd HB) hb); (try clear hb)))
    go_meet
    case rel => exact ⟨_, (true), er, H', ⟨by first | omega | exact Nat.le_refl _⟩, ⟨by (with_reducible repeat (first | apply Kd.R_alloc | apply Kd.R_drewN | apply Kd.R_drew)); exact Kd.R_mono HO300.out (fun _ hk => hk.2)⟩, ⟨by (with_reducible repeat (first | apply Kd.R_alloc | apply Kd.R_drewN | apply Kd.R_drew)); exact Kd.R_mono HO303.out (fun _ hk => trivial)⟩, ⟨by (with_reducible repeat (first | apply Kd.R_alloc | apply Kd.R_drewN | apply Kd.R_drew)); exact Kd.R_mono HO307.out (fun _ hk => hk.2)⟩, ⟨belowd HB⟩⟩
  case rest =>
   clear HC10; (try clear c1); (try clear c5b0)
   obtain ⟨kq, x48_9, rfl, HA, HJ9, HO_8, HO_10, HO_11, HB⟩ := hcut
   cases kq with
   | zero => exact absurd HA.out (by simp [laws_FnExactDebitsFor.j0])
   | succ kj9 =>
    have H := HA.out; clear HA
    simp only [laws_FnExactDebitsFor.j0] at H
    by_cases c25 : x48_9 = true
    ·subst c25
     have H1 : (some false) = some r := by rw [if_pos rfl] at H; exact H
     clear H
     have H := H1
     clear H1
     exact absurd (H.trans (congrArg some hr_)) (by simp)
    ·replace c25 := Bool.eq_false_iff.mpr c25
     subst c25
     have H1 : ((laws_toStatementS.f kj9 l1).bind fun t309 => ((laws_eqStatementS.f kj9 t301 t309).bind fun t312 => (if t312 = true then ((laws_markStatementS.f kj9 t301 1).bind fun bt313 => (if bt313.1 < 0 then (laws_FnExactDebitsFor.j1 kj9 a0 l1 a2 t297 t298 t304 true) else ((laws_eqClaimS.f kj9 t304 t297).bind fun t315 => (if t315 = true then (laws_FnExactDebitsFor.j1 kj9 a0 l1 a2 t297 t298 t304 (t305 != t298)) else (laws_FnExactDebitsFor.j1 kj9 a0 l1 a2 t297 t298 t304 true))))) else (some false)))) = some r := by rw [if_neg (show ¬ (false = true) by decide)] at H; exact H
     clear H
     have H := H1
     clear H1; replace H := bS H; obtain ⟨t309, A26, H⟩ := H
     replace H : ((laws_eqStatementS.f kj9 t301 t309).bind fun t312 => (if t312 = true then ((laws_markStatementS.f kj9 t301 1).bind fun bt313 => (if bt313.1 < 0 then (laws_FnExactDebitsFor.j1 kj9 a0 l1 a2 t297 t298 t304 true) else ((laws_eqClaimS.f kj9 t304 t297).bind fun t315 => (if t315 = true then (laws_FnExactDebitsFor.j1 kj9 a0 l1 a2 t297 t298 t304 (t305 != t298)) else (laws_FnExactDebitsFor.j1 kj9 a0 l1 a2 t297 t298 t304 true))))) else (some false))) = some r := H
     replace H := bS H; obtain ⟨t312, A27, H⟩ := H
     replace H : (if t312 = true then ((laws_markStatementS.f kj9 t301 1).bind fun bt313 => (if bt313.1 < 0 then (laws_FnExactDebitsFor.j1 kj9 a0 l1 a2 t297 t298 t304 true) else ((laws_eqClaimS.f kj9 t304 t297).bind fun t315 => (if t315 = true then (laws_FnExactDebitsFor.j1 kj9 a0 l1 a2 t297 t298 t304 (t305 != t298)) else (laws_FnExactDebitsFor.j1 kj9 a0 l1 a2 t297 t298 t304 true))))) else (some false)) = some r := H
     by_cases c28 : t312 = true
     ·subst c28
      have H1 : ((laws_markStatementS.f kj9 t301 1).bind fun bt313 => (if bt313.1 < 0 then (laws_FnExactDebitsFor.j1 kj9 a0 l1 a2 t297 t298 t304 true) else ((laws_eqClaimS.f kj9 t304 t297).bind fun t315 => (if t315 = true then (laws_FnExactDebitsFor.j1 kj9 a0 l1 a2 t297 t298 t304 (t305 != t298)) else (laws_FnExactDebitsFor.j1 kj9 a0 l1 a2 t297 t298 t304 true))))) = some r := by rw [if_pos rfl] at H; exact H
      clear H
      have H := H1
      clear H1; replace H := bS H; obtain ⟨⟨t313, t314⟩, A29, H⟩ := H
      replace H : (if t313 < 0 then (laws_FnExactDebitsFor.j1 kj9 a0 l1 a2 t297 t298 t304 true) else ((laws_eqClaimS.f kj9 t304 t297).bind fun t315 => (if t315 = true then (laws_FnExactDebitsFor.j1 kj9 a0 l1 a2 t297 t298 t304 (t305 != t298)) else (laws_FnExactDebitsFor.j1 kj9 a0 l1 a2 t297 t298 t304 true)))) = some r := H
      have HC30 := Aside0.mk H; clear H
      go_upto_region 14 with (first | ((with_reducible refine gate_callee (f := 49) rfl ?_); refine goesLa (some 51) rfl Try.func49 #[.slice A1 l1.length c1] rfl ?_; (with_reducible refine (laws_toStatementS.calls kj9 _ _ l1 t309 _ ?side1 ?side2 A26.out).mono ?_); (case side1 => exact cd (Kd.C_below HR1.out HB.out)); (case side2 => exact HC1.out); rintro e w31 ⟨v310, rfl, ho0, hb⟩; refine ⟨_, rfl, ?_⟩; replace HO_8 := ak (Kd.R_below (rdl HO_8) hb); replace HO_11 := ak (Kd.R_below (rdl HO_11) hb); have HO311 := ak (Kd.R_lower (Kd.R_new' ho0 (Kd.R_lt (rdl HO_10))) (below_size (belowd HB))); replace HO_10 := ak (Kd.R_elder' (rdl HO_10) (Kd.R_base ho0) hb); replace HB := ak (below_step (belowd HB) hb); (try clear hb); (try clear ho0); obtain ⟨Ao32, co32, eo32⟩ := Kd.R_slice HO311.out; subst eo32) | ((with_reducible refine gate_callee (f := 52) rfl ?_); refine goesLa (some 52) rfl Try.func52 #[.slice Ao15 t301.length co15, .slice Ao32 t309.length co32] rfl ?_; (with_reducible refine (laws_eqStatementS.calls kj9 _ _ t301 _ _ t309 true _ ?side1 ?side2 ?side3 ?side4 A27.out).mono ?_); (case side1 => exact cd (Kd.R_reads' HO_10.out).2.2); (case side2 => exact (Kd.R_reads' HO_10.out).2.1); (case side3 => exact cd (Kd.R_reads' HO311.out).2.2); (case side4 => exact (Kd.R_reads' HO311.out).2.1); rintro e w33 ⟨rfl, hb⟩; refine ⟨_, rfl, ?_⟩; replace HO_8 := ak (Kd.R_below (rdl HO_8) hb); replace HO_10 := ak (Kd.R_below (rdl HO_10) hb); replace HO_11 := ak (Kd.R_below (rdl HO_11) hb); replace HO311 := ak (Kd.R_below (rdl HO311) hb); replace HB := ak (below_step (belowd HB) hb); (try clear hb)) | ((with_reducible refine gate_callee (f := 53) rfl ?_); refine goesLa (some 56) rfl Try.func53 #[.slice Ao15 t301.length co15, .int .i64 1] rfl ?_; (with_reducible refine (laws_markStatementS.calls kj9 (fun k_ => some k_ = (.slice Ao15 t301.length co15 : Value).ownBlock) (.slice Ao15 t301.length co15) t301 1 t313 t314 w _ ?side1 ?side2 A29.out).mono ?_); (case side1 => repeat (first | (with_reducible first | exact HB.out | apply below_alloc | apply pw_below_drewN | apply below_drew1) | exact HB.out)); (case side2 => exact Kd.R_tight rfl HO_10.out); rintro e w34 ⟨rfl, hy0, hb, hkp⟩; refine ⟨_, rfl, ?_⟩; replace HO_8 := ak (Kd.R_mono (ok' := fun k_ => some k_ ≠ (v306 : Value).ownBlock) (Kd.R_keptB ((Kd.R_apart' HO_8.out (Kd.R_typed HO_10.out) (by decide))) hkp (fun k_ hk_ hs_ => (hk_.2) hs_)) (fun k_ hk_ => hk_.1.1)); replace HO_11 := ak (Kd.R_mono (ok' := fun k_ => some k_ ≠ (v299 : Value).ownBlock) (Kd.R_keptB ((Kd.R_apart' HO_11.out (Kd.R_typed HO_10.out) (by decide))) hkp (fun k_ hk_ hs_ => (hk_.2) hs_)) (fun k_ hk_ => hk_.1.1)); replace HO_10 := ak (Kd.R_reok rfl hy0 (fun k_ e_ => HO_10.out.1 k_ e_)); replace HO311 := ak (Kd.R_mono (ok' := fun k_ => some k_ ≠ (.slice Ao15 t301.length co15 : Value).ownBlock) (Kd.R_keptB (HO311.out) hkp (fun k_ hk_ hs_ => (hk_.2) hs_)) (fun k_ hk_ => hk_.1.2)); replace HB := ak (hb); (try clear hb); (try clear hkp); (try clear hy0)))
      (try simp only [Act.put, List.setIfInBounds_toArray, List.set_cons_zero, List.set_cons_succ])
      go_cut [69] (fun v69 wc => ∃ (kq : Nat) (x69_29 : Bool), v69 = .bool x69_29 ∧ Aside0 (laws_FnExactDebitsFor.j1 kq a0 l1 a2 t297 t298 t304 x69_29 = some r) ∧ Aside0 (kq ≤ kj9) ∧ Aside0 (Kd.R k85 85 wc w.heap.size (fun k_ => some k_ ≠ (v306 : Value).ownBlock) v299 t297) ∧ Aside0 (Kd.R k85 85 wc w.heap.size (fun k_ => some k_ ≠ (v299 : Value).ownBlock) v306 t304) ∧ Aside0 (Below w.heap.size w wc))
      case first =>
       have H := HC30.out; clear HC30
       by_cases c35 : t313 < 0
       ·rw [if_pos c35] at H
        have c35b0 : decide (t313 < 0) = true := decide_eq_true c35
        clear c35
        (first | rw [c35b0] | (simp only [i64_w, i32_w]; rw [c35b0]) | skip)
        have H' := Aside0.mk H
        clear H; go_wp2
        go_meet
        case rel => exact ⟨_, (true), er, H', ⟨by have := HJ9.out; first | omega | exact Nat.le_refl _⟩, ⟨rdl HO_8⟩, ⟨rdl HO_11⟩, ⟨belowd HB⟩⟩
       ·rw [if_neg c35] at H
        have c35b0 : decide (t313 < 0) = false := decide_eq_false c35
        clear c35
        (first | rw [c35b0] | (simp only [i64_w, i32_w]; rw [c35b0]) | skip)
        replace H := bS H; obtain ⟨t315, A36, H⟩ := H
        replace H : (if t315 = true then (laws_FnExactDebitsFor.j1 kj9 a0 l1 a2 t297 t298 t304 (t305 != t298)) else (laws_FnExactDebitsFor.j1 kj9 a0 l1 a2 t297 t298 t304 true)) = some r := H
        by_cases c37 : t315 = true
        ·subst c37
         have H1 : (laws_FnExactDebitsFor.j1 kj9 a0 l1 a2 t297 t298 t304 (t305 != t298)) = some r := by rw [if_pos rfl] at H; exact H
         clear H
         have H := H1
         clear H1
         have H' := Aside0.mk H
         clear H
         obtain ⟨Ao38, co38, eo38⟩ := Kd.R_slice HO_11.out
         subst eo38
         obtain ⟨Ao39, co39, eo39⟩ := Kd.R_slice HO_8.out
         subst eo39
         go_wp2_with (first | (go_at_call 51; (with_reducible refine (laws_eqClaimS.calls kj9 _ _ t304 _ _ t297 true _ ?side1 ?side2 ?side3 ?side4 A36.out).mono ?_); (case side1 => exact cd (Kd.R_reads' HO_11.out).2.2); (case side2 => exact (Kd.R_reads' HO_11.out).2.1); (case side3 => exact cd (Kd.R_reads' HO_8.out).2.2); (case side4 => exact (Kd.R_reads' HO_8.out).2.1); rintro e w40 ⟨rfl, hb⟩; replace HO_8 := ak (Kd.R_below (rdl HO_8) hb); replace HO_10 := ak (Kd.R_below (rdl HO_10) hb); replace HO_11 := ak (Kd.R_below (rdl HO_11) hb); replace HO311 := ak (Kd.R_below (rdl HO311) hb); replace HB := ak (below_step (belowd HB) hb); (try clear hb)))
         go_meet
         case rel => exact ⟨_, ((t305 != t298)), er, H', ⟨by have := HJ9.out; first | omega | exact Nat.le_refl _⟩, ⟨rdl HO_8⟩, ⟨rdl HO_11⟩, ⟨belowd HB⟩⟩
        ·replace c37 := Bool.eq_false_iff.mpr c37
         subst c37
         have H1 : (laws_FnExactDebitsFor.j1 kj9 a0 l1 a2 t297 t298 t304 true) = some r := by rw [if_neg (show ¬ (false = true) by decide)] at H; exact H
         clear H
         have H := H1
         clear H1
         have H' := Aside0.mk H
         clear H
         obtain ⟨Ao41, co41, eo41⟩ := Kd.R_slice HO_11.out
         subst eo41
         obtain ⟨Ao42, co42, eo42⟩ := Kd.R_slice HO_8.out
         subst eo42
         go_wp2_with (first | (go_at_call 51; (with_reducible refine (laws_eqClaimS.calls kj9 _ _ t304 _ _ t297 false _ ?side1 ?side2 ?side3 ?side4 A36.out).mono ?_); (case side1 => exact cd (Kd.R_reads' HO_11.out).2.2); (case side2 => exact (Kd.R_reads' HO_11.out).2.1); (case side3 => exact cd (Kd.R_reads' HO_8.out).2.2); (case side4 => exact (Kd.R_reads' HO_8.out).2.1); rintro e w43 ⟨rfl, hb⟩; replace HO_8 := ak (Kd.R_below (rdl HO_8) hb); replace HO_10 := ak (Kd.R_below (rdl HO_10) hb); replace HO_11 := ak (Kd.R_below (rdl HO_11) hb); replace HO311 := ak (Kd.R_below (rdl HO311) hb); replace HB := ak (below_step (belowd HB) hb); (try clear hb)))
         go_meet
         case rel => exact ⟨_, (true), er, H', ⟨by have := HJ9.out; first | omega | exact Nat.le_refl _⟩, ⟨rdl HO_8⟩, ⟨rdl HO_11⟩, ⟨belowd HB⟩⟩
      case rest =>
       clear HC30; (try clear c1); (try clear c25); (try clear c28)
       obtain ⟨kq, x69_29, rfl, HA, HJ29, HO_8, HO_11, HB⟩ := hcut
       cases kq with
       | zero => exact absurd HA.out (by simp [laws_FnExactDebitsFor.j1])
       | succ kj29 =>
        have H := HA.out; clear HA
        simp only [laws_FnExactDebitsFor.j1] at H
        by_cases c44 : x69_29 = true
        ·subst c44
         have H1 : (some false) = some r := by rw [if_pos rfl] at H; exact H
         clear H
         have H := H1
         clear H1
         exact absurd (H.trans (congrArg some hr_)) (by simp)
        ·replace c44 := Bool.eq_false_iff.mpr c44
         subst c44
         have H1 : ((laws_markClaimS.f kj29 t304 1).bind fun bt316 => ((laws_heldClaimS.f kj29 bt316.2 1).bind fun t318 => (if t318 < 0 then (some false) else (if t318 = bt316.1 then ((laws_toStatementS.f kj29 l1).bind fun t319 => ((impl_DebitsFor.f kj29 a0 t319 a2).bind fun bt322 => ((laws_eqClaimS.f kj29 bt322.1 t297).bind fun t326 => (if t326 = true then (laws_FnExactDebitsFor.j2 kj29 bt316.2 bt316.1 (bt322.2 != t298)) else (laws_FnExactDebitsFor.j2 kj29 bt316.2 bt316.1 true))))) else (some false))))) = some r := by rw [if_neg (show ¬ (false = true) by decide)] at H; exact H
         clear H
         have H := H1
         clear H1; replace H := bS H; obtain ⟨⟨t316, t317⟩, A45, H⟩ := H
         replace H : ((laws_heldClaimS.f kj29 t317 1).bind fun t318 => (if t318 < 0 then (some false) else (if t318 = t316 then ((laws_toStatementS.f kj29 l1).bind fun t319 => ((impl_DebitsFor.f kj29 a0 t319 a2).bind fun bt322 => ((laws_eqClaimS.f kj29 bt322.1 t297).bind fun t326 => (if t326 = true then (laws_FnExactDebitsFor.j2 kj29 t317 t316 (bt322.2 != t298)) else (laws_FnExactDebitsFor.j2 kj29 t317 t316 true))))) else (some false)))) = some r := H
         replace H := bS H; obtain ⟨t318, A46, H⟩ := H
         replace H : (if t318 < 0 then (some false) else (if t318 = t316 then ((laws_toStatementS.f kj29 l1).bind fun t319 => ((impl_DebitsFor.f kj29 a0 t319 a2).bind fun bt322 => ((laws_eqClaimS.f kj29 bt322.1 t297).bind fun t326 => (if t326 = true then (laws_FnExactDebitsFor.j2 kj29 t317 t316 (bt322.2 != t298)) else (laws_FnExactDebitsFor.j2 kj29 t317 t316 true))))) else (some false))) = some r := H
         by_cases c47 : t318 < 0
         ·rw [if_pos c47] at H
          have c47b0 : decide (t318 < 0) = true := decide_eq_true c47
          clear c47
          exact absurd (H.trans (congrArg some hr_)) (by simp)
         ·rw [if_neg c47] at H
          have c47b0 : decide (t318 < 0) = false := decide_eq_false c47
          clear c47
          by_cases c48 : t318 = t316
          ·rw [if_pos c48] at H
           have c48b0 : (t318 == t316) = true := beq_iff_eq.mpr c48
           have c48b1 : (t318 != t316) = false := bne_eq_false_iff_eq.mpr c48
           clear c48; replace H := bS H; obtain ⟨t319, A49, H⟩ := H
           replace H : ((impl_DebitsFor.f kj29 a0 t319 a2).bind fun bt322 => ((laws_eqClaimS.f kj29 bt322.1 t297).bind fun t326 => (if t326 = true then (laws_FnExactDebitsFor.j2 kj29 t317 t316 (bt322.2 != t298)) else (laws_FnExactDebitsFor.j2 kj29 t317 t316 true)))) = some r := H
           replace H := bS H; obtain ⟨⟨t322, t323⟩, A50, H⟩ := H
           replace H : ((laws_eqClaimS.f kj29 t322 t297).bind fun t326 => (if t326 = true then (laws_FnExactDebitsFor.j2 kj29 t317 t316 (t323 != t298)) else (laws_FnExactDebitsFor.j2 kj29 t317 t316 true))) = some r := H
           have HC51 := Aside0.mk H; clear H
           obtain ⟨Ao52, co52, eo52⟩ := Kd.R_slice HO_11.out
           subst eo52
           go_upto_region 25 with (first | ((with_reducible refine gate_callee (f := 54) rfl ?_); refine goesLa (some 72) rfl Try.func54 #[.slice Ao52 t304.length co52, .int .i64 1] rfl ?_; (with_reducible refine (laws_markClaimS.calls kj29 (fun k_ => some k_ = (.slice Ao52 t304.length co52 : Value).ownBlock) (.slice Ao52 t304.length co52) t304 1 t316 t317 w _ ?side1 ?side2 A45.out).mono ?_); (case side1 => repeat (first | (with_reducible first | exact HB.out | apply below_alloc | apply pw_below_drewN | apply below_drew1) | exact HB.out)); (case side2 => exact Kd.R_tight rfl HO_11.out); rintro e w53 ⟨rfl, hy0, hb, hkp⟩; refine ⟨_, rfl, ?_⟩; replace HO_8 := ak (Kd.R_mono (ok' := fun k_ => some k_ ≠ (.slice Ao52 t304.length co52 : Value).ownBlock) (Kd.R_keptB (HO_8.out) hkp (fun k_ hk_ hs_ => (hk_) hs_)) (fun k_ hk_ => hk_.1)); replace HO_11 := ak (Kd.R_reok rfl hy0 (fun k_ e_ => HO_11.out.1 k_ e_)); replace HB := ak (hb); (try clear hb); (try clear hkp); (try clear hy0)) | ((with_reducible refine gate_callee (f := 55) rfl ?_); refine goesL_ (some 75) rfl rfl Try.func55 (by kernel_rfl) rfl #[.slice Ao52 t317.length co52, .int .i64 1] rfl (by (try simp only [List.map_toArray, List.map_cons, List.map_nil]); first | done | (rw [show t317.length = t304.length from (Kd.R_reads' HO_11.out).1.symm] <;> rfl) | rfl | (simp only [List.length_drop, List.length_take]; rfl)) ?_; (with_reducible refine (laws_heldClaimS.calls kj29 _ _ t317 1 t318 _ ?side1 ?side2 A46.out).mono ?_); (case side1 => exact cd (Kd.R_reads' HO_11.out).2.2); (case side2 => rw [show t317.length = t304.length from (Kd.R_reads' HO_11.out).1.symm]; exact (Kd.R_reads' HO_11.out).2.1); rintro e w' ⟨rfl, ⟨nd, rfl⟩⟩; refine ⟨_, rfl, ?_⟩) | ((with_reducible refine gate_callee (f := 49) rfl ?_); refine goesLa (some 84) rfl Try.func49 #[.slice A1 l1.length c1] rfl ?_; (with_reducible refine (laws_toStatementS.calls kj29 _ _ l1 t319 _ ?side1 ?side2 A49.out).mono ?_); (case side1 => exact cd (Kd.C_below HR1.out (belowd HB))); (case side2 => exact HC1.out); rintro e w54 ⟨v320, rfl, ho0, hb⟩; refine ⟨_, rfl, ?_⟩; replace HO_8 := ak (Kd.R_below (rdl HO_8) hb); replace HO_11 := ak (Kd.R_below (rdl HO_11) hb); have HO321 := ak (Kd.R_lower ho0 (below_size (belowd HB))); replace HB := ak (below_step (belowd HB) hb); (try clear hb); (try clear ho0); obtain ⟨Ao55, co55, eo55⟩ := Kd.R_slice HO321.out; subst eo55) | ((with_reducible refine gate_callee (f := 67) rfl ?_); refine goesLa (some 86) rfl Try.func67 #[.int .i64 a0, .slice Ao55 t319.length co55, .int .i64 a2] rfl ?_; (with_reducible refine (impl_DebitsFor.calls kj29 a0 _ _ t319 a2 t322 t323 _ ?side1 ?side2 A50.out).mono ?_); (case side1 => exact cd (Kd.R_reads' HO321.out).2.2); (case side2 => exact (Kd.R_reads' HO321.out).2.1); rintro e w56 ⟨v324, rfl, ho0, hb⟩; refine ⟨_, rfl, ?_⟩; replace HO321 := ak (Kd.R_below (rdl HO321) hb); have HO325 := ak (Kd.R_lower (Kd.R_new' (Kd.R_new' ho0 (Kd.R_lt (rdl HO_8))) (Kd.R_lt (rdl HO_11))) (below_size (belowd HB))); replace HO_8 := ak (Kd.R_elder' (rdl HO_8) (Kd.R_base ho0) hb); replace HO_11 := ak (Kd.R_elder' (rdl HO_11) (Kd.R_base ho0) hb); replace HB := ak (below_step (belowd HB) hb); (try clear hb); (try clear ho0)))
           (try simp only [Act.put, List.setIfInBounds_toArray, List.set_cons_zero, List.set_cons_succ])
           go_cut [97] (fun v97 wc => ∃ (kq : Nat) (x97_50 : Bool), v97 = .bool x97_50 ∧ Aside0 (laws_FnExactDebitsFor.j2 kq t317 t316 x97_50 = some r) ∧ Aside0 (kq ≤ kj29) ∧ Aside0 (Kd.R k85 85 wc w.heap.size (fun _ => True) (.slice Ao52 t304.length co52) t317) ∧ Aside0 (Below w.heap.size w wc))
           case first =>
            have H := HC51.out; clear HC51; replace H := bS H; obtain ⟨t326, A57, H⟩ := H
            replace H : (if t326 = true then (laws_FnExactDebitsFor.j2 kj29 t317 t316 (t323 != t298)) else (laws_FnExactDebitsFor.j2 kj29 t317 t316 true)) = some r := H
            by_cases c58 : t326 = true
            ·subst c58
             have H1 : (laws_FnExactDebitsFor.j2 kj29 t317 t316 (t323 != t298)) = some r := by rw [if_pos rfl] at H; exact H
             clear H
             have H := H1
             clear H1
             have H' := Aside0.mk H
             clear H
             obtain ⟨Ao59, co59, eo59⟩ := Kd.R_slice HO325.out
             subst eo59
             obtain ⟨Ao60, co60, eo60⟩ := Kd.R_slice HO_8.out
             subst eo60
             go_wp2_with (first | ((with_reducible refine gate_callee (f := 51) rfl ?_); refine goesLa (some 91) rfl Try.func51 #[.slice Ao59 t322.length co59, .slice Ao60 t297.length co60] rfl ?_; (with_reducible refine (laws_eqClaimS.calls kj29 _ _ t322 _ _ t297 true _ ?side1 ?side2 ?side3 ?side4 A57.out).mono ?_); (case side1 => exact cd (Kd.R_reads' HO325.out).2.2); (case side2 => exact (Kd.R_reads' HO325.out).2.1); (case side3 => exact cd (Kd.R_reads' HO_8.out).2.2); (case side4 => exact (Kd.R_reads' HO_8.out).2.1); rintro e w61 ⟨rfl, hb⟩; refine ⟨_, rfl, ?_⟩; replace HO_8 := ak (Kd.R_below (rdl HO_8) hb); replace HO_11 := ak (Kd.R_below (rdl HO_11) hb); replace HO321 := ak (Kd.R_below (rdl HO321) hb); replace HO325 := ak (Kd.R_below (rdl HO325) hb); replace HB := ak (below_step (belowd HB) hb); (try clear hb)))
             go_meet
             case rel => exact ⟨_, ((t323 != t298)), er, H', ⟨by have := HJ9.out; have := HJ29.out; first | omega | exact Nat.le_refl _⟩, ⟨by (with_reducible repeat (first | apply Kd.R_alloc | apply Kd.R_drewN | apply Kd.R_drew)); exact Kd.R_mono HO_11.out (fun _ hk => trivial)⟩, ⟨belowd HB⟩⟩
            ·replace c58 := Bool.eq_false_iff.mpr c58
             subst c58
             have H1 : (laws_FnExactDebitsFor.j2 kj29 t317 t316 true) = some r := by rw [if_neg (show ¬ (false = true) by decide)] at H; exact H
             clear H
             have H := H1
             clear H1
             have H' := Aside0.mk H
             clear H
             obtain ⟨Ao62, co62, eo62⟩ := Kd.R_slice HO325.out
             subst eo62
             obtain ⟨Ao63, co63, eo63⟩ := Kd.R_slice HO_8.out
             subst eo63
             go_wp2_with (first | ((with_reducible refine gate_callee (f := 51) rfl ?_); refine goesLa (some 91) rfl Try.func51 #[.slice Ao62 t322.length co62, .slice Ao63 t297.length co63] rfl ?_; (with_reducible refine (laws_eqClaimS.calls kj29 _ _ t322 _ _ t297 false _ ?side1 ?side2 ?side3 ?side4 A57.out).mono ?_); (case side1 => exact cd (Kd.R_reads' HO325.out).2.2); (case side2 => exact (Kd.R_reads' HO325.out).2.1); (case side3 => exact cd (Kd.R_reads' HO_8.out).2.2); (case side4 => exact (Kd.R_reads' HO_8.out).2.1); rintro e w64 ⟨rfl, hb⟩; refine ⟨_, rfl, ?_⟩; replace HO_8 := ak (Kd.R_below (rdl HO_8) hb); replace HO_11 := ak (Kd.R_below (rdl HO_11) hb); replace HO321 := ak (Kd.R_below (rdl HO321) hb); replace HO325 := ak (Kd.R_below (rdl HO325) hb); replace HB := ak (below_step (belowd HB) hb); (try clear hb)))
             go_meet
             case rel => exact ⟨_, (true), er, H', ⟨by have := HJ9.out; have := HJ29.out; first | omega | exact Nat.le_refl _⟩, ⟨by (with_reducible repeat (first | apply Kd.R_alloc | apply Kd.R_drewN | apply Kd.R_drew)); exact Kd.R_mono HO_11.out (fun _ hk => trivial)⟩, ⟨belowd HB⟩⟩
           case rest =>
            clear HC51; (try clear c1); (try clear c44); (try clear c47b0); (try clear c48b0); (try clear c48b1)
            obtain ⟨kq, x97_50, rfl, HA, HJ50, HO_11, HB⟩ := hcut
            have hl11_50 := (Kd.R_reads' HO_11.out).1
            rw [hl11_50] at HO_11
            (try simp only [hl11_50])
            cases kq with
            | zero => exact absurd HA.out (by simp [laws_FnExactDebitsFor.j2])
            | succ kj50 =>
             have H := HA.out; clear HA
             simp only [laws_FnExactDebitsFor.j2] at H
             by_cases c65 : x97_50 = true
             ·subst c65
              have H1 : (some false) = some r := by rw [if_pos rfl] at H; exact H
              clear H
              have H := H1
              clear H1
              exact absurd (H.trans (congrArg some hr_)) (by simp)
             ·replace c65 := Bool.eq_false_iff.mpr c65
              subst c65
              have H1 : ((laws_heldClaimS.f kj50 t317 1).bind fun t327 => (if t327 < 0 then (some false) else (if t327 = t316 then (some true) else (some false)))) = some r := by rw [if_neg (show ¬ (false = true) by decide)] at H; exact H
              clear H
              have H := H1
              clear H1; replace H := bS H; obtain ⟨t327, A66, H⟩ := H
              replace H : (if t327 < 0 then (some false) else (if t327 = t316 then (some true) else (some false))) = some r := H
              by_cases c67 : t327 < 0
              ·rw [if_pos c67] at H
               have c67b0 : decide (t327 < 0) = true := decide_eq_true c67
               clear c67
               exact absurd (H.trans (congrArg some hr_)) (by simp)
              ·rw [if_neg c67] at H
               have c67b0 : decide (t327 < 0) = false := decide_eq_false c67
               clear c67
               by_cases c68 : t327 = t316
               ·rw [if_pos c68] at H
                have c68b0 : (t327 == t316) = true := beq_iff_eq.mpr c68
                have c68b1 : (t327 != t316) = false := bne_eq_false_iff_eq.mpr c68
                clear c68
                obtain rfl := Option.some.inj H
                go_wp2_with (first | ((with_reducible refine gate_callee (f := 55) rfl ?_); refine goesLa (some 100) rfl Try.func55 #[.slice Ao52 t317.length co52, .int .i64 1] rfl ?_; (with_reducible refine (laws_heldClaimS.calls kj50 _ _ t317 1 t327 _ ?side1 ?side2 A66.out).mono ?_); (case side1 => exact cd (Kd.R_reads' HO_11.out).2.2); (case side2 => exact (Kd.R_reads' HO_11.out).2.1); rintro e w' ⟨rfl, ⟨nd, rfl⟩⟩; refine ⟨_, rfl, ?_⟩))
                go_ret
                exact ⟨er2, belowd HB⟩
               ·rw [if_neg c68] at H
                have c68b0 : (t327 == t316) = false := beq_eq_false_iff_ne.mpr c68
                have c68b1 : (t327 != t316) = true := bne_iff_ne.mpr c68
                exact absurd (H.trans (congrArg some hr_)) (by simp)
          ·rw [if_neg c48] at H
           have c48b0 : (t318 == t316) = false := beq_eq_false_iff_ne.mpr c48
           have c48b1 : (t318 != t316) = true := bne_iff_ne.mpr c48
           exact absurd (H.trans (congrArg some hr_)) (by simp)
     ·replace c28 := Bool.eq_false_iff.mpr c28
      subst c28
      have H1 : (some false) = some r := by rw [if_neg (show ¬ (false = true) by decide)] at H; exact H
      clear H
      have H := H1
      clear H1
      exact absurd (H.trans (congrArg some hr_)) (by simp)

/-- THE ONE PURE STATEMENT of laws_FnExactDebitsFor. -/
def laws_FnExactDebitsFor.Pure : Prop := ∀ (a0 : Int) (l1 : List (S176)) (a2 : Int), (Lit.int .i64 a0).wf = true → (l1.length ≤ maxLen ∧ ∀ y ∈ l1, W176 y) → (Lit.int .i64 a2).wf = true → ∃ k, laws_FnExactDebitsFor.f k a0 l1 a2 = some true
theorem laws_FnExactDebitsFor.walk (P : laws_FnExactDebitsFor.Pure) (a0 : Int) (A1 : Option Addr) (c1 : Nat) (l1 : List (S176)) (a2 : Int) (w : World) (hr1 : Kd.C k176 w A1 l1.length l1) (hc1 : l1.length ≤ c1) (g0 : (Lit.int .i64 a0).wf = true) (g1 : (l1.length ≤ maxLen ∧ ∀ y ∈ l1, W176 y)) (g2 : (Lit.int .i64 a2).wf = true) :
  Calls Try.prog 9 #[.int .i64 a0, .slice A1 l1.length c1, .int .i64 a2] w fun e w' => e = .returned (.bool true) ∧ Below w.heap.size w w' := by
 obtain ⟨k, h⟩ := P a0 l1 a2 g0 g1 g2
 refine (laws_FnExactDebitsFor.calls k a0 _ _ l1 a2 true w hr1 hc1 h rfl).mono ?_
 rintro e w' ⟨rfl, hd⟩
 exact ⟨rfl, hd⟩

end Go.Proofs.Ytkgogglnipdcfaa.QFnExactDebitsFor
