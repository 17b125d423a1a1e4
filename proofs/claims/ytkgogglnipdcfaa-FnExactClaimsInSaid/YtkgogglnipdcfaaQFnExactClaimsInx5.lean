-- printed by this session's own program (wip/tools/pp.py: the kit's print.py with changes); Lean checks it
import Derived.Test.YtkgogglnipdcfaaQFnExactClaimsInx0
import Derived.Test.YtkgogglnipdcfaaQFnExactClaimsInx2
import Derived.Test.YtkgogglnipdcfaaQFnExactClaimsInx4
namespace Go.Proofs.Ytkgogglnipdcfaa.QFnExactClaimsIn
open Go.RowKit Go.Proofs.YtkgogglnipdcfaaW.PrintWords Go.Proofs.YtkgogglnipdcfaaW.PrintLast Go.Proofs.YtkgogglnipdcfaaW.PrintMore
attribute [local go_sem] max2_int min2_int max_two min_two max_three min_three max_four min_four strLss strGtr strLeq strGeq   -- for this text's walks alone
set_option linter.unusedVariables false
set_option linter.unusedSimpArgs false

/-! ### laws_FnExactClaimsIn: function 7 -/
mutual
def laws_FnExactClaimsIn.j0 : Nat → List (S176) → List (S85) → Bool → List (S91) → List (S85) → Bool → Bool → Option (Bool)
  | 0, _, _, _, _, _, _, _ => none
  | k + 1, x0, x4, x5, x6, x7, x8, x40 => if x40 = true then (some false) else ((laws_toStatementS.f k x0).bind fun t260 => ((laws_eqStatementS.f k x6 t260).bind fun t263 => (if t263 = true then ((laws_markStatementS.f k x6 1).bind fun bt264 => (if bt264.1 < 0 then (laws_FnExactClaimsIn.j1 k x0 x4 x5 x7 true) else ((laws_eqClaimS.f k x7 x4).bind fun t266 => (if t266 = true then (laws_FnExactClaimsIn.j1 k x0 x4 x5 x7 (x8 != x5)) else (laws_FnExactClaimsIn.j1 k x0 x4 x5 x7 true))))) else (some false))))
def laws_FnExactClaimsIn.j1 : Nat → List (S176) → List (S85) → Bool → List (S85) → Bool → Option (Bool)
  | 0, _, _, _, _, _ => none
  | k + 1, x0, x4, x5, x7, x61 => if x61 = true then (some false) else ((laws_markClaimS.f k x7 1).bind fun bt267 => ((laws_heldClaimS.f k bt267.2 1).bind fun t269 => (if t269 < 0 then (some false) else (if t269 = bt267.1 then ((laws_toStatementS.f k x0).bind fun t270 => ((impl_ClaimsIn.f k t270).bind fun bt273 => ((laws_eqClaimS.f k bt273.1 x4).bind fun t277 => (if t277 = true then (laws_FnExactClaimsIn.j2 k bt267.2 bt267.1 (bt273.2 != x5)) else (laws_FnExactClaimsIn.j2 k bt267.2 bt267.1 true))))) else (some false)))))
def laws_FnExactClaimsIn.j2 : Nat → List (S85) → Int → Bool → Option (Bool)
  | 0, _, _, _ => none
  | k + 1, x7, x10, x87 => if x87 = true then (some false) else ((laws_heldClaimS.f k x7 1).bind fun t278 => (if t278 < 0 then (some false) else (if t278 = x10 then (some true) else (some false))))
end
def laws_FnExactClaimsIn.f (k : Nat) (l0 : List (S176)) : Option (Bool) := (laws_szStatementS.f l0 1048576).bind fun t244 => (if t244 < 0 then (some true) else ((laws_toStatementS.f k l0).bind fun t245 => ((spec_ClaimsIn.f k t245).bind fun bt248 => ((laws_toStatementS.f k l0).bind fun t252 => ((impl_ClaimsIn.f k t252).bind fun bt255 => ((laws_eqClaimS.f k bt255.1 bt248.1).bind fun t259 => (if t259 = true then (laws_FnExactClaimsIn.j0 k l0 bt248.1 bt248.2 t252 bt255.1 bt255.2 (bt255.2 != bt248.2)) else (laws_FnExactClaimsIn.j0 k l0 bt248.1 bt248.2 t252 bt255.1 bt255.2 true))))))))
theorem laws_FnExactClaimsIn.mono_l : ∀ k, (∀ y0 y1 y2 y3 y4 y5 y6, LeO (laws_FnExactClaimsIn.j0 k y0 y1 y2 y3 y4 y5 y6) (laws_FnExactClaimsIn.j0 (k + 1) y0 y1 y2 y3 y4 y5 y6)) ∧ (∀ y0 y1 y2 y3 y4, LeO (laws_FnExactClaimsIn.j1 k y0 y1 y2 y3 y4) (laws_FnExactClaimsIn.j1 (k + 1) y0 y1 y2 y3 y4)) ∧ (∀ y0 y1 y2, LeO (laws_FnExactClaimsIn.j2 k y0 y1 y2) (laws_FnExactClaimsIn.j2 (k + 1) y0 y1 y2))
 | 0 => ⟨fun _ _ _ _ _ _ _ r h => by simp [laws_FnExactClaimsIn.j0] at h, fun _ _ _ _ _ r h => by simp [laws_FnExactClaimsIn.j1] at h, fun _ _ _ r h => by simp [laws_FnExactClaimsIn.j2] at h⟩
 | k + 1 => by
  obtain ⟨ih0, ih1, ih2⟩ := laws_FnExactClaimsIn.mono_l k
  refine ⟨?_, ?_, ?_⟩
  ·intro y0 y1 y2 y3 y4 y5 y6
   unfold laws_FnExactClaimsIn.j0
   repeat' (first | (with_reducible first | exact ih0 _ _ _ _ _ _ _ | exact ih1 _ _ _ _ _ | exact ih2 _ _ _ | exact impl_ClaimsIn.mono _ _ | exact laws_eqClaimS.mono _ _ _ | exact laws_eqStatementS.mono _ _ _ | exact laws_heldClaimS.mono _ _ _ | exact laws_markClaimS.mono _ _ _ | exact laws_markStatementS.mono _ _ _ | exact laws_toStatementS.mono _ _ | exact spec_ClaimsIn.mono _ _ | exact LeO.refl _ | exact LeO.none _ | refine LeO.ite ?_ ?_ | refine LeO.bind ?_ (fun _ => ?_)) | exact ih0 _ _ _ _ _ _ _ | exact ih1 _ _ _ _ _ | exact ih2 _ _ _ | exact impl_ClaimsIn.mono _ _ | exact laws_eqClaimS.mono _ _ _ | exact laws_eqStatementS.mono _ _ _ | exact laws_heldClaimS.mono _ _ _ | exact laws_markClaimS.mono _ _ _ | exact laws_markStatementS.mono _ _ _ | exact laws_toStatementS.mono _ _ | exact spec_ClaimsIn.mono _ _ | exact LeO.none _ | refine LeO.ite ?_ ?_ | refine LeO.bind ?_ (fun _ => ?_))
  ·intro y0 y1 y2 y3 y4
   unfold laws_FnExactClaimsIn.j1
   repeat' (first | (with_reducible first | exact ih0 _ _ _ _ _ _ _ | exact ih1 _ _ _ _ _ | exact ih2 _ _ _ | exact impl_ClaimsIn.mono _ _ | exact laws_eqClaimS.mono _ _ _ | exact laws_eqStatementS.mono _ _ _ | exact laws_heldClaimS.mono _ _ _ | exact laws_markClaimS.mono _ _ _ | exact laws_markStatementS.mono _ _ _ | exact laws_toStatementS.mono _ _ | exact spec_ClaimsIn.mono _ _ | exact LeO.refl _ | exact LeO.none _ | refine LeO.ite ?_ ?_ | refine LeO.bind ?_ (fun _ => ?_)) | exact ih0 _ _ _ _ _ _ _ | exact ih1 _ _ _ _ _ | exact ih2 _ _ _ | exact impl_ClaimsIn.mono _ _ | exact laws_eqClaimS.mono _ _ _ | exact laws_eqStatementS.mono _ _ _ | exact laws_heldClaimS.mono _ _ _ | exact laws_markClaimS.mono _ _ _ | exact laws_markStatementS.mono _ _ _ | exact laws_toStatementS.mono _ _ | exact spec_ClaimsIn.mono _ _ | exact LeO.none _ | refine LeO.ite ?_ ?_ | refine LeO.bind ?_ (fun _ => ?_))
  ·intro y0 y1 y2
   unfold laws_FnExactClaimsIn.j2
   repeat' (first | (with_reducible first | exact ih0 _ _ _ _ _ _ _ | exact ih1 _ _ _ _ _ | exact ih2 _ _ _ | exact impl_ClaimsIn.mono _ _ | exact laws_eqClaimS.mono _ _ _ | exact laws_eqStatementS.mono _ _ _ | exact laws_heldClaimS.mono _ _ _ | exact laws_markClaimS.mono _ _ _ | exact laws_markStatementS.mono _ _ _ | exact laws_toStatementS.mono _ _ | exact spec_ClaimsIn.mono _ _ | exact LeO.refl _ | exact LeO.none _ | refine LeO.ite ?_ ?_ | refine LeO.bind ?_ (fun _ => ?_)) | exact ih0 _ _ _ _ _ _ _ | exact ih1 _ _ _ _ _ | exact ih2 _ _ _ | exact impl_ClaimsIn.mono _ _ | exact laws_eqClaimS.mono _ _ _ | exact laws_eqStatementS.mono _ _ _ | exact laws_heldClaimS.mono _ _ _ | exact laws_markClaimS.mono _ _ _ | exact laws_markStatementS.mono _ _ _ | exact laws_toStatementS.mono _ _ | exact spec_ClaimsIn.mono _ _ | exact LeO.none _ | refine LeO.ite ?_ ?_ | refine LeO.bind ?_ (fun _ => ?_))
theorem laws_FnExactClaimsIn.mono : ∀ a0 k, LeO (laws_FnExactClaimsIn.f k a0) (laws_FnExactClaimsIn.f (k + 1) a0) := by
 intro a0 k
 obtain ⟨ih0, ih1, ih2⟩ := laws_FnExactClaimsIn.mono_l k
 unfold laws_FnExactClaimsIn.f
 repeat' (first | (with_reducible first | exact ih0 _ _ _ _ _ _ _ | exact ih1 _ _ _ _ _ | exact ih2 _ _ _ | exact impl_ClaimsIn.mono _ _ | exact laws_eqClaimS.mono _ _ _ | exact laws_eqStatementS.mono _ _ _ | exact laws_heldClaimS.mono _ _ _ | exact laws_markClaimS.mono _ _ _ | exact laws_markStatementS.mono _ _ _ | exact laws_toStatementS.mono _ _ | exact spec_ClaimsIn.mono _ _ | exact LeO.refl _ | exact LeO.none _ | refine LeO.ite ?_ ?_ | refine LeO.bind ?_ (fun _ => ?_)) | exact ih0 _ _ _ _ _ _ _ | exact ih1 _ _ _ _ _ | exact ih2 _ _ _ | exact impl_ClaimsIn.mono _ _ | exact laws_eqClaimS.mono _ _ _ | exact laws_eqStatementS.mono _ _ _ | exact laws_heldClaimS.mono _ _ _ | exact laws_markClaimS.mono _ _ _ | exact laws_markStatementS.mono _ _ _ | exact laws_toStatementS.mono _ _ | exact spec_ClaimsIn.mono _ _ | exact LeO.none _ | refine LeO.ite ?_ ?_ | refine LeO.bind ?_ (fun _ => ?_))
set_option maxHeartbeats 8000000 in
set_option maxRecDepth 100000 in
theorem laws_FnExactClaimsIn.calls (k : Nat) (A0 : Option Addr) (c0 : Nat) (l0 : List (S176)) (r : Bool) (w : World) (hr0 : Kd.C k176 w A0 l0.length l0) (hc0 : l0.length ≤ c0) (h : laws_FnExactClaimsIn.f k l0 = some r) (hr_ : r = true) :
  Calls Try.prog 7 #[.slice A0 l0.length c0] w fun e w' => e = .returned (.bool r) ∧ Below w.heap.size w w' := by
 have HR0 := Aside0.mk hr0; have HC0 := Aside0.mk hc0; clear hr0 hc0
 have HB := Aside0.mk (Below.refl w.heap.size w)
 have H : ((laws_szStatementS.f l0 1048576).bind fun t244 => (if t244 < 0 then (some true) else ((laws_toStatementS.f k l0).bind fun t245 => ((spec_ClaimsIn.f k t245).bind fun bt248 => ((laws_toStatementS.f k l0).bind fun t252 => ((impl_ClaimsIn.f k t252).bind fun bt255 => ((laws_eqClaimS.f k bt255.1 bt248.1).bind fun t259 => (if t259 = true then (laws_FnExactClaimsIn.j0 k l0 bt248.1 bt248.2 t252 bt255.1 bt255.2 (bt255.2 != bt248.2)) else (laws_FnExactClaimsIn.j0 k l0 bt248.1 bt248.2 t252 bt255.1 bt255.2 true))))))))) = some r := h
 clear h; replace H := bS H; obtain ⟨t244, A2, H⟩ := H
 replace H : (if t244 < 0 then (some true) else ((laws_toStatementS.f k l0).bind fun t245 => ((spec_ClaimsIn.f k t245).bind fun bt248 => ((laws_toStatementS.f k l0).bind fun t252 => ((impl_ClaimsIn.f k t252).bind fun bt255 => ((laws_eqClaimS.f k bt255.1 bt248.1).bind fun t259 => (if t259 = true then (laws_FnExactClaimsIn.j0 k l0 bt248.1 bt248.2 t252 bt255.1 bt255.2 (bt255.2 != bt248.2)) else (laws_FnExactClaimsIn.j0 k l0 bt248.1 bt248.2 t252 bt255.1 bt255.2 true)))))))) = some r := H
 by_cases c3 : t244 < 0
 ·rw [if_pos c3] at H
  have c3b0 : decide (t244 < 0) = true := decide_eq_true c3
  clear c3
  obtain rfl := Option.some.inj H
  go_enter Try.func7, Try.ntmps7
  go_wp2_with (first | ((with_reducible refine gate_callee (f := 47) rfl ?_); refine goesLa (some 16) rfl Try.func47 #[.slice A0 l0.length c0, .int .i64 1048576] rfl ?_; (with_reducible refine (laws_szStatementS.calls _ _ l0 1048576 t244 _ ?side1 ?side2 A2.out).mono ?_); (case side1 => exact cd HR0.out); (case side2 => exact HC0.out); rintro e w' ⟨rfl, ⟨nd, rfl⟩⟩; refine ⟨_, rfl, ?_⟩))
  go_ret
  exact ⟨er2, belowd HB⟩
 ·rw [if_neg c3] at H
  have c3b0 : decide (t244 < 0) = false := decide_eq_false c3
  clear c3; replace H := bS H; obtain ⟨t245, A4, H⟩ := H
  replace H : ((spec_ClaimsIn.f k t245).bind fun bt248 => ((laws_toStatementS.f k l0).bind fun t252 => ((impl_ClaimsIn.f k t252).bind fun bt255 => ((laws_eqClaimS.f k bt255.1 bt248.1).bind fun t259 => (if t259 = true then (laws_FnExactClaimsIn.j0 k l0 bt248.1 bt248.2 t252 bt255.1 bt255.2 (bt255.2 != bt248.2)) else (laws_FnExactClaimsIn.j0 k l0 bt248.1 bt248.2 t252 bt255.1 bt255.2 true)))))) = some r := H
  replace H := bS H; obtain ⟨⟨t248, t249⟩, A5, H⟩ := H
  replace H : ((laws_toStatementS.f k l0).bind fun t252 => ((impl_ClaimsIn.f k t252).bind fun bt255 => ((laws_eqClaimS.f k bt255.1 t248).bind fun t259 => (if t259 = true then (laws_FnExactClaimsIn.j0 k l0 t248 t249 t252 bt255.1 bt255.2 (bt255.2 != t249)) else (laws_FnExactClaimsIn.j0 k l0 t248 t249 t252 bt255.1 bt255.2 true))))) = some r := H
  replace H := bS H; obtain ⟨t252, A6, H⟩ := H
  replace H : ((impl_ClaimsIn.f k t252).bind fun bt255 => ((laws_eqClaimS.f k bt255.1 t248).bind fun t259 => (if t259 = true then (laws_FnExactClaimsIn.j0 k l0 t248 t249 t252 bt255.1 bt255.2 (bt255.2 != t249)) else (laws_FnExactClaimsIn.j0 k l0 t248 t249 t252 bt255.1 bt255.2 true)))) = some r := H
  replace H := bS H; obtain ⟨⟨t255, t256⟩, A7, H⟩ := H
  replace H : ((laws_eqClaimS.f k t255 t248).bind fun t259 => (if t259 = true then (laws_FnExactClaimsIn.j0 k l0 t248 t249 t252 t255 t256 (t256 != t249)) else (laws_FnExactClaimsIn.j0 k l0 t248 t249 t252 t255 t256 true))) = some r := H
  have HC8 := Aside0.mk H; clear H
  go_enter Try.func7, Try.ntmps7
  go_upto_region 8 with (first | ((with_reducible refine gate_callee (f := 47) rfl ?_); refine goesLa (some 16) rfl Try.func47 #[.slice A0 l0.length c0, .int .i64 1048576] rfl ?_; (with_reducible refine (laws_szStatementS.calls _ _ l0 1048576 t244 _ ?side1 ?side2 A2.out).mono ?_); (case side1 => exact cd HR0.out); (case side2 => exact HC0.out); rintro e w' ⟨rfl, ⟨nd, rfl⟩⟩; refine ⟨_, rfl, ?_⟩) | ((with_reducible refine gate_callee (f := 49) rfl ?_); refine goesLa (some 21) rfl Try.func49 #[.slice A0 l0.length c0] rfl ?_; (with_reducible refine (laws_toStatementS.calls k _ _ l0 t245 _ ?side1 ?side2 A4.out).mono ?_); (case side1 => exact cd HR0.out); (case side2 => exact HC0.out); rintro e w9 ⟨v246, rfl, ho0, hb⟩; refine ⟨_, rfl, ?_⟩; have HO247 := ak (Kd.R_lower ho0 (below_size (belowd HB))); replace HB := ak (below_step (belowd HB) hb); (try clear hb); (try clear ho0); obtain ⟨Ao10, co10, eo10⟩ := Kd.R_slice HO247.out; subst eo10) | ((with_reducible refine gate_callee (f := 48) rfl ?_); refine goesLa (some 22) rfl Try.func48 #[.slice Ao10 t245.length co10] rfl ?_; (with_reducible refine (spec_ClaimsIn.calls k _ _ t245 t248 t249 _ ?side1 ?side2 A5.out).mono ?_); (case side1 => exact cd (Kd.R_reads' HO247.out).2.2); (case side2 => exact (Kd.R_reads' HO247.out).2.1); rintro e w11 ⟨v250, rfl, ho0, hb⟩; refine ⟨_, rfl, ?_⟩; replace HO247 := ak (Kd.R_below (rdl HO247) hb); have HO251 := ak (Kd.R_lower ho0 (below_size (belowd HB))); replace HB := ak (below_step (belowd HB) hb); (try clear hb); (try clear ho0)) | ((with_reducible refine gate_callee (f := 49) rfl ?_); refine goesLa (some 26) rfl Try.func49 #[.slice A0 l0.length c0] rfl ?_; (with_reducible refine (laws_toStatementS.calls k _ _ l0 t252 _ ?side1 ?side2 A6.out).mono ?_); (case side1 => exact cd (Kd.C_below HR0.out HB.out)); (case side2 => exact HC0.out); rintro e w12 ⟨v253, rfl, ho0, hb⟩; refine ⟨_, rfl, ?_⟩; replace HO251 := ak (Kd.R_below (rdl HO251) hb); have HO254 := ak (Kd.R_lower (Kd.R_new' ho0 (Kd.R_lt (rdl HO247))) (below_size (belowd HB))); replace HO247 := ak (Kd.R_elder' (rdl HO247) (Kd.R_base ho0) hb); replace HB := ak (below_step (belowd HB) hb); (try clear hb); (try clear ho0); obtain ⟨Ao13, co13, eo13⟩ := Kd.R_slice HO254.out; subst eo13) | ((with_reducible refine gate_callee (f := 50) rfl ?_); refine goesLa (some 29) rfl Try.func50 #[.slice Ao13 t252.length co13] rfl ?_; (with_reducible refine (impl_ClaimsIn.calls k _ _ t252 t255 t256 _ ?side1 ?side2 A7.out).mono ?_); (case side1 => exact cd (Kd.R_reads' HO254.out).2.2); (case side2 => exact (Kd.R_reads' HO254.out).2.1); rintro e w14 ⟨v257, rfl, ho0, hb⟩; refine ⟨_, rfl, ?_⟩; replace HO247 := ak (Kd.R_below (rdl HO247) hb); replace HO254 := ak (Kd.R_below (rdl HO254) hb); have HO258 := ak (Kd.R_lower (Kd.R_new' ho0 (Kd.R_lt (rdl HO251))) (below_size (belowd HB))); replace HO251 := ak (Kd.R_elder' (rdl HO251) (Kd.R_base ho0) hb); replace HB := ak (below_step (belowd HB) hb); (try clear hb); (try clear ho0)))
  (try simp only [Act.put, List.setIfInBounds_toArray, List.set_cons_zero, List.set_cons_succ])
  go_cut [40] (fun v40 wc => ∃ (kq : Nat) (x40_7 : Bool), v40 = .bool x40_7 ∧ Aside0 (laws_FnExactClaimsIn.j0 kq l0 t248 t249 t252 t255 t256 x40_7 = some r) ∧ Aside0 (kq ≤ k) ∧ Aside0 (Kd.R k85 85 wc w.heap.size (fun k_ => some k_ ≠ (v257 : Value).ownBlock) v250 t248) ∧ Aside0 (Kd.R k91 91 wc w.heap.size (fun _ => True) (.slice Ao13 t252.length co13) t252) ∧ Aside0 (Kd.R k85 85 wc w.heap.size (fun k_ => some k_ ≠ (v250 : Value).ownBlock) v257 t255) ∧ Aside0 (Below w.heap.size w wc))
  case first =>
   have H := HC8.out; clear HC8; replace H := bS H; obtain ⟨t259, A15, H⟩ := H
   replace H : (if t259 = true then (laws_FnExactClaimsIn.j0 k l0 t248 t249 t252 t255 t256 (t256 != t249)) else (laws_FnExactClaimsIn.j0 k l0 t248 t249 t252 t255 t256 true)) = some r := H
   by_cases c16 : t259 = true
   ·subst c16
    have H1 : (laws_FnExactClaimsIn.j0 k l0 t248 t249 t252 t255 t256 (t256 != t249)) = some r := by rw [if_pos rfl] at H; exact H
    clear H
    have H := H1
    clear H1
    have H' := Aside0.mk H
    clear H
    obtain ⟨Ao17, co17, eo17⟩ := Kd.R_slice HO258.out
    subst eo17
    obtain ⟨Ao18, co18, eo18⟩ := Kd.R_slice HO251.out
    subst eo18
    go_wp2_with (first | ((with_reducible refine gate_callee (f := 51) rfl ?_); refine goesLa (some 34) rfl Try.func51 #[.slice Ao17 t255.length co17, .slice Ao18 t248.length co18] rfl ?_; (with_reducible refine (laws_eqClaimS.calls k _ _ t255 _ _ t248 true _ ?side1 ?side2 ?side3 ?side4 A15.out).mono ?_); (case side1 => exact cd (Kd.R_reads' HO258.out).2.2); (case side2 => exact (Kd.R_reads' HO258.out).2.1); (case side3 => exact cd (Kd.R_reads' HO251.out).2.2); (case side4 => exact (Kd.R_reads' HO251.out).2.1); rintro e w19 ⟨rfl, hb⟩; refine ⟨_, rfl, ?_⟩; replace HO247 := ak (Kd.R_below (rdl HO247) hb); replace HO251 := ak (Kd.R_below (rdl HO251) hb); replace HO254 := ak (Kd.R_below (rdl HO254) hb); replace HO258 := ak (Kd.R_below (rdl HO258) hb); replace HB := ak (below_step (belowd HB) hb); (try clear hb)))
    go_meet
    case rel => exact ⟨_, ((t256 != t249)), er, H', ⟨by first | omega | exact Nat.le_refl _⟩, ⟨by (with_reducible repeat (first | apply Kd.R_alloc | apply Kd.R_drewN | apply Kd.R_drew)); exact Kd.R_mono HO251.out (fun _ hk => hk.2)⟩, ⟨by (with_reducible repeat (first | apply Kd.R_alloc | apply Kd.R_drewN | apply Kd.R_drew)); exact Kd.R_mono HO254.out (fun _ hk => trivial)⟩, ⟨by (with_reducible repeat (first | apply Kd.R_alloc | apply Kd.R_drewN | apply Kd.R_drew)); exact Kd.R_mono HO258.out (fun _ hk => hk.2)⟩, ⟨belowd HB⟩⟩
   ·replace c16 := Bool.eq_false_iff.mpr c16
    subst c16
    have H1 : (laws_FnExactClaimsIn.j0 k l0 t248 t249 t252 t255 t256 true) = some r := by rw [if_neg (show ¬ (false = true) by decide)] at H; exact H
    clear H
    have H := H1
    clear H1
    have H' := Aside0.mk H
    clear H
    obtain ⟨Ao20, co20, eo20⟩ := Kd.R_slice HO258.out
    subst eo20
    obtain ⟨Ao21, co21, eo21⟩ := Kd.R_slice HO251.out
    subst eo21
    go_wp2_with (first | ((with_reducible refine gate_callee (f := 51) rfl ?_); refine goesLa (some 34) rfl Try.func51 #[.slice Ao20 t255.length co20, .slice Ao21 t248.length co21] rfl ?_; (with_reducible refine (laws_eqClaimS.calls k _ _ t255 _ _ t248 false _ ?side1 ?side2 ?side3 ?side4 A15.out).mono ?_); (case side1 => exact cd (Kd.R_reads' HO258.out).2.2); (case side2 => exact (Kd.R_reads' HO258.out).2.1); (case side3 => exact cd (Kd.R_reads' HO251.out).2.2); (case side4 => exact (Kd.R_reads' HO251.out).2.1); rintro e w22 ⟨rfl, hb⟩; refine ⟨_, rfl, ?_⟩; replace HO247 := ak (Kd.R_below (rdl HO247) hb); replace HO251 := ak (Kd.R_below (rdl HO251) hb); replace HO254 := ak (Kd.R_below (rdl HO254) hb); replace HO258 := ak (Kd.R_below (rdl HO258) hb); replace HB := ak (below_step (belowd HB) hb); (try clear hb)))
    go_meet
    case rel => exact ⟨_, (true), er, H', ⟨by first | omega | exact Nat.le_refl _⟩, ⟨by (with_reducible repeat (first | apply Kd.R_alloc | apply Kd.R_drewN | apply Kd.R_drew)); exact Kd.R_mono HO251.out (fun _ hk => hk.2)⟩, ⟨by (with_reducible repeat (first | apply Kd.R_alloc | apply Kd.R_drewN | apply Kd.R_drew)); exact Kd.R_mono HO254.out (fun _ hk => trivial)⟩, ⟨by (with_reducible repeat (first | apply Kd.R_alloc | apply Kd.R_drewN | apply Kd.R_drew)); exact Kd.R_mono HO258.out (fun _ hk => hk.2)⟩, ⟨belowd HB⟩⟩
  case rest =>
   clear HC8; (try clear c3b0)
   obtain ⟨kq, x40_7, rfl, HA, HJ7, HO_4, HO_6, HO_7, HB⟩ := hcut
   cases kq with
   | zero => exact absurd HA.out (by simp [laws_FnExactClaimsIn.j0])
   | succ kj7 =>
    have H := HA.out; clear HA
    simp only [laws_FnExactClaimsIn.j0] at H
    by_cases c23 : x40_7 = true
    ·subst c23
     have H1 : (some false) = some r := by rw [if_pos rfl] at H; exact H
     clear H
     have H := H1
     clear H1
     exact absurd (H.trans (congrArg some hr_)) (by simp)
    ·replace c23 := Bool.eq_false_iff.mpr c23
     subst c23
     have H1 : ((laws_toStatementS.f kj7 l0).bind fun t260 => ((laws_eqStatementS.f kj7 t252 t260).bind fun t263 => (if t263 = true then ((laws_markStatementS.f kj7 t252 1).bind fun bt264 => (if bt264.1 < 0 then (laws_FnExactClaimsIn.j1 kj7 l0 t248 t249 t255 true) else ((laws_eqClaimS.f kj7 t255 t248).bind fun t266 => (if t266 = true then (laws_FnExactClaimsIn.j1 kj7 l0 t248 t249 t255 (t256 != t249)) else (laws_FnExactClaimsIn.j1 kj7 l0 t248 t249 t255 true))))) else (some false)))) = some r := by rw [if_neg (show ¬ (false = true) by decide)] at H; exact H
     clear H
     have H := H1
     clear H1; replace H := bS H; obtain ⟨t260, A24, H⟩ := H
     replace H : ((laws_eqStatementS.f kj7 t252 t260).bind fun t263 => (if t263 = true then ((laws_markStatementS.f kj7 t252 1).bind fun bt264 => (if bt264.1 < 0 then (laws_FnExactClaimsIn.j1 kj7 l0 t248 t249 t255 true) else ((laws_eqClaimS.f kj7 t255 t248).bind fun t266 => (if t266 = true then (laws_FnExactClaimsIn.j1 kj7 l0 t248 t249 t255 (t256 != t249)) else (laws_FnExactClaimsIn.j1 kj7 l0 t248 t249 t255 true))))) else (some false))) = some r := H
     replace H := bS H; obtain ⟨t263, A25, H⟩ := H
     replace H : (if t263 = true then ((laws_markStatementS.f kj7 t252 1).bind fun bt264 => (if bt264.1 < 0 then (laws_FnExactClaimsIn.j1 kj7 l0 t248 t249 t255 true) else ((laws_eqClaimS.f kj7 t255 t248).bind fun t266 => (if t266 = true then (laws_FnExactClaimsIn.j1 kj7 l0 t248 t249 t255 (t256 != t249)) else (laws_FnExactClaimsIn.j1 kj7 l0 t248 t249 t255 true))))) else (some false)) = some r := H
     by_cases c26 : t263 = true
     ·subst c26
      have H1 : ((laws_markStatementS.f kj7 t252 1).bind fun bt264 => (if bt264.1 < 0 then (laws_FnExactClaimsIn.j1 kj7 l0 t248 t249 t255 true) else ((laws_eqClaimS.f kj7 t255 t248).bind fun t266 => (if t266 = true then (laws_FnExactClaimsIn.j1 kj7 l0 t248 t249 t255 (t256 != t249)) else (laws_FnExactClaimsIn.j1 kj7 l0 t248 t249 t255 true))))) = some r := by rw [if_pos rfl] at H; exact H
      clear H
      have H := H1
      clear H1; replace H := bS H; obtain ⟨⟨t264, t265⟩, A27, H⟩ := H
      replace H : (if t264 < 0 then (laws_FnExactClaimsIn.j1 kj7 l0 t248 t249 t255 true) else ((laws_eqClaimS.f kj7 t255 t248).bind fun t266 => (if t266 = true then (laws_FnExactClaimsIn.j1 kj7 l0 t248 t249 t255 (t256 != t249)) else (laws_FnExactClaimsIn.j1 kj7 l0 t248 t249 t255 true)))) = some r := H
      have HC28 := Aside0.mk H; clear H
      go_upto_region 14 with (first | ((with_reducible refine gate_callee (f := 49) rfl ?_); refine goesLa (some 43) rfl Try.func49 #[.slice A0 l0.length c0] rfl ?_; (with_reducible refine (laws_toStatementS.calls kj7 _ _ l0 t260 _ ?side1 ?side2 A24.out).mono ?_); (case side1 => exact cd (Kd.C_below HR0.out HB.out)); (case side2 => exact HC0.out); rintro e w29 ⟨v261, rfl, ho0, hb⟩; refine ⟨_, rfl, ?_⟩; replace HO_4 := ak (Kd.R_below (rdl HO_4) hb); replace HO_7 := ak (Kd.R_below (rdl HO_7) hb); have HO262 := ak (Kd.R_lower (Kd.R_new' ho0 (Kd.R_lt (rdl HO_6))) (below_size (belowd HB))); replace HO_6 := ak (Kd.R_elder' (rdl HO_6) (Kd.R_base ho0) hb); replace HB := ak (below_step (belowd HB) hb); (try clear hb); (try clear ho0); obtain ⟨Ao30, co30, eo30⟩ := Kd.R_slice HO262.out; subst eo30) | ((with_reducible refine gate_callee (f := 52) rfl ?_); refine goesLa (some 44) rfl Try.func52 #[.slice Ao13 t252.length co13, .slice Ao30 t260.length co30] rfl ?_; (with_reducible refine (laws_eqStatementS.calls kj7 _ _ t252 _ _ t260 true _ ?side1 ?side2 ?side3 ?side4 A25.out).mono ?_); (case side1 => exact cd (Kd.R_reads' HO_6.out).2.2); (case side2 => exact (Kd.R_reads' HO_6.out).2.1); (case side3 => exact cd (Kd.R_reads' HO262.out).2.2); (case side4 => exact (Kd.R_reads' HO262.out).2.1); rintro e w31 ⟨rfl, hb⟩; refine ⟨_, rfl, ?_⟩; replace HO_4 := ak (Kd.R_below (rdl HO_4) hb); replace HO_6 := ak (Kd.R_below (rdl HO_6) hb); replace HO_7 := ak (Kd.R_below (rdl HO_7) hb); replace HO262 := ak (Kd.R_below (rdl HO262) hb); replace HB := ak (below_step (belowd HB) hb); (try clear hb)) | ((with_reducible refine gate_callee (f := 53) rfl ?_); refine goesLa (some 48) rfl Try.func53 #[.slice Ao13 t252.length co13, .int .i64 1] rfl ?_; (with_reducible refine (laws_markStatementS.calls kj7 (fun k_ => some k_ = (.slice Ao13 t252.length co13 : Value).ownBlock) (.slice Ao13 t252.length co13) t252 1 t264 t265 w _ ?side1 ?side2 A27.out).mono ?_); (case side1 => repeat (first | (with_reducible first | exact HB.out | apply below_alloc | apply pw_below_drewN | apply below_drew1) | exact HB.out)); (case side2 => exact Kd.R_tight rfl HO_6.out); rintro e w32 ⟨rfl, hy0, hb, hkp⟩; refine ⟨_, rfl, ?_⟩; replace HO_4 := ak (Kd.R_mono (ok' := fun k_ => some k_ ≠ (v257 : Value).ownBlock) (Kd.R_keptB ((Kd.R_apart' HO_4.out (Kd.R_typed HO_6.out) (by decide))) hkp (fun k_ hk_ hs_ => (hk_.2) hs_)) (fun k_ hk_ => hk_.1.1)); replace HO_7 := ak (Kd.R_mono (ok' := fun k_ => some k_ ≠ (v250 : Value).ownBlock) (Kd.R_keptB ((Kd.R_apart' HO_7.out (Kd.R_typed HO_6.out) (by decide))) hkp (fun k_ hk_ hs_ => (hk_.2) hs_)) (fun k_ hk_ => hk_.1.1)); replace HO_6 := ak (Kd.R_reok rfl hy0 (fun k_ e_ => HO_6.out.1 k_ e_)); replace HO262 := ak (Kd.R_mono (ok' := fun k_ => some k_ ≠ (.slice Ao13 t252.length co13 : Value).ownBlock) (Kd.R_keptB (HO262.out) hkp (fun k_ hk_ hs_ => (hk_.2) hs_)) (fun k_ hk_ => hk_.1.2)); replace HB := ak (hb); (try clear hb); (try clear hkp); (try clear hy0)))
      (try simp only [Act.put, List.setIfInBounds_toArray, List.set_cons_zero, List.set_cons_succ])
      go_cut [61] (fun v61 wc => ∃ (kq : Nat) (x61_27 : Bool), v61 = .bool x61_27 ∧ Aside0 (laws_FnExactClaimsIn.j1 kq l0 t248 t249 t255 x61_27 = some r) ∧ Aside0 (kq ≤ kj7) ∧ Aside0 (Kd.R k85 85 wc w.heap.size (fun k_ => some k_ ≠ (v257 : Value).ownBlock) v250 t248) ∧ Aside0 (Kd.R k85 85 wc w.heap.size (fun k_ => some k_ ≠ (v250 : Value).ownBlock) v257 t255) ∧ Aside0 (Below w.heap.size w wc))
      case first =>
       have H := HC28.out; clear HC28
       by_cases c33 : t264 < 0
       ·rw [if_pos c33] at H
        have c33b0 : decide (t264 < 0) = true := decide_eq_true c33
        clear c33
        (first | rw [c33b0] | (simp only [i64_w, i32_w]; rw [c33b0]) | skip)
        have H' := Aside0.mk H
        clear H; go_wp2
        go_meet
        case rel => exact ⟨_, (true), er, H', ⟨by have := HJ7.out; first | omega | exact Nat.le_refl _⟩, ⟨rdl HO_4⟩, ⟨rdl HO_7⟩, ⟨belowd HB⟩⟩
       ·rw [if_neg c33] at H
        have c33b0 : decide (t264 < 0) = false := decide_eq_false c33
        clear c33
        (first | rw [c33b0] | (simp only [i64_w, i32_w]; rw [c33b0]) | skip)
        replace H := bS H; obtain ⟨t266, A34, H⟩ := H
        replace H : (if t266 = true then (laws_FnExactClaimsIn.j1 kj7 l0 t248 t249 t255 (t256 != t249)) else (laws_FnExactClaimsIn.j1 kj7 l0 t248 t249 t255 true)) = some r := H
        by_cases c35 : t266 = true
        ·subst c35
         have H1 : (laws_FnExactClaimsIn.j1 kj7 l0 t248 t249 t255 (t256 != t249)) = some r := by rw [if_pos rfl] at H; exact H
         clear H
         have H := H1
         clear H1
         have H' := Aside0.mk H
         clear H
         obtain ⟨Ao36, co36, eo36⟩ := Kd.R_slice HO_7.out
         subst eo36
         obtain ⟨Ao37, co37, eo37⟩ := Kd.R_slice HO_4.out
         subst eo37
         go_wp2_with (first | (go_at_call 51; (with_reducible refine (laws_eqClaimS.calls kj7 _ _ t255 _ _ t248 true _ ?side1 ?side2 ?side3 ?side4 A34.out).mono ?_); (case side1 => exact cd (Kd.R_reads' HO_7.out).2.2); (case side2 => exact (Kd.R_reads' HO_7.out).2.1); (case side3 => exact cd (Kd.R_reads' HO_4.out).2.2); (case side4 => exact (Kd.R_reads' HO_4.out).2.1); rintro e w38 ⟨rfl, hb⟩; replace HO_4 := ak (Kd.R_below (rdl HO_4) hb); replace HO_6 := ak (Kd.R_below (rdl HO_6) hb); replace HO_7 := ak (Kd.R_below (rdl HO_7) hb); replace HO262 := ak (Kd.R_below (rdl HO262) hb); replace HB := ak (below_step (belowd HB) hb); (try clear hb)))
         go_meet
         case rel => exact ⟨_, ((t256 != t249)), er, H', ⟨by have := HJ7.out; first | omega | exact Nat.le_refl _⟩, ⟨rdl HO_4⟩, ⟨rdl HO_7⟩, ⟨belowd HB⟩⟩
        ·replace c35 := Bool.eq_false_iff.mpr c35
         subst c35
         have H1 : (laws_FnExactClaimsIn.j1 kj7 l0 t248 t249 t255 true) = some r := by rw [if_neg (show ¬ (false = true) by decide)] at H; exact H
         clear H
         have H := H1
         clear H1
         have H' := Aside0.mk H
         clear H
         obtain ⟨Ao39, co39, eo39⟩ := Kd.R_slice HO_7.out
         subst eo39
         obtain ⟨Ao40, co40, eo40⟩ := Kd.R_slice HO_4.out
         subst eo40
         go_wp2_with (first | (go_at_call 51; (with_reducible refine (laws_eqClaimS.calls kj7 _ _ t255 _ _ t248 false _ ?side1 ?side2 ?side3 ?side4 A34.out).mono ?_); (case side1 => exact cd (Kd.R_reads' HO_7.out).2.2); (case side2 => exact (Kd.R_reads' HO_7.out).2.1); (case side3 => exact cd (Kd.R_reads' HO_4.out).2.2); (case side4 => exact (Kd.R_reads' HO_4.out).2.1); rintro e w41 ⟨rfl, hb⟩; replace HO_4 := ak (Kd.R_below (rdl HO_4) hb); replace HO_6 := ak (Kd.R_below (rdl HO_6) hb); replace HO_7 := ak (Kd.R_below (rdl HO_7) hb); replace HO262 := ak (Kd.R_below (rdl HO262) hb); replace HB := ak (below_step (belowd HB) hb); (try clear hb)))
         go_meet
         case rel => exact ⟨_, (true), er, H', ⟨by have := HJ7.out; first | omega | exact Nat.le_refl _⟩, ⟨rdl HO_4⟩, ⟨rdl HO_7⟩, ⟨belowd HB⟩⟩
      case rest =>
       clear HC28; (try clear c23); (try clear c26)
       obtain ⟨kq, x61_27, rfl, HA, HJ27, HO_4, HO_7, HB⟩ := hcut
       cases kq with
       | zero => exact absurd HA.out (by simp [laws_FnExactClaimsIn.j1])
       | succ kj27 =>
        have H := HA.out; clear HA
        simp only [laws_FnExactClaimsIn.j1] at H
        by_cases c42 : x61_27 = true
        ·subst c42
         have H1 : (some false) = some r := by rw [if_pos rfl] at H; exact H
         clear H
         have H := H1
         clear H1
         exact absurd (H.trans (congrArg some hr_)) (by simp)
        ·replace c42 := Bool.eq_false_iff.mpr c42
         subst c42
         have H1 : ((laws_markClaimS.f kj27 t255 1).bind fun bt267 => ((laws_heldClaimS.f kj27 bt267.2 1).bind fun t269 => (if t269 < 0 then (some false) else (if t269 = bt267.1 then ((laws_toStatementS.f kj27 l0).bind fun t270 => ((impl_ClaimsIn.f kj27 t270).bind fun bt273 => ((laws_eqClaimS.f kj27 bt273.1 t248).bind fun t277 => (if t277 = true then (laws_FnExactClaimsIn.j2 kj27 bt267.2 bt267.1 (bt273.2 != t249)) else (laws_FnExactClaimsIn.j2 kj27 bt267.2 bt267.1 true))))) else (some false))))) = some r := by rw [if_neg (show ¬ (false = true) by decide)] at H; exact H
         clear H
         have H := H1
         clear H1; replace H := bS H; obtain ⟨⟨t267, t268⟩, A43, H⟩ := H
         replace H : ((laws_heldClaimS.f kj27 t268 1).bind fun t269 => (if t269 < 0 then (some false) else (if t269 = t267 then ((laws_toStatementS.f kj27 l0).bind fun t270 => ((impl_ClaimsIn.f kj27 t270).bind fun bt273 => ((laws_eqClaimS.f kj27 bt273.1 t248).bind fun t277 => (if t277 = true then (laws_FnExactClaimsIn.j2 kj27 t268 t267 (bt273.2 != t249)) else (laws_FnExactClaimsIn.j2 kj27 t268 t267 true))))) else (some false)))) = some r := H
         replace H := bS H; obtain ⟨t269, A44, H⟩ := H
         replace H : (if t269 < 0 then (some false) else (if t269 = t267 then ((laws_toStatementS.f kj27 l0).bind fun t270 => ((impl_ClaimsIn.f kj27 t270).bind fun bt273 => ((laws_eqClaimS.f kj27 bt273.1 t248).bind fun t277 => (if t277 = true then (laws_FnExactClaimsIn.j2 kj27 t268 t267 (bt273.2 != t249)) else (laws_FnExactClaimsIn.j2 kj27 t268 t267 true))))) else (some false))) = some r := H
         by_cases c45 : t269 < 0
         ·rw [if_pos c45] at H
          have c45b0 : decide (t269 < 0) = true := decide_eq_true c45
          clear c45
          exact absurd (H.trans (congrArg some hr_)) (by simp)
         ·rw [if_neg c45] at H
          have c45b0 : decide (t269 < 0) = false := decide_eq_false c45
          clear c45
          by_cases c46 : t269 = t267
          ·rw [if_pos c46] at H
           have c46b0 : (t269 == t267) = true := beq_iff_eq.mpr c46
           have c46b1 : (t269 != t267) = false := bne_eq_false_iff_eq.mpr c46
           clear c46; replace H := bS H; obtain ⟨t270, A47, H⟩ := H
           replace H : ((impl_ClaimsIn.f kj27 t270).bind fun bt273 => ((laws_eqClaimS.f kj27 bt273.1 t248).bind fun t277 => (if t277 = true then (laws_FnExactClaimsIn.j2 kj27 t268 t267 (bt273.2 != t249)) else (laws_FnExactClaimsIn.j2 kj27 t268 t267 true)))) = some r := H
           replace H := bS H; obtain ⟨⟨t273, t274⟩, A48, H⟩ := H
           replace H : ((laws_eqClaimS.f kj27 t273 t248).bind fun t277 => (if t277 = true then (laws_FnExactClaimsIn.j2 kj27 t268 t267 (t274 != t249)) else (laws_FnExactClaimsIn.j2 kj27 t268 t267 true))) = some r := H
           have HC49 := Aside0.mk H; clear H
           obtain ⟨Ao50, co50, eo50⟩ := Kd.R_slice HO_7.out
           subst eo50
           go_upto_region 25 with (first | ((with_reducible refine gate_callee (f := 54) rfl ?_); refine goesLa (some 64) rfl Try.func54 #[.slice Ao50 t255.length co50, .int .i64 1] rfl ?_; (with_reducible refine (laws_markClaimS.calls kj27 (fun k_ => some k_ = (.slice Ao50 t255.length co50 : Value).ownBlock) (.slice Ao50 t255.length co50) t255 1 t267 t268 w _ ?side1 ?side2 A43.out).mono ?_); (case side1 => repeat (first | (with_reducible first | exact HB.out | apply below_alloc | apply pw_below_drewN | apply below_drew1) | exact HB.out)); (case side2 => exact Kd.R_tight rfl HO_7.out); rintro e w51 ⟨rfl, hy0, hb, hkp⟩; refine ⟨_, rfl, ?_⟩; replace HO_4 := ak (Kd.R_mono (ok' := fun k_ => some k_ ≠ (.slice Ao50 t255.length co50 : Value).ownBlock) (Kd.R_keptB (HO_4.out) hkp (fun k_ hk_ hs_ => (hk_) hs_)) (fun k_ hk_ => hk_.1)); replace HO_7 := ak (Kd.R_reok rfl hy0 (fun k_ e_ => HO_7.out.1 k_ e_)); replace HB := ak (hb); (try clear hb); (try clear hkp); (try clear hy0)) | ((with_reducible refine gate_callee (f := 55) rfl ?_); refine goesL_ (some 67) rfl rfl Try.func55 (by kernel_rfl) rfl #[.slice Ao50 t268.length co50, .int .i64 1] rfl (by (try simp only [List.map_toArray, List.map_cons, List.map_nil]); first | done | (rw [show t268.length = t255.length from (Kd.R_reads' HO_7.out).1.symm] <;> rfl) | rfl | (simp only [List.length_drop, List.length_take]; rfl)) ?_; (with_reducible refine (laws_heldClaimS.calls kj27 _ _ t268 1 t269 _ ?side1 ?side2 A44.out).mono ?_); (case side1 => exact cd (Kd.R_reads' HO_7.out).2.2); (case side2 => rw [show t268.length = t255.length from (Kd.R_reads' HO_7.out).1.symm]; exact (Kd.R_reads' HO_7.out).2.1); rintro e w' ⟨rfl, ⟨nd, rfl⟩⟩; refine ⟨_, rfl, ?_⟩) | ((with_reducible refine gate_callee (f := 49) rfl ?_); refine goesLa (some 75) rfl Try.func49 #[.slice A0 l0.length c0] rfl ?_; (with_reducible refine (laws_toStatementS.calls kj27 _ _ l0 t270 _ ?side1 ?side2 A47.out).mono ?_); (case side1 => exact cd (Kd.C_below HR0.out (belowd HB))); (case side2 => exact HC0.out); rintro e w52 ⟨v271, rfl, ho0, hb⟩; refine ⟨_, rfl, ?_⟩; replace HO_4 := ak (Kd.R_below (rdl HO_4) hb); replace HO_7 := ak (Kd.R_below (rdl HO_7) hb); have HO272 := ak (Kd.R_lower ho0 (below_size (belowd HB))); replace HB := ak (below_step (belowd HB) hb); (try clear hb); (try clear ho0); obtain ⟨Ao53, co53, eo53⟩ := Kd.R_slice HO272.out; subst eo53) | ((with_reducible refine gate_callee (f := 50) rfl ?_); refine goesLa (some 76) rfl Try.func50 #[.slice Ao53 t270.length co53] rfl ?_; (with_reducible refine (impl_ClaimsIn.calls kj27 _ _ t270 t273 t274 _ ?side1 ?side2 A48.out).mono ?_); (case side1 => exact cd (Kd.R_reads' HO272.out).2.2); (case side2 => exact (Kd.R_reads' HO272.out).2.1); rintro e w54 ⟨v275, rfl, ho0, hb⟩; refine ⟨_, rfl, ?_⟩; replace HO272 := ak (Kd.R_below (rdl HO272) hb); have HO276 := ak (Kd.R_lower (Kd.R_new' (Kd.R_new' ho0 (Kd.R_lt (rdl HO_4))) (Kd.R_lt (rdl HO_7))) (below_size (belowd HB))); replace HO_4 := ak (Kd.R_elder' (rdl HO_4) (Kd.R_base ho0) hb); replace HO_7 := ak (Kd.R_elder' (rdl HO_7) (Kd.R_base ho0) hb); replace HB := ak (below_step (belowd HB) hb); (try clear hb); (try clear ho0)))
           (try simp only [Act.put, List.setIfInBounds_toArray, List.set_cons_zero, List.set_cons_succ])
           go_cut [87] (fun v87 wc => ∃ (kq : Nat) (x87_48 : Bool), v87 = .bool x87_48 ∧ Aside0 (laws_FnExactClaimsIn.j2 kq t268 t267 x87_48 = some r) ∧ Aside0 (kq ≤ kj27) ∧ Aside0 (Kd.R k85 85 wc w.heap.size (fun _ => True) (.slice Ao50 t255.length co50) t268) ∧ Aside0 (Below w.heap.size w wc))
           case first =>
            have H := HC49.out; clear HC49; replace H := bS H; obtain ⟨t277, A55, H⟩ := H
            replace H : (if t277 = true then (laws_FnExactClaimsIn.j2 kj27 t268 t267 (t274 != t249)) else (laws_FnExactClaimsIn.j2 kj27 t268 t267 true)) = some r := H
            by_cases c56 : t277 = true
            ·subst c56
             have H1 : (laws_FnExactClaimsIn.j2 kj27 t268 t267 (t274 != t249)) = some r := by rw [if_pos rfl] at H; exact H
             clear H
             have H := H1
             clear H1
             have H' := Aside0.mk H
             clear H
             obtain ⟨Ao57, co57, eo57⟩ := Kd.R_slice HO276.out
             subst eo57
             obtain ⟨Ao58, co58, eo58⟩ := Kd.R_slice HO_4.out
             subst eo58
             go_wp2_with (first | ((with_reducible refine gate_callee (f := 51) rfl ?_); refine goesLa (some 81) rfl Try.func51 #[.slice Ao57 t273.length co57, .slice Ao58 t248.length co58] rfl ?_; (with_reducible refine (laws_eqClaimS.calls kj27 _ _ t273 _ _ t248 true _ ?side1 ?side2 ?side3 ?side4 A55.out).mono ?_); (case side1 => exact cd (Kd.R_reads' HO276.out).2.2); (case side2 => exact (Kd.R_reads' HO276.out).2.1); (case side3 => exact cd (Kd.R_reads' HO_4.out).2.2); (case side4 => exact (Kd.R_reads' HO_4.out).2.1); rintro e w59 ⟨rfl, hb⟩; refine ⟨_, rfl, ?_⟩; replace HO_4 := ak (Kd.R_below (rdl HO_4) hb); replace HO_7 := ak (Kd.R_below (rdl HO_7) hb); replace HO272 := ak (Kd.R_below (rdl HO272) hb); replace HO276 := ak (Kd.R_below (rdl HO276) hb); replace HB := ak (below_step (belowd HB) hb); (try clear hb)))
             go_meet
             case rel => exact ⟨_, ((t274 != t249)), er, H', ⟨by have := HJ7.out; have := HJ27.out; first | omega | exact Nat.le_refl _⟩, ⟨by (with_reducible repeat (first | apply Kd.R_alloc | apply Kd.R_drewN | apply Kd.R_drew)); exact Kd.R_mono HO_7.out (fun _ hk => trivial)⟩, ⟨belowd HB⟩⟩
            ·replace c56 := Bool.eq_false_iff.mpr c56
             subst c56
             have H1 : (laws_FnExactClaimsIn.j2 kj27 t268 t267 true) = some r := by rw [if_neg (show ¬ (false = true) by decide)] at H; exact H
             clear H
             have H := H1
             clear H1
             have H' := Aside0.mk H
             clear H
             obtain ⟨Ao60, co60, eo60⟩ := Kd.R_slice HO276.out
             subst eo60
             obtain ⟨Ao61, co61, eo61⟩ := Kd.R_slice HO_4.out
             subst eo61
             go_wp2_with (first | ((with_reducible refine gate_callee (f := 51) rfl ?_); refine goesLa (some 81) rfl Try.func51 #[.slice Ao60 t273.length co60, .slice Ao61 t248.length co61] rfl ?_; (with_reducible refine (laws_eqClaimS.calls kj27 _ _ t273 _ _ t248 false _ ?side1 ?side2 ?side3 ?side4 A55.out).mono ?_); (case side1 => exact cd (Kd.R_reads' HO276.out).2.2); (case side2 => exact (Kd.R_reads' HO276.out).2.1); (case side3 => exact cd (Kd.R_reads' HO_4.out).2.2); (case side4 => exact (Kd.R_reads' HO_4.out).2.1); rintro e w62 ⟨rfl, hb⟩; refine ⟨_, rfl, ?_⟩; replace HO_4 := ak (Kd.R_below (rdl HO_4) hb); replace HO_7 := ak (Kd.R_below (rdl HO_7) hb); replace HO272 := ak (Kd.R_below (rdl HO272) hb); replace HO276 := ak (Kd.R_below (rdl HO276) hb); replace HB := ak (below_step (belowd HB) hb); (try clear hb)))
             go_meet
             case rel => exact ⟨_, (true), er, H', ⟨by have := HJ7.out; have := HJ27.out; first | omega | exact Nat.le_refl _⟩, ⟨by (with_reducible repeat (first | apply Kd.R_alloc | apply Kd.R_drewN | apply Kd.R_drew)); exact Kd.R_mono HO_7.out (fun _ hk => trivial)⟩, ⟨belowd HB⟩⟩
           case rest =>
            clear HC49; (try clear c42); (try clear c45b0); (try clear c46b0); (try clear c46b1)
            obtain ⟨kq, x87_48, rfl, HA, HJ48, HO_7, HB⟩ := hcut
            have hl7_48 := (Kd.R_reads' HO_7.out).1
            rw [hl7_48] at HO_7
            (try simp only [hl7_48])
            cases kq with
            | zero => exact absurd HA.out (by simp [laws_FnExactClaimsIn.j2])
            | succ kj48 =>
             have H := HA.out; clear HA
             simp only [laws_FnExactClaimsIn.j2] at H
             by_cases c63 : x87_48 = true
             ·subst c63
              have H1 : (some false) = some r := by rw [if_pos rfl] at H; exact H
              clear H
              have H := H1
              clear H1
              exact absurd (H.trans (congrArg some hr_)) (by simp)
             ·replace c63 := Bool.eq_false_iff.mpr c63
              subst c63
              have H1 : ((laws_heldClaimS.f kj48 t268 1).bind fun t278 => (if t278 < 0 then (some false) else (if t278 = t267 then (some true) else (some false)))) = some r := by rw [if_neg (show ¬ (false = true) by decide)] at H; exact H
              clear H
              have H := H1
              clear H1; replace H := bS H; obtain ⟨t278, A64, H⟩ := H
              replace H : (if t278 < 0 then (some false) else (if t278 = t267 then (some true) else (some false))) = some r := H
              by_cases c65 : t278 < 0
              ·rw [if_pos c65] at H
               have c65b0 : decide (t278 < 0) = true := decide_eq_true c65
               clear c65
               exact absurd (H.trans (congrArg some hr_)) (by simp)
              ·rw [if_neg c65] at H
               have c65b0 : decide (t278 < 0) = false := decide_eq_false c65
               clear c65
               by_cases c66 : t278 = t267
               ·rw [if_pos c66] at H
                have c66b0 : (t278 == t267) = true := beq_iff_eq.mpr c66
                have c66b1 : (t278 != t267) = false := bne_eq_false_iff_eq.mpr c66
                clear c66
                obtain rfl := Option.some.inj H
                go_wp2_with (first | ((with_reducible refine gate_callee (f := 55) rfl ?_); refine goesLa (some 90) rfl Try.func55 #[.slice Ao50 t268.length co50, .int .i64 1] rfl ?_; (with_reducible refine (laws_heldClaimS.calls kj48 _ _ t268 1 t278 _ ?side1 ?side2 A64.out).mono ?_); (case side1 => exact cd (Kd.R_reads' HO_7.out).2.2); (case side2 => exact (Kd.R_reads' HO_7.out).2.1); rintro e w' ⟨rfl, ⟨nd, rfl⟩⟩; refine ⟨_, rfl, ?_⟩))
                go_ret
                exact ⟨er2, belowd HB⟩
               ·rw [if_neg c66] at H
                have c66b0 : (t278 == t267) = false := beq_eq_false_iff_ne.mpr c66
                have c66b1 : (t278 != t267) = true := bne_iff_ne.mpr c66
                exact absurd (H.trans (congrArg some hr_)) (by simp)
          ·rw [if_neg c46] at H
           have c46b0 : (t269 == t267) = false := beq_eq_false_iff_ne.mpr c46
           have c46b1 : (t269 != t267) = true := bne_iff_ne.mpr c46
           exact absurd (H.trans (congrArg some hr_)) (by simp)
     ·replace c26 := Bool.eq_false_iff.mpr c26
      subst c26
      have H1 : (some false) = some r := by rw [if_neg (show ¬ (false = true) by decide)] at H; exact H
      clear H
      have H := H1
      clear H1
      exact absurd (H.trans (congrArg some hr_)) (by simp)

/-- THE ONE PURE STATEMENT of laws_FnExactClaimsIn. -/
def laws_FnExactClaimsIn.Pure : Prop := ∀ (l0 : List (S176)), (l0.length ≤ maxLen ∧ ∀ y ∈ l0, W176 y) → ∃ k, laws_FnExactClaimsIn.f k l0 = some true
theorem laws_FnExactClaimsIn.walk (P : laws_FnExactClaimsIn.Pure) (A0 : Option Addr) (c0 : Nat) (l0 : List (S176)) (w : World) (hr0 : Kd.C k176 w A0 l0.length l0) (hc0 : l0.length ≤ c0) (g0 : (l0.length ≤ maxLen ∧ ∀ y ∈ l0, W176 y)) :
  Calls Try.prog 7 #[.slice A0 l0.length c0] w fun e w' => e = .returned (.bool true) ∧ Below w.heap.size w w' := by
 obtain ⟨k, h⟩ := P l0 g0
 refine (laws_FnExactClaimsIn.calls k _ _ l0 true w hr0 hc0 h rfl).mono ?_
 rintro e w' ⟨rfl, hd⟩
 exact ⟨rfl, hd⟩

end Go.Proofs.Ytkgogglnipdcfaa.QFnExactClaimsIn
