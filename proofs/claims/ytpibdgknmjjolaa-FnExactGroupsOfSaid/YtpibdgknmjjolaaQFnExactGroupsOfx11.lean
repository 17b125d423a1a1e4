-- printed by this session's own program (wip/tools/pp.py: the kit's print.py with changes); Lean checks it
import Derived.Test.YtpibdgknmjjolaaQFnExactGroupsOfx0
import Derived.Test.YtpibdgknmjjolaaQFnExactGroupsOfx1
import Derived.Test.YtpibdgknmjjolaaQFnExactGroupsOfx2
import Derived.Test.YtpibdgknmjjolaaQFnExactGroupsOfx5
import Derived.Test.YtpibdgknmjjolaaQFnExactGroupsOfx10
namespace Go.Proofs.Ytpibdgknmjjolaa.QFnExactGroupsOf
open Go.RowKit Go.Proofs.YtpibdgknmjjolaaW.PrintWords Go.Proofs.YtpibdgknmjjolaaW.PrintLast Go.Proofs.YtpibdgknmjjolaaW.PrintMore
attribute [local go_sem] max2_int min2_int max_two min_two max_three min_three max_four min_four strLss strGtr strLeq strGeq   -- for this text's walks alone
set_option linter.unusedVariables false
set_option linter.unusedSimpArgs false

/-! ### laws_FnExactGroupsOf: function 7 -/
mutual
def laws_FnExactGroupsOf.j0 : Nat → List (List Int) → Bool → List (List Int) → Bool → Bool → Int → List (List Int) → List Int → Int → List (List Int) → List Int → Option (Bool)
  | 0, _, _, _, _, _, _, _, _, _, _, _ => none
  | k + 1, x4, x5, x7, x8, x40, x279000, x279001, x279002, x299000, x299001, x299002 => if x40 = true then (some false) else ((laws_toTable.f k x279000 x279001 x279002).bind fun bt304 => ((laws_eqTable.f k x299000 x299001 x299002 bt304.1 bt304.2.1 bt304.2.2).bind fun t311 => (if t311 = true then ((laws_markTable.f k x299000 x299001 x299002 1).bind fun bt312 => (if bt312.1 < 0 then (laws_FnExactGroupsOf.j1 k x4 x5 x7 true x279000 x279001 x279002) else ((laws_eqIntSS.f k x7 x4).bind fun t315 => (if t315 = true then (laws_FnExactGroupsOf.j1 k x4 x5 x7 (x8 != x5) x279000 x279001 x279002) else (laws_FnExactGroupsOf.j1 k x4 x5 x7 true x279000 x279001 x279002))))) else (some false))))
def laws_FnExactGroupsOf.j1 : Nat → List (List Int) → Bool → List (List Int) → Bool → Int → List (List Int) → List Int → Option (Bool)
  | 0, _, _, _, _, _, _, _ => none
  | k + 1, x4, x5, x7, x61, x279000, x279001, x279002 => if x61 = true then (some false) else ((laws_markIntSS.f k x7 1).bind fun bt316 => ((laws_heldIntSS.f k bt316.2 1).bind fun t318 => (if t318 < 0 then (some false) else (if t318 = bt316.1 then ((laws_toTable.f k x279000 x279001 x279002).bind fun bt319 => ((impl_GroupsOf.f k bt319.1 bt319.2.1 bt319.2.2).bind fun bt326 => ((laws_eqIntSS.f k bt326.1 x4).bind fun t330 => (if t330 = true then (laws_FnExactGroupsOf.j2 k bt316.2 bt316.1 (bt326.2 != x5)) else (laws_FnExactGroupsOf.j2 k bt316.2 bt316.1 true))))) else (some false)))))
def laws_FnExactGroupsOf.j2 : Nat → List (List Int) → Int → Bool → Option (Bool)
  | 0, _, _, _ => none
  | k + 1, x7, x10, x87 => if x87 = true then (some false) else ((laws_heldIntSS.f k x7 1).bind fun t331 => (if t331 < 0 then (some false) else (if t331 = x10 then (some true) else (some false))))
end
def laws_FnExactGroupsOf.f (k : Nat) (a0_0 : Int) (l0_1 : List (List Int)) (l0_2 : List Int) : Option (Bool) := (laws_szTable.f k a0_0 l0_1 l0_2 1048576).bind fun t279 => (if t279 < 0 then (some true) else ((laws_toTable.f k a0_0 l0_1 l0_2).bind fun bt280 => ((spec_GroupsOf.f k bt280.1 bt280.2.1 bt280.2.2).bind fun bt287 => ((laws_toTable.f k a0_0 l0_1 l0_2).bind fun bt291 => ((impl_GroupsOf.f k bt291.1 bt291.2.1 bt291.2.2).bind fun bt299 => ((laws_eqIntSS.f k bt299.1 bt287.1).bind fun t303 => (if t303 = true then (laws_FnExactGroupsOf.j0 k bt287.1 bt287.2 bt299.1 bt299.2 (bt299.2 != bt287.2) a0_0 l0_1 l0_2 bt291.1 bt291.2.1 bt291.2.2) else (laws_FnExactGroupsOf.j0 k bt287.1 bt287.2 bt299.1 bt299.2 true a0_0 l0_1 l0_2 bt291.1 bt291.2.1 bt291.2.2))))))))
theorem laws_FnExactGroupsOf.mono_l : ∀ k, (∀ y0 y1 y2 y3 y4 y5 y6 y7 y8 y9 y10, LeO (laws_FnExactGroupsOf.j0 k y0 y1 y2 y3 y4 y5 y6 y7 y8 y9 y10) (laws_FnExactGroupsOf.j0 (k + 1) y0 y1 y2 y3 y4 y5 y6 y7 y8 y9 y10)) ∧ (∀ y0 y1 y2 y3 y4 y5 y6, LeO (laws_FnExactGroupsOf.j1 k y0 y1 y2 y3 y4 y5 y6) (laws_FnExactGroupsOf.j1 (k + 1) y0 y1 y2 y3 y4 y5 y6)) ∧ (∀ y0 y1 y2, LeO (laws_FnExactGroupsOf.j2 k y0 y1 y2) (laws_FnExactGroupsOf.j2 (k + 1) y0 y1 y2))
  | 0 => ⟨fun _ _ _ _ _ _ _ _ _ _ _ r h => by simp [laws_FnExactGroupsOf.j0] at h, fun _ _ _ _ _ _ _ r h => by simp [laws_FnExactGroupsOf.j1] at h, fun _ _ _ r h => by simp [laws_FnExactGroupsOf.j2] at h⟩
  | k + 1 => by
    obtain ⟨ih0, ih1, ih2⟩ := laws_FnExactGroupsOf.mono_l k
    refine ⟨?_, ?_, ?_⟩
    · intro y0 y1 y2 y3 y4 y5 y6 y7 y8 y9 y10
      unfold laws_FnExactGroupsOf.j0
      repeat' first
      | (with_reducible exact ih0 _ _ _ _ _ _ _ _ _ _ _)
      | (with_reducible exact ih1 _ _ _ _ _ _ _)
      | (with_reducible exact ih2 _ _ _)
      | (with_reducible exact impl_GroupsOf.mono _ _ _ _)
      | (with_reducible exact laws_eqIntSS.mono _ _ _)
      | (with_reducible exact laws_eqTable.mono _ _ _ _ _ _ _)
      | (with_reducible exact laws_heldIntSS.mono _ _ _)
      | (with_reducible exact laws_markIntSS.mono _ _ _)
      | (with_reducible exact laws_markTable.mono _ _ _ _ _)
      | (with_reducible exact laws_szTable.mono _ _ _ _ _)
      | (with_reducible exact laws_toTable.mono _ _ _ _)
      | (with_reducible exact spec_GroupsOf.mono _ _ _ _)
      | (with_reducible exact LeO.refl _)
      | (with_reducible exact LeO.none _)
      | (with_reducible refine LeO.ite ?_ ?_)
      | (with_reducible refine LeO.bind ?_ (fun _ => ?_))
      | exact ih0 _ _ _ _ _ _ _ _ _ _ _
      | exact ih1 _ _ _ _ _ _ _
      | exact ih2 _ _ _
      | exact impl_GroupsOf.mono _ _ _ _
      | exact laws_eqIntSS.mono _ _ _
      | exact laws_eqTable.mono _ _ _ _ _ _ _
      | exact laws_heldIntSS.mono _ _ _
      | exact laws_markIntSS.mono _ _ _
      | exact laws_markTable.mono _ _ _ _ _
      | exact laws_szTable.mono _ _ _ _ _
      | exact laws_toTable.mono _ _ _ _
      | exact spec_GroupsOf.mono _ _ _ _
      | exact LeO.none _
      | refine LeO.ite ?_ ?_
      | refine LeO.bind ?_ (fun _ => ?_)
    · intro y0 y1 y2 y3 y4 y5 y6
      unfold laws_FnExactGroupsOf.j1
      repeat' first
      | (with_reducible exact ih0 _ _ _ _ _ _ _ _ _ _ _)
      | (with_reducible exact ih1 _ _ _ _ _ _ _)
      | (with_reducible exact ih2 _ _ _)
      | (with_reducible exact impl_GroupsOf.mono _ _ _ _)
      | (with_reducible exact laws_eqIntSS.mono _ _ _)
      | (with_reducible exact laws_eqTable.mono _ _ _ _ _ _ _)
      | (with_reducible exact laws_heldIntSS.mono _ _ _)
      | (with_reducible exact laws_markIntSS.mono _ _ _)
      | (with_reducible exact laws_markTable.mono _ _ _ _ _)
      | (with_reducible exact laws_szTable.mono _ _ _ _ _)
      | (with_reducible exact laws_toTable.mono _ _ _ _)
      | (with_reducible exact spec_GroupsOf.mono _ _ _ _)
      | (with_reducible exact LeO.refl _)
      | (with_reducible exact LeO.none _)
      | (with_reducible refine LeO.ite ?_ ?_)
      | (with_reducible refine LeO.bind ?_ (fun _ => ?_))
      | exact ih0 _ _ _ _ _ _ _ _ _ _ _
      | exact ih1 _ _ _ _ _ _ _
      | exact ih2 _ _ _
      | exact impl_GroupsOf.mono _ _ _ _
      | exact laws_eqIntSS.mono _ _ _
      | exact laws_eqTable.mono _ _ _ _ _ _ _
      | exact laws_heldIntSS.mono _ _ _
      | exact laws_markIntSS.mono _ _ _
      | exact laws_markTable.mono _ _ _ _ _
      | exact laws_szTable.mono _ _ _ _ _
      | exact laws_toTable.mono _ _ _ _
      | exact spec_GroupsOf.mono _ _ _ _
      | exact LeO.none _
      | refine LeO.ite ?_ ?_
      | refine LeO.bind ?_ (fun _ => ?_)
    · intro y0 y1 y2
      unfold laws_FnExactGroupsOf.j2
      repeat' first
      | (with_reducible exact ih0 _ _ _ _ _ _ _ _ _ _ _)
      | (with_reducible exact ih1 _ _ _ _ _ _ _)
      | (with_reducible exact ih2 _ _ _)
      | (with_reducible exact impl_GroupsOf.mono _ _ _ _)
      | (with_reducible exact laws_eqIntSS.mono _ _ _)
      | (with_reducible exact laws_eqTable.mono _ _ _ _ _ _ _)
      | (with_reducible exact laws_heldIntSS.mono _ _ _)
      | (with_reducible exact laws_markIntSS.mono _ _ _)
      | (with_reducible exact laws_markTable.mono _ _ _ _ _)
      | (with_reducible exact laws_szTable.mono _ _ _ _ _)
      | (with_reducible exact laws_toTable.mono _ _ _ _)
      | (with_reducible exact spec_GroupsOf.mono _ _ _ _)
      | (with_reducible exact LeO.refl _)
      | (with_reducible exact LeO.none _)
      | (with_reducible refine LeO.ite ?_ ?_)
      | (with_reducible refine LeO.bind ?_ (fun _ => ?_))
      | exact ih0 _ _ _ _ _ _ _ _ _ _ _
      | exact ih1 _ _ _ _ _ _ _
      | exact ih2 _ _ _
      | exact impl_GroupsOf.mono _ _ _ _
      | exact laws_eqIntSS.mono _ _ _
      | exact laws_eqTable.mono _ _ _ _ _ _ _
      | exact laws_heldIntSS.mono _ _ _
      | exact laws_markIntSS.mono _ _ _
      | exact laws_markTable.mono _ _ _ _ _
      | exact laws_szTable.mono _ _ _ _ _
      | exact laws_toTable.mono _ _ _ _
      | exact spec_GroupsOf.mono _ _ _ _
      | exact LeO.none _
      | refine LeO.ite ?_ ?_
      | refine LeO.bind ?_ (fun _ => ?_)
theorem laws_FnExactGroupsOf.mono : ∀ a0 a1 a2 k, LeO (laws_FnExactGroupsOf.f k a0 a1 a2) (laws_FnExactGroupsOf.f (k + 1) a0 a1 a2) := by
  intro a0 a1 a2 k
  obtain ⟨ih0, ih1, ih2⟩ := laws_FnExactGroupsOf.mono_l k
  unfold laws_FnExactGroupsOf.f
  repeat' first
      | (with_reducible exact ih0 _ _ _ _ _ _ _ _ _ _ _)
      | (with_reducible exact ih1 _ _ _ _ _ _ _)
      | (with_reducible exact ih2 _ _ _)
      | (with_reducible exact impl_GroupsOf.mono _ _ _ _)
      | (with_reducible exact laws_eqIntSS.mono _ _ _)
      | (with_reducible exact laws_eqTable.mono _ _ _ _ _ _ _)
      | (with_reducible exact laws_heldIntSS.mono _ _ _)
      | (with_reducible exact laws_markIntSS.mono _ _ _)
      | (with_reducible exact laws_markTable.mono _ _ _ _ _)
      | (with_reducible exact laws_szTable.mono _ _ _ _ _)
      | (with_reducible exact laws_toTable.mono _ _ _ _)
      | (with_reducible exact spec_GroupsOf.mono _ _ _ _)
      | (with_reducible exact LeO.refl _)
      | (with_reducible exact LeO.none _)
      | (with_reducible refine LeO.ite ?_ ?_)
      | (with_reducible refine LeO.bind ?_ (fun _ => ?_))
      | exact ih0 _ _ _ _ _ _ _ _ _ _ _
      | exact ih1 _ _ _ _ _ _ _
      | exact ih2 _ _ _
      | exact impl_GroupsOf.mono _ _ _ _
      | exact laws_eqIntSS.mono _ _ _
      | exact laws_eqTable.mono _ _ _ _ _ _ _
      | exact laws_heldIntSS.mono _ _ _
      | exact laws_markIntSS.mono _ _ _
      | exact laws_markTable.mono _ _ _ _ _
      | exact laws_szTable.mono _ _ _ _ _
      | exact laws_toTable.mono _ _ _ _
      | exact spec_GroupsOf.mono _ _ _ _
      | exact LeO.none _
      | refine LeO.ite ?_ ?_
      | refine LeO.bind ?_ (fun _ => ?_)
set_option maxHeartbeats 8000000 in
set_option maxRecDepth 100000 in
theorem laws_FnExactGroupsOf.calls (k : Nat) (a0_0 : Int) (A0_1 : Option Addr) (c0_1 : Nat) (l0_1 : List (List Int)) (A0_2 : Option Addr) (c0_2 : Nat) (l0_2 : List Int) (r : Bool) (w : World) (hr0_1 : Kd.C (Kd.slice 3 (Kd.int .i64)) w A0_1 l0_1.length l0_1) (hc0_1 : l0_1.length ≤ c0_1) (hr0_2 : Kd.C (Kd.int .i64) w A0_2 l0_2.length l0_2) (hc0_2 : l0_2.length ≤ c0_2) (h : laws_FnExactGroupsOf.f k a0_0 l0_1 l0_2 = some r) (hr_ : r = true) :
    Calls Try.prog 7 #[.agg #[.int .i64 a0_0, .slice A0_1 l0_1.length c0_1, .slice A0_2 l0_2.length c0_2]] w fun e w' => e = .returned (.bool r) ∧ Below w.heap.size w w' := by
  have hu34 := Try.underlying34
  have hu38 := Try.underlying38
  have HR0_1 := Aside0.mk hr0_1
  have HC0_1 := Aside0.mk hc0_1
  clear hr0_1 hc0_1
  have HR0_2 := Aside0.mk hr0_2
  have HC0_2 := Aside0.mk hc0_2
  clear hr0_2 hc0_2
  have HB := Aside0.mk (Below.refl w.heap.size w)
  have H : ((laws_szTable.f k a0_0 l0_1 l0_2 1048576).bind fun t279 => (if t279 < 0 then (some true) else ((laws_toTable.f k a0_0 l0_1 l0_2).bind fun bt280 => ((spec_GroupsOf.f k bt280.1 bt280.2.1 bt280.2.2).bind fun bt287 => ((laws_toTable.f k a0_0 l0_1 l0_2).bind fun bt291 => ((impl_GroupsOf.f k bt291.1 bt291.2.1 bt291.2.2).bind fun bt299 => ((laws_eqIntSS.f k bt299.1 bt287.1).bind fun t303 => (if t303 = true then (laws_FnExactGroupsOf.j0 k bt287.1 bt287.2 bt299.1 bt299.2 (bt299.2 != bt287.2) a0_0 l0_1 l0_2 bt291.1 bt291.2.1 bt291.2.2) else (laws_FnExactGroupsOf.j0 k bt287.1 bt287.2 bt299.1 bt299.2 true a0_0 l0_1 l0_2 bt291.1 bt291.2.1 bt291.2.2))))))))) = some r := h
  clear h
  replace H := Option.bind_eq_some_iff.mp H
  obtain ⟨t279, A20, H⟩ := H
  replace H : (if t279 < 0 then (some true) else ((laws_toTable.f k a0_0 l0_1 l0_2).bind fun bt280 => ((spec_GroupsOf.f k bt280.1 bt280.2.1 bt280.2.2).bind fun bt287 => ((laws_toTable.f k a0_0 l0_1 l0_2).bind fun bt291 => ((impl_GroupsOf.f k bt291.1 bt291.2.1 bt291.2.2).bind fun bt299 => ((laws_eqIntSS.f k bt299.1 bt287.1).bind fun t303 => (if t303 = true then (laws_FnExactGroupsOf.j0 k bt287.1 bt287.2 bt299.1 bt299.2 (bt299.2 != bt287.2) a0_0 l0_1 l0_2 bt291.1 bt291.2.1 bt291.2.2) else (laws_FnExactGroupsOf.j0 k bt287.1 bt287.2 bt299.1 bt299.2 true a0_0 l0_1 l0_2 bt291.1 bt291.2.1 bt291.2.2)))))))) = some r := H
  have A2 := Aside0.mk A20
  clear A20
  by_cases c3 : t279 < 0
  · rw [if_pos c3] at H
    have c3b0 : decide (t279 < 0) = true := decide_eq_true c3
    clear c3
    obtain rfl := Option.some.inj H
    go_enter Try.func7, Try.ntmps7
    go_wp2_with (first | ((with_reducible refine gate_dst (N := 1) rfl ?_); refine box_event ?hg (N := 1) ?hd (cs := #[.int .i64 a0_0, .slice A0_1 l0_1.length c0_1, .slice A0_2 l0_2.length c0_2]) (t := 34) ?hr ?_; (case hd => rfl); (case hg => rfl); (case hr => first | (go_simp; done) | (go_simp; rfl)); intro gb278 hg w4 hbox hb; have n0_ := Aside0.mk (below_step (by repeat (first | (with_reducible first | exact HB.out | apply below_alloc | apply pw_below_drewN | apply below_drew1) | exact HB.out)) hb); have n1_ := Aside0.mk (hbox); have n2_ := Aside0.mk ((by rw [hg]; exact (below_size (by repeat (first | (with_reducible first | exact HB.out | apply below_alloc | apply pw_below_drewN | apply below_drew1) | exact HB.out))) : w.heap.size ≤ gb278)); have n3_ := Aside0.mk ((by rw [hg]; exact (below_size (by repeat (first | (with_reducible first | exact HB.out | apply below_alloc | apply pw_below_drewN | apply below_drew1) | exact HB.out))) : w.heap.size ≤ gb278)); clear HB; have HB := n0_; have BK278 := n1_; have GW278 := n2_; have GE278 := n3_; clear n0_ n1_ n2_ n3_; clear hb hbox hg; have hcz5_0 : w4.cell? ⟨gb278, 0, none⟩ = some (.int .i64 a0_0) := (blk_cell BK278.out 0).trans rfl; have hcz5_1 : w4.cell? ⟨gb278, 1, none⟩ = some (.slice A0_1 l0_1.length c0_1) := (blk_cell BK278.out 1).trans rfl; have hcz5_2 : w4.cell? ⟨gb278, 2, none⟩ = some (.slice A0_2 l0_2.length c0_2) := (blk_cell BK278.out 2).trans rfl; have hfz5_0 := blk_frozen BK278.out 0; have hfz5_1 := blk_frozen BK278.out 1; have hfz5_2 := blk_frozen BK278.out 2) | ((with_reducible refine gate_callee (f := 20) rfl ?_); refine goesL_ (some 16) rfl rfl Try.func20 (by kernel_rfl) rfl #[.agg #[.int .i64 a0_0, .slice A0_1 l0_1.length c0_1, .slice A0_2 l0_2.length c0_2], .int .i64 1048576] rfl (by (try simp only [List.map_toArray, List.map_cons, List.map_nil]); first | done | rfl | (simp only [List.length_drop, List.length_take]; rfl)) ?_; (with_reducible refine (laws_szTable.calls k a0_0 _ _ l0_1 _ _ l0_2 1048576 t279 _ ?side1 ?side2 ?side3 ?side4 A2.out).mono ?_); (case side1 => repeat (first | exact (Kd.C_below HR0_1.out HB.out) | (with_reducible refine Kd.C_alloc ?_ _) | (with_reducible refine Kd.C_drewN ?_ _) | (with_reducible refine Kd.C_drew ?_))); (case side2 => exact HC0_1.out); (case side3 => repeat (first | exact (Kd.C_below HR0_2.out HB.out) | (with_reducible refine Kd.C_alloc ?_ _) | (with_reducible refine Kd.C_drewN ?_ _) | (with_reducible refine Kd.C_drew ?_))); (case side4 => exact HC0_2.out); rintro e w6 ⟨rfl, hb⟩; refine ⟨_, rfl, ?_⟩; have n0_ := Aside0.mk (blk_below (g := gb278) (o := .cells #[.int .i64 a0_0, .slice A0_1 l0_1.length c0_1, .slice A0_2 l0_2.length c0_2] 34 (0, 0)) (by (with_reducible repeat (first | refine blk_drewN ?_ _ | refine blk_drew ?_ | refine blk_alloc ?_ _)); exact BK278.out) hb); have n1_ := Aside0.mk (below_step (by repeat (first | (with_reducible first | exact HB.out | apply below_alloc | apply pw_below_drewN | apply below_drew1 | refine below_set ?_ GE278.out) | exact HB.out)) hb); clear BK278; clear HB; have BK278 := n0_; have HB := n1_; clear n0_ n1_; (try clear hb); (try clear hb2); (try clear hk); (try clear hi)))
    go_ret
    exact ⟨by first | rfl | (simp [errW_none, errW_some] <;> rfl) | (simp [*, errW_none, errW_some] <;> rfl), by repeat (first | (with_reducible first | exact HB.out | apply below_alloc | apply pw_below_drewN | apply below_drew1 | refine below_set ?_ GE278.out) | exact HB.out)⟩
  · rw [if_neg c3] at H
    have c3b0 : decide (t279 < 0) = false := decide_eq_false c3
    clear c3
    replace H := Option.bind_eq_some_iff.mp H
    obtain ⟨⟨t280, t281, t284⟩, A70, H⟩ := H
    replace H : ((spec_GroupsOf.f k t280 t281 t284).bind fun bt287 => ((laws_toTable.f k a0_0 l0_1 l0_2).bind fun bt291 => ((impl_GroupsOf.f k bt291.1 bt291.2.1 bt291.2.2).bind fun bt299 => ((laws_eqIntSS.f k bt299.1 bt287.1).bind fun t303 => (if t303 = true then (laws_FnExactGroupsOf.j0 k bt287.1 bt287.2 bt299.1 bt299.2 (bt299.2 != bt287.2) a0_0 l0_1 l0_2 bt291.1 bt291.2.1 bt291.2.2) else (laws_FnExactGroupsOf.j0 k bt287.1 bt287.2 bt299.1 bt299.2 true a0_0 l0_1 l0_2 bt291.1 bt291.2.1 bt291.2.2)))))) = some r := H
    have A7 := Aside0.mk A70
    clear A70
    replace H := Option.bind_eq_some_iff.mp H
    obtain ⟨⟨t287, t290⟩, A80, H⟩ := H
    replace H : ((laws_toTable.f k a0_0 l0_1 l0_2).bind fun bt291 => ((impl_GroupsOf.f k bt291.1 bt291.2.1 bt291.2.2).bind fun bt299 => ((laws_eqIntSS.f k bt299.1 t287).bind fun t303 => (if t303 = true then (laws_FnExactGroupsOf.j0 k t287 t290 bt299.1 bt299.2 (bt299.2 != t290) a0_0 l0_1 l0_2 bt291.1 bt291.2.1 bt291.2.2) else (laws_FnExactGroupsOf.j0 k t287 t290 bt299.1 bt299.2 true a0_0 l0_1 l0_2 bt291.1 bt291.2.1 bt291.2.2))))) = some r := H
    have A8 := Aside0.mk A80
    clear A80
    replace H := Option.bind_eq_some_iff.mp H
    obtain ⟨⟨t291, t292, t295⟩, A90, H⟩ := H
    replace H : ((impl_GroupsOf.f k t291 t292 t295).bind fun bt299 => ((laws_eqIntSS.f k bt299.1 t287).bind fun t303 => (if t303 = true then (laws_FnExactGroupsOf.j0 k t287 t290 bt299.1 bt299.2 (bt299.2 != t290) a0_0 l0_1 l0_2 t291 t292 t295) else (laws_FnExactGroupsOf.j0 k t287 t290 bt299.1 bt299.2 true a0_0 l0_1 l0_2 t291 t292 t295)))) = some r := H
    have A9 := Aside0.mk A90
    clear A90
    replace H := Option.bind_eq_some_iff.mp H
    obtain ⟨⟨t299, t302⟩, A100, H⟩ := H
    replace H : ((laws_eqIntSS.f k t299 t287).bind fun t303 => (if t303 = true then (laws_FnExactGroupsOf.j0 k t287 t290 t299 t302 (t302 != t290) a0_0 l0_1 l0_2 t291 t292 t295) else (laws_FnExactGroupsOf.j0 k t287 t290 t299 t302 true a0_0 l0_1 l0_2 t291 t292 t295))) = some r := H
    have A10 := Aside0.mk A100
    clear A100
    have HC11 := Aside0.mk H
    clear H
    go_enter Try.func7, Try.ntmps7
    go_upto_region 8 with (first | ((with_reducible refine gate_dst (N := 1) rfl ?_); refine box_event ?hg (N := 1) ?hd (cs := #[.int .i64 a0_0, .slice A0_1 l0_1.length c0_1, .slice A0_2 l0_2.length c0_2]) (t := 34) ?hr ?_; (case hd => rfl); (case hg => rfl); (case hr => first | (go_simp; done) | (go_simp; rfl)); intro gb278 hg w12 hbox hb; have n0_ := Aside0.mk (below_step (by repeat (first | (with_reducible first | exact HB.out | apply below_alloc | apply pw_below_drewN | apply below_drew1) | exact HB.out)) hb); have n1_ := Aside0.mk (hbox); have n2_ := Aside0.mk ((by rw [hg]; exact (below_size (by repeat (first | (with_reducible first | exact HB.out | apply below_alloc | apply pw_below_drewN | apply below_drew1) | exact HB.out))) : w.heap.size ≤ gb278)); have n3_ := Aside0.mk ((by rw [hg]; exact (below_size (by repeat (first | (with_reducible first | exact HB.out | apply below_alloc | apply pw_below_drewN | apply below_drew1) | exact HB.out))) : w.heap.size ≤ gb278)); clear HB; have HB := n0_; have BK278 := n1_; have GW278 := n2_; have GE278 := n3_; clear n0_ n1_ n2_ n3_; clear hb hbox hg; have hcz13_0 : w12.cell? ⟨gb278, 0, none⟩ = some (.int .i64 a0_0) := (blk_cell BK278.out 0).trans rfl; have hcz13_1 : w12.cell? ⟨gb278, 1, none⟩ = some (.slice A0_1 l0_1.length c0_1) := (blk_cell BK278.out 1).trans rfl; have hcz13_2 : w12.cell? ⟨gb278, 2, none⟩ = some (.slice A0_2 l0_2.length c0_2) := (blk_cell BK278.out 2).trans rfl; have hfz13_0 := blk_frozen BK278.out 0; have hfz13_1 := blk_frozen BK278.out 1; have hfz13_2 := blk_frozen BK278.out 2) | ((with_reducible refine gate_callee (f := 20) rfl ?_); refine goesL_ (some 16) rfl rfl Try.func20 (by kernel_rfl) rfl #[.agg #[.int .i64 a0_0, .slice A0_1 l0_1.length c0_1, .slice A0_2 l0_2.length c0_2], .int .i64 1048576] rfl (by (try simp only [List.map_toArray, List.map_cons, List.map_nil]); first | done | rfl | (simp only [List.length_drop, List.length_take]; rfl)) ?_; (with_reducible refine (laws_szTable.calls k a0_0 _ _ l0_1 _ _ l0_2 1048576 t279 _ ?side1 ?side2 ?side3 ?side4 A2.out).mono ?_); (case side1 => repeat (first | exact (Kd.C_below HR0_1.out HB.out) | (with_reducible refine Kd.C_alloc ?_ _) | (with_reducible refine Kd.C_drewN ?_ _) | (with_reducible refine Kd.C_drew ?_))); (case side2 => exact HC0_1.out); (case side3 => repeat (first | exact (Kd.C_below HR0_2.out HB.out) | (with_reducible refine Kd.C_alloc ?_ _) | (with_reducible refine Kd.C_drewN ?_ _) | (with_reducible refine Kd.C_drew ?_))); (case side4 => exact HC0_2.out); rintro e w14 ⟨rfl, hb⟩; refine ⟨_, rfl, ?_⟩; have n0_ := Aside0.mk (blk_below (g := gb278) (o := .cells #[.int .i64 a0_0, .slice A0_1 l0_1.length c0_1, .slice A0_2 l0_2.length c0_2] 34 (0, 0)) (by (with_reducible repeat (first | refine blk_drewN ?_ _ | refine blk_drew ?_ | refine blk_alloc ?_ _)); exact BK278.out) hb); have n1_ := Aside0.mk (below_step (by repeat (first | (with_reducible first | exact HB.out | apply below_alloc | apply pw_below_drewN | apply below_drew1 | refine below_set ?_ GE278.out) | exact HB.out)) hb); clear BK278; clear HB; have BK278 := n0_; have HB := n1_; clear n0_ n1_; (try clear hb); (try clear hb2); (try clear hk); (try clear hi); have hcz15_0 : w14.cell? ⟨gb278, 0, none⟩ = some (.int .i64 a0_0) := (blk_cell BK278.out 0).trans rfl; have hcz15_1 : w14.cell? ⟨gb278, 1, none⟩ = some (.slice A0_1 l0_1.length c0_1) := (blk_cell BK278.out 1).trans rfl; have hcz15_2 : w14.cell? ⟨gb278, 2, none⟩ = some (.slice A0_2 l0_2.length c0_2) := (blk_cell BK278.out 2).trans rfl; have hfz15_0 := blk_frozen BK278.out 0; have hfz15_1 := blk_frozen BK278.out 1; have hfz15_2 := blk_frozen BK278.out 2) | ((with_reducible refine gate_callee (f := 22) rfl ?_); refine goesL_ (some 21) rfl rfl Try.func22 (by kernel_rfl) rfl #[.agg #[.int .i64 a0_0, .slice A0_1 l0_1.length c0_1, .slice A0_2 l0_2.length c0_2]] rfl (by (try simp only [List.map_toArray, List.map_cons, List.map_nil]); first | done | rfl | (simp only [List.length_drop, List.length_take]; rfl)) ?_; (with_reducible refine (laws_toTable.calls k a0_0 _ _ l0_1 _ _ l0_2 t280 t281 t284 _ ?side1 ?side2 ?side3 ?side4 A7.out).mono ?_); (case side1 => repeat (first | exact (Kd.C_below HR0_1.out HB.out) | (with_reducible refine Kd.C_alloc ?_ _) | (with_reducible refine Kd.C_drewN ?_ _) | (with_reducible refine Kd.C_drew ?_))); (case side2 => exact HC0_1.out); (case side3 => repeat (first | exact (Kd.C_below HR0_2.out HB.out) | (with_reducible refine Kd.C_alloc ?_ _) | (with_reducible refine Kd.C_drewN ?_ _) | (with_reducible refine Kd.C_drew ?_))); (case side4 => exact HC0_2.out); rintro e w16 ⟨v282, v285, rfl, ho0, ho1, hb⟩; refine ⟨_, rfl, ?_⟩; have n0_ := Aside0.mk (Kd.S_lower ho0 (below_size (by repeat (first | (with_reducible first | exact HB.out | apply below_alloc | apply pw_below_drewN | apply below_drew1 | refine below_set ?_ GE278.out) | exact HB.out)))); have n1_ := Aside0.mk (Kd.R_lower ho1 (below_size (by repeat (first | (with_reducible first | exact HB.out | apply below_alloc | apply pw_below_drewN | apply below_drew1 | refine below_set ?_ GE278.out) | exact HB.out)))); have n2_ := Aside0.mk (blk_below (g := gb278) (o := .cells #[.int .i64 a0_0, .slice A0_1 l0_1.length c0_1, .slice A0_2 l0_2.length c0_2] 34 (0, 0)) (by (with_reducible repeat (first | refine blk_drewN ?_ _ | refine blk_drew ?_ | refine blk_alloc ?_ _)); exact BK278.out) hb); have n3_ := Aside0.mk (below_step (by repeat (first | (with_reducible first | exact HB.out | apply below_alloc | apply pw_below_drewN | apply below_drew1 | refine below_set ?_ GE278.out) | exact HB.out)) hb); clear BK278; clear HB; have HO283 := n0_; have HO286 := n1_; have BK278 := n2_; have HB := n3_; clear n0_ n1_ n2_ n3_; (try clear hb); (try clear hb2); (try clear hk); (try clear hi); (try clear ho0); (try clear ho1); obtain ⟨Ao17, co17, eo17⟩ := Kd.S_slice HO283.out; subst eo17; obtain ⟨Ao18, co18, eo18⟩ := Kd.R_slice HO286.out; subst eo18) | ((with_reducible refine gate_callee (f := 37) rfl ?_); refine goesL_ (some 22) rfl rfl Try.func37 (by kernel_rfl) rfl #[.agg #[.int .i64 t280, .slice Ao17 t281.length co17, .slice Ao18 t284.length co18]] rfl (by (try simp only [List.map_toArray, List.map_cons, List.map_nil]); first | done | rfl | (simp only [List.length_drop, List.length_take]; rfl)) ?_; (with_reducible refine (spec_GroupsOf.calls k t280 _ _ t281 _ _ t284 t287 t290 _ ?side1 ?side2 ?side3 ?side4 A8.out).mono ?_); (case side1 => repeat (first | exact (Kd.S_reads' HO283.out).2.2 | (with_reducible refine Kd.C_alloc ?_ _) | (with_reducible refine Kd.C_drewN ?_ _) | (with_reducible refine Kd.C_drew ?_))); (case side2 => exact (Kd.S_reads' HO283.out).2.1); (case side3 => repeat (first | exact (Kd.R_reads' HO286.out).2.2 | (with_reducible refine Kd.C_alloc ?_ _) | (with_reducible refine Kd.C_drewN ?_ _) | (with_reducible refine Kd.C_drew ?_))); (case side4 => exact (Kd.R_reads' HO286.out).2.1); rintro e w19 ⟨v288, rfl, ho0, hb⟩; refine ⟨_, rfl, ?_⟩; obtain ⟨N20, eN20⟩ := below_num hb; have n0_ := Aside0.mk (Kd.S_elder' (S_ltN eN20 (by (with_reducible repeat (first | apply Kd.S_alloc | apply Kd.S_drewN | apply Kd.S_drew)); exact HO283.out)) (Kd.S_base ho0) hb); have n1_ := Aside0.mk (Kd.R_below (by (with_reducible repeat (first | apply Kd.R_alloc | apply Kd.R_drewN | apply Kd.R_drew)); exact HO286.out) hb); have n2_ := Aside0.mk (Kd.S_lower (Kd.S_new' (Kd.S_new' (S_geN eN20 ho0) (Kd.S_lt (by (with_reducible repeat (first | apply Kd.S_alloc | apply Kd.S_drewN | apply Kd.S_drew)); exact HO283.out))) (Kd.R_lt (by (with_reducible repeat (first | apply Kd.R_alloc | apply Kd.R_drewN | apply Kd.R_drew)); exact HO286.out))) (below_size (by repeat (first | (with_reducible first | exact HB.out | apply below_alloc | apply pw_below_drewN | apply below_drew1 | refine below_set ?_ GE278.out) | exact HB.out)))); have n3_ := Aside0.mk (blk_below (g := gb278) (o := .cells #[.int .i64 a0_0, .slice A0_1 l0_1.length c0_1, .slice A0_2 l0_2.length c0_2] 34 (0, 0)) (by (with_reducible repeat (first | refine blk_drewN ?_ _ | refine blk_drew ?_ | refine blk_alloc ?_ _)); exact BK278.out) hb); have n4_ := Aside0.mk (below_step (by repeat (first | (with_reducible first | exact HB.out | apply below_alloc | apply pw_below_drewN | apply below_drew1 | refine below_set ?_ GE278.out) | exact HB.out)) hb); clear HO283; clear HO286; clear BK278; clear HB; have HO283 := n0_; have HO286 := n1_; have HO289 := n2_; have BK278 := n3_; have HB := n4_; clear n0_ n1_ n2_ n3_ n4_; (try clear hb); (try clear hb2); (try clear hk); (try clear hi); (try clear ho0); have hcz21_0 : w19.cell? ⟨gb278, 0, none⟩ = some (.int .i64 a0_0) := (blk_cell BK278.out 0).trans rfl; have hcz21_1 : w19.cell? ⟨gb278, 1, none⟩ = some (.slice A0_1 l0_1.length c0_1) := (blk_cell BK278.out 1).trans rfl; have hcz21_2 : w19.cell? ⟨gb278, 2, none⟩ = some (.slice A0_2 l0_2.length c0_2) := (blk_cell BK278.out 2).trans rfl; have hfz21_0 := blk_frozen BK278.out 0; have hfz21_1 := blk_frozen BK278.out 1; have hfz21_2 := blk_frozen BK278.out 2) | ((with_reducible refine gate_callee (f := 22) rfl ?_); refine goesL_ (some 26) rfl rfl Try.func22 (by kernel_rfl) rfl #[.agg #[.int .i64 a0_0, .slice A0_1 l0_1.length c0_1, .slice A0_2 l0_2.length c0_2]] rfl (by (try simp only [List.map_toArray, List.map_cons, List.map_nil]); first | done | rfl | (simp only [List.length_drop, List.length_take]; rfl)) ?_; (with_reducible refine (laws_toTable.calls k a0_0 _ _ l0_1 _ _ l0_2 t291 t292 t295 _ ?side1 ?side2 ?side3 ?side4 A9.out).mono ?_); (case side1 => repeat (first | exact (Kd.C_below HR0_1.out HB.out) | (with_reducible refine Kd.C_alloc ?_ _) | (with_reducible refine Kd.C_drewN ?_ _) | (with_reducible refine Kd.C_drew ?_))); (case side2 => exact HC0_1.out); (case side3 => repeat (first | exact (Kd.C_below HR0_2.out HB.out) | (with_reducible refine Kd.C_alloc ?_ _) | (with_reducible refine Kd.C_drewN ?_ _) | (with_reducible refine Kd.C_drew ?_))); (case side4 => exact HC0_2.out); rintro e w22 ⟨v293, v296, rfl, ho0, ho1, hb⟩; refine ⟨_, rfl, ?_⟩; obtain ⟨N23, eN23⟩ := below_num hb; have n0_ := Aside0.mk (Kd.S_mono (Kd.S_told (Kd.S_told (Kd.S_old (S_ltN eN23 (by (with_reducible repeat (first | apply Kd.S_alloc | apply Kd.S_drewN | apply Kd.S_drew)); exact HO283.out)) hb) (Kd.S_base ho0)) (Kd.R_base ho1)) (fun _ h_ => h_.1)); have n1_ := Aside0.mk (Kd.R_elder' (by (with_reducible repeat (first | apply Kd.R_alloc | apply Kd.R_drewN | apply Kd.R_drew)); exact HO286.out) (Kd.R_base ho1) hb); have n2_ := Aside0.mk (Kd.S_mono (Kd.S_told (Kd.S_told (Kd.S_old (S_ltN eN23 (by (with_reducible repeat (first | apply Kd.S_alloc | apply Kd.S_drewN | apply Kd.S_drew)); exact HO289.out)) hb) (Kd.S_base ho0)) (Kd.R_base ho1)) (fun _ h_ => h_.1)); have n3_ := Aside0.mk (Kd.S_lower (Kd.S_new' (Kd.S_new' (Kd.S_new' (S_geN eN23 ho0) (Kd.S_lt (by (with_reducible repeat (first | apply Kd.S_alloc | apply Kd.S_drewN | apply Kd.S_drew)); exact HO283.out))) (Kd.R_lt (by (with_reducible repeat (first | apply Kd.R_alloc | apply Kd.R_drewN | apply Kd.R_drew)); exact HO286.out))) (Kd.S_lt (by (with_reducible repeat (first | apply Kd.S_alloc | apply Kd.S_drewN | apply Kd.S_drew)); exact HO289.out))) (below_size (by repeat (first | (with_reducible first | exact HB.out | apply below_alloc | apply pw_below_drewN | apply below_drew1 | refine below_set ?_ GE278.out) | exact HB.out)))); have n4_ := Aside0.mk (Kd.R_lower (Kd.R_new' ho1 (Kd.R_lt (by (with_reducible repeat (first | apply Kd.R_alloc | apply Kd.R_drewN | apply Kd.R_drew)); exact HO286.out))) (below_size (by repeat (first | (with_reducible first | exact HB.out | apply below_alloc | apply pw_below_drewN | apply below_drew1 | refine below_set ?_ GE278.out) | exact HB.out)))); have n5_ := Aside0.mk (blk_below (g := gb278) (o := .cells #[.int .i64 a0_0, .slice A0_1 l0_1.length c0_1, .slice A0_2 l0_2.length c0_2] 34 (0, 0)) (by (with_reducible repeat (first | refine blk_drewN ?_ _ | refine blk_drew ?_ | refine blk_alloc ?_ _)); exact BK278.out) hb); have n6_ := Aside0.mk (below_step (by repeat (first | (with_reducible first | exact HB.out | apply below_alloc | apply pw_below_drewN | apply below_drew1 | refine below_set ?_ GE278.out) | exact HB.out)) hb); clear HO283; clear HO286; clear HO289; clear BK278; clear HB; have HO283 := n0_; have HO286 := n1_; have HO289 := n2_; have HO294 := n3_; have HO297 := n4_; have BK278 := n5_; have HB := n6_; clear n0_ n1_ n2_ n3_ n4_ n5_ n6_; (try clear hb); (try clear hb2); (try clear hk); (try clear hi); (try clear ho0); (try clear ho1)) | ((with_reducible refine gate_dst (N := 6) rfl ?_); refine box_event ?hg (N := 6) ?hd (cs := #[.int .i64 0, .slice none 0 0, .slice none 0 0]) (t := 38) ?hr ?_; (case hd => rfl); (case hg => rfl); (case hr => first | (go_simp; done) | (go_simp; rfl)); intro gb298 hg w24 hbox hb; have n0_ := Aside0.mk (Kd.S_below (by (with_reducible repeat (first | apply Kd.S_alloc | apply Kd.S_drewN | apply Kd.S_drew)); exact HO283.out) hb); have n1_ := Aside0.mk (Kd.R_below (by (with_reducible repeat (first | apply Kd.R_alloc | apply Kd.R_drewN | apply Kd.R_drew)); exact HO286.out) hb); have n2_ := Aside0.mk (Kd.S_below (by (with_reducible repeat (first | apply Kd.S_alloc | apply Kd.S_drewN | apply Kd.S_drew)); exact HO289.out) hb); have n3_ := Aside0.mk (Kd.S_below (by (with_reducible repeat (first | apply Kd.S_alloc | apply Kd.S_drewN | apply Kd.S_drew)); exact HO294.out) hb); have n4_ := Aside0.mk (Kd.R_below (by (with_reducible repeat (first | apply Kd.R_alloc | apply Kd.R_drewN | apply Kd.R_drew)); exact HO297.out) hb); have n5_ := Aside0.mk (blk_below (g := gb278) (o := .cells #[.int .i64 a0_0, .slice A0_1 l0_1.length c0_1, .slice A0_2 l0_2.length c0_2] 34 (0, 0)) (by (with_reducible repeat (first | refine blk_drewN ?_ _ | refine blk_drew ?_ | refine blk_alloc ?_ _)); exact BK278.out) hb); have n6_ := Aside0.mk (below_step (by repeat (first | (with_reducible first | exact HB.out | apply below_alloc | apply pw_below_drewN | apply below_drew1 | refine below_set ?_ GE278.out) | exact HB.out)) hb); have n7_ := Aside0.mk (hbox); have n8_ := Aside0.mk ((by rw [hg]; exact (below_size (by repeat (first | (with_reducible first | exact HB.out | apply below_alloc | apply pw_below_drewN | apply below_drew1 | refine below_set ?_ GE278.out) | exact HB.out))) : w.heap.size ≤ gb298)); have n9_ := Aside0.mk ((by rw [hg]; exact (below_size (by repeat (first | (with_reducible first | exact HB.out | apply below_alloc | apply pw_below_drewN | apply below_drew1 | refine below_set ?_ GE278.out) | exact HB.out))) : w.heap.size ≤ gb298)); have n10_ := Aside0.mk ((by rw [hg]; exact Nat.ne_of_lt (blk_lt (g := gb278) (o := .cells #[.int .i64 a0_0, .slice A0_1 l0_1.length c0_1, .slice A0_2 l0_2.length c0_2] 34 (0, 0)) (by (with_reducible repeat (first | refine blk_drewN ?_ _ | refine blk_drew ?_ | refine blk_alloc ?_ _)); exact BK278.out)) : gb278 ≠ gb298)); have n11_ := Aside0.mk ((by rw [hg]; exact Nat.ne_of_gt (blk_lt (g := gb278) (o := .cells #[.int .i64 a0_0, .slice A0_1 l0_1.length c0_1, .slice A0_2 l0_2.length c0_2] 34 (0, 0)) (by (with_reducible repeat (first | refine blk_drewN ?_ _ | refine blk_drew ?_ | refine blk_alloc ?_ _)); exact BK278.out)) : gb298 ≠ gb278)); clear HO283; clear HO286; clear HO289; clear HO294; clear HO297; clear BK278; clear HB; have HO283 := n0_; have HO286 := n1_; have HO289 := n2_; have HO294 := n3_; have HO297 := n4_; have BK278 := n5_; have HB := n6_; have BK298 := n7_; have GW298 := n8_; have GE298 := n9_; have NB278_298 := n10_; have NB298_278 := n11_; clear n0_ n1_ n2_ n3_ n4_ n5_ n6_ n7_ n8_ n9_ n10_ n11_; clear hb hbox hg; have hnb25 := NB298_278.out; have hnc25 := NB278_298.out; have hcz26_0 : w24.cell? ⟨gb298, 0, none⟩ = some (.int .i64 0) := (blk_cell BK298.out 0).trans rfl; have hcz26_1 : w24.cell? ⟨gb298, 1, none⟩ = some (.slice none 0 0) := (blk_cell BK298.out 1).trans rfl; have hcz26_2 : w24.cell? ⟨gb298, 2, none⟩ = some (.slice none 0 0) := (blk_cell BK298.out 2).trans rfl; have hfz26_0 := blk_frozen BK298.out 0; have hfz26_1 := blk_frozen BK298.out 1; have hfz26_2 := blk_frozen BK298.out 2; obtain ⟨Ao27, co27, eo27⟩ := Kd.S_slice HO294.out; subst eo27; obtain ⟨Ao28, co28, eo28⟩ := Kd.R_slice HO297.out; subst eo28) | ((with_reducible refine gate_callee (f := 38) rfl ?_); refine goesL_ (some 29) rfl rfl Try.func38 (by kernel_rfl) rfl #[.agg #[.int .i64 t291, .slice Ao27 t292.length co27, .slice Ao28 t295.length co28]] rfl (by (try simp only [List.map_toArray, List.map_cons, List.map_nil]); first | done | rfl | (simp only [List.length_drop, List.length_take]; rfl)) ?_; (with_reducible refine (impl_GroupsOf.calls k t291 _ _ t292 _ _ t295 t299 t302 _ ?side1 ?side2 ?side3 ?side4 A10.out).mono ?_); (case side1 => refine (Kd.S_reads' (e := 22) (base := w.heap.size) (ok := fun k_ => ((((some k_ ≠ (.slice Ao28 t295.length co28 : Value).ownBlock ∧ N23 ≤ k_) ∧ some k_ ≠ (.slice Ao17 t281.length co17 : Value).ownBlock) ∧ some k_ ≠ (.slice Ao18 t284.length co18 : Value).ownBlock) ∧ some k_ ≠ (v288 : Value).ownBlock)) (n := t292.length) (c := co27) ?_).2.2; exact (by (with_reducible repeat (first | apply Kd.S_alloc | apply Kd.S_drewN | apply Kd.S_drew)); exact (Kd.S_mono (Kd.S_far (p := ⟨gb298, 2, none⟩) (Kd.S_far (p := ⟨gb298, 1, none⟩) (Kd.S_far (p := ⟨gb298, 0, none⟩) (Kd.S_types HO294.out BK298.out (by decide)) (fun _ hk => hk.2) (.int .i64 t291)) (fun _ hk => hk.2) (.slice Ao27 t292.length co27)) (fun _ hk => hk.2) (.slice Ao28 t295.length co28)) (fun _ h_ => h_.1)))); (case side2 => exact (Kd.S_reads' HO294.out).2.1); (case side3 => refine (Kd.R_reads' (e := 3) (base := w.heap.size) (ok := fun k_ => (True ∧ some k_ ≠ (.slice Ao18 t284.length co18 : Value).ownBlock)) (n := t295.length) (c := co28) ?_).2.2; exact (by (with_reducible repeat (first | apply Kd.R_alloc | apply Kd.R_drewN | apply Kd.R_drew)); exact (Kd.R_mono (Kd.R_far (p := ⟨gb298, 2, none⟩) (Kd.R_far (p := ⟨gb298, 1, none⟩) (Kd.R_far (p := ⟨gb298, 0, none⟩) (Kd.R_types HO297.out BK298.out (by decide)) (fun _ hk => hk.2) (.int .i64 t291)) (fun _ hk => hk.2) (.slice Ao27 t292.length co27)) (fun _ hk => hk.2) (.slice Ao28 t295.length co28)) (fun _ h_ => h_.1)))); (case side4 => exact (Kd.R_reads' HO297.out).2.1); rintro e w29 ⟨v300, rfl, ho0, hb⟩; refine ⟨_, rfl, ?_⟩; obtain ⟨N30, eN30⟩ := below_num hb; have n0_ := Aside0.mk (Kd.S_elder' (S_ltN eN30 (by (with_reducible repeat (first | apply Kd.S_alloc | apply Kd.S_drewN | apply Kd.S_drew)); exact (Kd.S_mono (Kd.S_far (p := ⟨gb298, 2, none⟩) (Kd.S_far (p := ⟨gb298, 1, none⟩) (Kd.S_far (p := ⟨gb298, 0, none⟩) (Kd.S_types HO283.out BK298.out (by decide)) (fun _ hk => hk.2) (.int .i64 t291)) (fun _ hk => hk.2) (.slice Ao27 t292.length co27)) (fun _ hk => hk.2) (.slice Ao28 t295.length co28)) (fun _ h_ => h_.1)))) (Kd.S_base ho0) hb); have n1_ := Aside0.mk (Kd.R_below (by (with_reducible repeat (first | apply Kd.R_alloc | apply Kd.R_drewN | apply Kd.R_drew)); exact (Kd.R_mono (Kd.R_far (p := ⟨gb298, 2, none⟩) (Kd.R_far (p := ⟨gb298, 1, none⟩) (Kd.R_far (p := ⟨gb298, 0, none⟩) (Kd.R_types HO286.out BK298.out (by decide)) (fun _ hk => hk.2) (.int .i64 t291)) (fun _ hk => hk.2) (.slice Ao27 t292.length co27)) (fun _ hk => hk.2) (.slice Ao28 t295.length co28)) (fun _ h_ => h_.1))) hb); have n2_ := Aside0.mk (Kd.S_elder' (S_ltN eN30 (by (with_reducible repeat (first | apply Kd.S_alloc | apply Kd.S_drewN | apply Kd.S_drew)); exact (Kd.S_mono (Kd.S_far (p := ⟨gb298, 2, none⟩) (Kd.S_far (p := ⟨gb298, 1, none⟩) (Kd.S_far (p := ⟨gb298, 0, none⟩) (Kd.S_types HO289.out BK298.out (by decide)) (fun _ hk => hk.2) (.int .i64 t291)) (fun _ hk => hk.2) (.slice Ao27 t292.length co27)) (fun _ hk => hk.2) (.slice Ao28 t295.length co28)) (fun _ h_ => h_.1)))) (Kd.S_base ho0) hb); have n3_ := Aside0.mk (Kd.S_elder' (S_ltN eN30 (by (with_reducible repeat (first | apply Kd.S_alloc | apply Kd.S_drewN | apply Kd.S_drew)); exact (Kd.S_mono (Kd.S_far (p := ⟨gb298, 2, none⟩) (Kd.S_far (p := ⟨gb298, 1, none⟩) (Kd.S_far (p := ⟨gb298, 0, none⟩) (Kd.S_types HO294.out BK298.out (by decide)) (fun _ hk => hk.2) (.int .i64 t291)) (fun _ hk => hk.2) (.slice Ao27 t292.length co27)) (fun _ hk => hk.2) (.slice Ao28 t295.length co28)) (fun _ h_ => h_.1)))) (Kd.S_base ho0) hb); have n4_ := Aside0.mk (Kd.R_below (by (with_reducible repeat (first | apply Kd.R_alloc | apply Kd.R_drewN | apply Kd.R_drew)); exact (Kd.R_mono (Kd.R_far (p := ⟨gb298, 2, none⟩) (Kd.R_far (p := ⟨gb298, 1, none⟩) (Kd.R_far (p := ⟨gb298, 0, none⟩) (Kd.R_types HO297.out BK298.out (by decide)) (fun _ hk => hk.2) (.int .i64 t291)) (fun _ hk => hk.2) (.slice Ao27 t292.length co27)) (fun _ hk => hk.2) (.slice Ao28 t295.length co28)) (fun _ h_ => h_.1))) hb); have n5_ := Aside0.mk (Kd.S_lower (Kd.S_new' (Kd.S_new' (Kd.S_new' (Kd.S_new' (Kd.S_new' (S_geN eN30 ho0) (Kd.S_lt (by (with_reducible repeat (first | apply Kd.S_alloc | apply Kd.S_drewN | apply Kd.S_drew)); exact (Kd.S_mono (Kd.S_far (p := ⟨gb298, 2, none⟩) (Kd.S_far (p := ⟨gb298, 1, none⟩) (Kd.S_far (p := ⟨gb298, 0, none⟩) (Kd.S_types HO283.out BK298.out (by decide)) (fun _ hk => hk.2) (.int .i64 t291)) (fun _ hk => hk.2) (.slice Ao27 t292.length co27)) (fun _ hk => hk.2) (.slice Ao28 t295.length co28)) (fun _ h_ => h_.1))))) (Kd.R_lt (by (with_reducible repeat (first | apply Kd.R_alloc | apply Kd.R_drewN | apply Kd.R_drew)); exact (Kd.R_mono (Kd.R_far (p := ⟨gb298, 2, none⟩) (Kd.R_far (p := ⟨gb298, 1, none⟩) (Kd.R_far (p := ⟨gb298, 0, none⟩) (Kd.R_types HO286.out BK298.out (by decide)) (fun _ hk => hk.2) (.int .i64 t291)) (fun _ hk => hk.2) (.slice Ao27 t292.length co27)) (fun _ hk => hk.2) (.slice Ao28 t295.length co28)) (fun _ h_ => h_.1))))) (Kd.S_lt (by (with_reducible repeat (first | apply Kd.S_alloc | apply Kd.S_drewN | apply Kd.S_drew)); exact (Kd.S_mono (Kd.S_far (p := ⟨gb298, 2, none⟩) (Kd.S_far (p := ⟨gb298, 1, none⟩) (Kd.S_far (p := ⟨gb298, 0, none⟩) (Kd.S_types HO289.out BK298.out (by decide)) (fun _ hk => hk.2) (.int .i64 t291)) (fun _ hk => hk.2) (.slice Ao27 t292.length co27)) (fun _ hk => hk.2) (.slice Ao28 t295.length co28)) (fun _ h_ => h_.1))))) (Kd.S_lt (by (with_reducible repeat (first | apply Kd.S_alloc | apply Kd.S_drewN | apply Kd.S_drew)); exact (Kd.S_mono (Kd.S_far (p := ⟨gb298, 2, none⟩) (Kd.S_far (p := ⟨gb298, 1, none⟩) (Kd.S_far (p := ⟨gb298, 0, none⟩) (Kd.S_types HO294.out BK298.out (by decide)) (fun _ hk => hk.2) (.int .i64 t291)) (fun _ hk => hk.2) (.slice Ao27 t292.length co27)) (fun _ hk => hk.2) (.slice Ao28 t295.length co28)) (fun _ h_ => h_.1))))) (Kd.R_lt (by (with_reducible repeat (first | apply Kd.R_alloc | apply Kd.R_drewN | apply Kd.R_drew)); exact (Kd.R_mono (Kd.R_far (p := ⟨gb298, 2, none⟩) (Kd.R_far (p := ⟨gb298, 1, none⟩) (Kd.R_far (p := ⟨gb298, 0, none⟩) (Kd.R_types HO297.out BK298.out (by decide)) (fun _ hk => hk.2) (.int .i64 t291)) (fun _ hk => hk.2) (.slice Ao27 t292.length co27)) (fun _ hk => hk.2) (.slice Ao28 t295.length co28)) (fun _ h_ => h_.1))))) (below_size (by repeat (first | (with_reducible first | exact HB.out | apply below_alloc | apply pw_below_drewN | apply below_drew1 | refine below_set ?_ GE278.out | refine below_set ?_ GE298.out) | exact HB.out)))); have n6_ := Aside0.mk (blk_below (g := gb278) (o := .cells #[.int .i64 a0_0, .slice A0_1 l0_1.length c0_1, .slice A0_2 l0_2.length c0_2] 34 (0, 0)) (by (with_reducible repeat (first | refine blk_drewN ?_ _ | refine blk_drew ?_ | refine blk_alloc ?_ _)); refine blk_far ?_ NB278_298.out _; (with_reducible repeat (first | refine blk_drewN ?_ _ | refine blk_drew ?_ | refine blk_alloc ?_ _)); refine blk_far ?_ NB278_298.out _; (with_reducible repeat (first | refine blk_drewN ?_ _ | refine blk_drew ?_ | refine blk_alloc ?_ _)); refine blk_far ?_ NB278_298.out _; (with_reducible repeat (first | refine blk_drewN ?_ _ | refine blk_drew ?_ | refine blk_alloc ?_ _)); exact BK278.out) hb); have n7_ := Aside0.mk (blk_below (g := gb298) (o := .cells #[.int .i64 t291, .slice Ao27 t292.length co27, .slice Ao28 t295.length co28] 38 (0, 0)) (by (with_reducible repeat (first | refine blk_drewN ?_ _ | refine blk_drew ?_ | refine blk_alloc ?_ _)); refine blk_put (cs := #[.int .i64 t291, .slice Ao27 t292.length co27, .slice none 0 0]) ?_ 2 _ rfl; (with_reducible repeat (first | refine blk_drewN ?_ _ | refine blk_drew ?_ | refine blk_alloc ?_ _)); refine blk_put (cs := #[.int .i64 t291, .slice none 0 0, .slice none 0 0]) ?_ 1 _ rfl; (with_reducible repeat (first | refine blk_drewN ?_ _ | refine blk_drew ?_ | refine blk_alloc ?_ _)); refine blk_put (cs := #[.int .i64 0, .slice none 0 0, .slice none 0 0]) ?_ 0 _ rfl; (with_reducible repeat (first | refine blk_drewN ?_ _ | refine blk_drew ?_ | refine blk_alloc ?_ _)); exact BK298.out) hb); have n8_ := Aside0.mk (below_step (by repeat (first | (with_reducible first | exact HB.out | apply below_alloc | apply pw_below_drewN | apply below_drew1 | refine below_set ?_ GE278.out | refine below_set ?_ GE298.out) | exact HB.out)) hb); clear HO283; clear HO286; clear HO289; clear HO294; clear HO297; clear BK278; clear BK298; clear HB; have HO283 := n0_; have HO286 := n1_; have HO289 := n2_; have HO294 := n3_; have HO297 := n4_; have HO301 := n5_; have BK278 := n6_; have BK298 := n7_; have HB := n8_; clear n0_ n1_ n2_ n3_ n4_ n5_ n6_ n7_ n8_; (try clear hb); (try clear hb2); (try clear hk); (try clear hi); (try clear ho0)))
    (try simp only [Act.put, List.setIfInBounds_toArray, List.set_cons_zero, List.set_cons_succ])
    go_cut [40] (fun v40 wc => ∃ (kq : Nat) (x40_10 : Bool), v40 = .bool x40_10 ∧ Aside0 (laws_FnExactGroupsOf.j0 kq t287 t290 t299 t302 x40_10 a0_0 l0_1 l0_2 t291 t292 t295 = some r) ∧ Aside0 (kq ≤ k) ∧ Aside0 (Kd.S (Kd.slice 3 (Kd.int .i64)) 22 wc w.heap.size (fun k_ => some k_ ≠ (v300 : Value).ownBlock ∧ some k_ ≠ ((.slice Ao27 t292.length co27) : Value).ownBlock ∧ some k_ ≠ ((.slice Ao28 t295.length co28) : Value).ownBlock ∧ N20 ≤ k_ ∧ k_ < N23 ∧ k_ < N30) v288 t287) ∧ Aside0 (Kd.S (Kd.slice 3 (Kd.int .i64)) 22 wc w.heap.size (fun k_ => some k_ ≠ (v288 : Value).ownBlock ∧ some k_ ≠ ((.slice Ao27 t292.length co27) : Value).ownBlock ∧ some k_ ≠ ((.slice Ao28 t295.length co28) : Value).ownBlock ∧ N30 ≤ k_) v300 t299) ∧ Aside0 (Kd.S (Kd.slice 3 (Kd.int .i64)) 22 wc w.heap.size (fun k_ => some k_ ≠ (v288 : Value).ownBlock ∧ some k_ ≠ (v300 : Value).ownBlock ∧ some k_ ≠ ((.slice Ao28 t295.length co28) : Value).ownBlock ∧ N23 ≤ k_ ∧ k_ < N30) (.slice Ao27 t292.length co27) t292) ∧ Aside0 (Kd.R (Kd.int .i64) 3 wc w.heap.size (fun _ => True) (.slice Ao28 t295.length co28) t295) ∧ Aside0 (wc.heap[gb278]? = some (.cells #[.int .i64 a0_0, (.slice A0_1 l0_1.length c0_1), (.slice A0_2 l0_2.length c0_2)] 34 (0, 0))) ∧ Aside0 (wc.heap[gb298]? = some (.cells #[.int .i64 t291, (.slice Ao27 t292.length co27), (.slice Ao28 t295.length co28)] 38 (0, 0))) ∧ Aside0 (Below w.heap.size w wc))
    case first =>
      have H := HC11.out
      clear HC11
      replace H := Option.bind_eq_some_iff.mp H
      obtain ⟨t303, A310, H⟩ := H
      replace H : (if t303 = true then (laws_FnExactGroupsOf.j0 k t287 t290 t299 t302 (t302 != t290) a0_0 l0_1 l0_2 t291 t292 t295) else (laws_FnExactGroupsOf.j0 k t287 t290 t299 t302 true a0_0 l0_1 l0_2 t291 t292 t295)) = some r := H
      have A31 := Aside0.mk A310
      clear A310
      by_cases c32 : t303 = true
      · subst c32
        have H1 : (laws_FnExactGroupsOf.j0 k t287 t290 t299 t302 (t302 != t290) a0_0 l0_1 l0_2 t291 t292 t295) = some r := by rw [if_pos rfl] at H; exact H
        clear H
        have H := H1
        clear H1
        have H' := Aside0.mk H
        clear H
        obtain ⟨Ao33, co33, eo33⟩ := Kd.S_slice HO301.out
        subst eo33
        obtain ⟨Ao34, co34, eo34⟩ := Kd.S_slice HO289.out
        subst eo34
        go_wp2_with (first | ((with_reducible refine gate_callee (f := 39) rfl ?_); refine goesL_ (some 34) rfl rfl Try.func39 (by kernel_rfl) rfl #[.slice Ao33 t299.length co33, .slice Ao34 t287.length co34] rfl (by (try simp only [List.map_toArray, List.map_cons, List.map_nil]); first | done | rfl | (simp only [List.length_drop, List.length_take]; rfl)) ?_; (with_reducible refine (laws_eqIntSS.calls k _ _ t299 _ _ t287 true _ ?side1 ?side2 ?side3 ?side4 A31.out).mono ?_); (case side1 => repeat (first | exact (Kd.S_reads' HO301.out).2.2 | (with_reducible refine Kd.C_alloc ?_ _) | (with_reducible refine Kd.C_drewN ?_ _) | (with_reducible refine Kd.C_drew ?_))); (case side2 => exact (Kd.S_reads' HO301.out).2.1); (case side3 => repeat (first | exact (Kd.S_reads' HO289.out).2.2 | (with_reducible refine Kd.C_alloc ?_ _) | (with_reducible refine Kd.C_drewN ?_ _) | (with_reducible refine Kd.C_drew ?_))); (case side4 => exact (Kd.S_reads' HO289.out).2.1); rintro e w' ⟨rfl, ⟨nd, rfl⟩⟩; refine ⟨_, rfl, ?_⟩))
        go_meet
        case rel => exact ⟨_, ((t302 != t290)), (by first | rfl | (simp; done) | (simp [*]; done)), H', ⟨by first | omega | exact Nat.le_refl _⟩, ⟨by (with_reducible repeat (first | apply Kd.S_alloc | apply Kd.S_drewN | apply Kd.S_drew)); exact Kd.S_mono HO289.out (fun _ hk => ⟨hk.2, ⟨hk.1.1.1.2, ⟨hk.1.1.2, ⟨hk.1.1.1.1.1.1.1.2, ⟨hk.1.1.1.1.2, hk.1.2⟩⟩⟩⟩⟩)⟩, ⟨by (with_reducible repeat (first | apply Kd.S_alloc | apply Kd.S_drewN | apply Kd.S_drew)); exact Kd.S_mono HO301.out (fun _ hk => ⟨hk.1.1.2, ⟨hk.1.2, ⟨hk.2, hk.1.1.1.1.1.2⟩⟩⟩)⟩, ⟨by (with_reducible repeat (first | apply Kd.S_alloc | apply Kd.S_drewN | apply Kd.S_drew)); exact Kd.S_mono HO294.out (fun _ hk => ⟨hk.1.1.2, ⟨hk.2, ⟨hk.1.1.1.1.1.1, ⟨hk.1.1.1.1.1.2, hk.1.2⟩⟩⟩⟩)⟩, ⟨by (with_reducible repeat (first | apply Kd.R_alloc | apply Kd.R_drewN | apply Kd.R_drew)); exact Kd.R_mono HO297.out (fun _ hk => trivial)⟩, ⟨by (with_reducible repeat (first | refine blk_drewN ?_ _ | refine blk_drew ?_ | refine blk_alloc ?_ _)); exact BK278.out⟩, ⟨by (with_reducible repeat (first | refine blk_drewN ?_ _ | refine blk_drew ?_ | refine blk_alloc ?_ _)); exact BK298.out⟩, ⟨by repeat (first | (with_reducible first | exact HB.out | apply below_alloc | apply pw_below_drewN | apply below_drew1 | refine below_set ?_ GE278.out | refine below_set ?_ GE298.out) | exact HB.out)⟩⟩
      · replace c32 := Bool.eq_false_iff.mpr c32
        subst c32
        have H1 : (laws_FnExactGroupsOf.j0 k t287 t290 t299 t302 true a0_0 l0_1 l0_2 t291 t292 t295) = some r := by rw [if_neg (show ¬ (false = true) by decide)] at H; exact H
        clear H
        have H := H1
        clear H1
        have H' := Aside0.mk H
        clear H
        obtain ⟨Ao35, co35, eo35⟩ := Kd.S_slice HO301.out
        subst eo35
        obtain ⟨Ao36, co36, eo36⟩ := Kd.S_slice HO289.out
        subst eo36
        go_wp2_with (first | ((with_reducible refine gate_callee (f := 39) rfl ?_); refine goesL_ (some 34) rfl rfl Try.func39 (by kernel_rfl) rfl #[.slice Ao35 t299.length co35, .slice Ao36 t287.length co36] rfl (by (try simp only [List.map_toArray, List.map_cons, List.map_nil]); first | done | rfl | (simp only [List.length_drop, List.length_take]; rfl)) ?_; (with_reducible refine (laws_eqIntSS.calls k _ _ t299 _ _ t287 false _ ?side1 ?side2 ?side3 ?side4 A31.out).mono ?_); (case side1 => repeat (first | exact (Kd.S_reads' HO301.out).2.2 | (with_reducible refine Kd.C_alloc ?_ _) | (with_reducible refine Kd.C_drewN ?_ _) | (with_reducible refine Kd.C_drew ?_))); (case side2 => exact (Kd.S_reads' HO301.out).2.1); (case side3 => repeat (first | exact (Kd.S_reads' HO289.out).2.2 | (with_reducible refine Kd.C_alloc ?_ _) | (with_reducible refine Kd.C_drewN ?_ _) | (with_reducible refine Kd.C_drew ?_))); (case side4 => exact (Kd.S_reads' HO289.out).2.1); rintro e w' ⟨rfl, ⟨nd, rfl⟩⟩; refine ⟨_, rfl, ?_⟩))
        go_meet
        case rel => exact ⟨_, (true), (by first | rfl | (simp; done) | (simp [*]; done)), H', ⟨by first | omega | exact Nat.le_refl _⟩, ⟨by (with_reducible repeat (first | apply Kd.S_alloc | apply Kd.S_drewN | apply Kd.S_drew)); exact Kd.S_mono HO289.out (fun _ hk => ⟨hk.2, ⟨hk.1.1.1.2, ⟨hk.1.1.2, ⟨hk.1.1.1.1.1.1.1.2, ⟨hk.1.1.1.1.2, hk.1.2⟩⟩⟩⟩⟩)⟩, ⟨by (with_reducible repeat (first | apply Kd.S_alloc | apply Kd.S_drewN | apply Kd.S_drew)); exact Kd.S_mono HO301.out (fun _ hk => ⟨hk.1.1.2, ⟨hk.1.2, ⟨hk.2, hk.1.1.1.1.1.2⟩⟩⟩)⟩, ⟨by (with_reducible repeat (first | apply Kd.S_alloc | apply Kd.S_drewN | apply Kd.S_drew)); exact Kd.S_mono HO294.out (fun _ hk => ⟨hk.1.1.2, ⟨hk.2, ⟨hk.1.1.1.1.1.1, ⟨hk.1.1.1.1.1.2, hk.1.2⟩⟩⟩⟩)⟩, ⟨by (with_reducible repeat (first | apply Kd.R_alloc | apply Kd.R_drewN | apply Kd.R_drew)); exact Kd.R_mono HO297.out (fun _ hk => trivial)⟩, ⟨by (with_reducible repeat (first | refine blk_drewN ?_ _ | refine blk_drew ?_ | refine blk_alloc ?_ _)); exact BK278.out⟩, ⟨by (with_reducible repeat (first | refine blk_drewN ?_ _ | refine blk_drew ?_ | refine blk_alloc ?_ _)); exact BK298.out⟩, ⟨by repeat (first | (with_reducible first | exact HB.out | apply below_alloc | apply pw_below_drewN | apply below_drew1 | refine below_set ?_ GE278.out | refine below_set ?_ GE298.out) | exact HB.out)⟩⟩
    case rest =>
      clear HC11
      try clear c2
      try clear p2
      try clear c3
      try clear c3b0
      try clear c7
      try clear c20
      try clear c22
      try clear c25
      try clear c32
      try clear hcz13_0
      try clear hcz13_1
      try clear hcz13_2
      try clear hcz15_0
      try clear hcz15_1
      try clear hcz15_2
      try clear hcz21_0
      try clear hcz21_1
      try clear hcz21_2
      try clear hcz26_0
      try clear hcz26_1
      try clear hcz26_2
      try clear hcz5_0
      try clear hcz5_1
      try clear hcz5_2
      try clear hfz13_0
      try clear hfz13_1
      try clear hfz13_2
      try clear hfz15_0
      try clear hfz15_1
      try clear hfz15_2
      try clear hfz21_0
      try clear hfz21_1
      try clear hfz21_2
      try clear hfz26_0
      try clear hfz26_1
      try clear hfz26_2
      try clear hfz5_0
      try clear hfz5_1
      try clear hfz5_2
      obtain ⟨kq, x40_10, rfl, HA, HJ10, HO_4, HO_7, HO_299001, HO_299002, BK278, BK298, HB⟩ := hcut
      cases kq with
      | zero => exact absurd HA.out (by simp [laws_FnExactGroupsOf.j0])
      | succ kj10 =>
        have H := HA.out
        clear HA
        simp only [laws_FnExactGroupsOf.j0] at H
        by_cases c37 : x40_10 = true
        · subst c37
          have H1 : (some false) = some r := by rw [if_pos rfl] at H; exact H
          clear H
          have H := H1
          clear H1
          exact absurd (H.trans (congrArg some hr_)) (by simp)
        · replace c37 := Bool.eq_false_iff.mpr c37
          subst c37
          have H1 : ((laws_toTable.f kj10 a0_0 l0_1 l0_2).bind fun bt304 => ((laws_eqTable.f kj10 t291 t292 t295 bt304.1 bt304.2.1 bt304.2.2).bind fun t311 => (if t311 = true then ((laws_markTable.f kj10 t291 t292 t295 1).bind fun bt312 => (if bt312.1 < 0 then (laws_FnExactGroupsOf.j1 kj10 t287 t290 t299 true a0_0 l0_1 l0_2) else ((laws_eqIntSS.f kj10 t299 t287).bind fun t315 => (if t315 = true then (laws_FnExactGroupsOf.j1 kj10 t287 t290 t299 (t302 != t290) a0_0 l0_1 l0_2) else (laws_FnExactGroupsOf.j1 kj10 t287 t290 t299 true a0_0 l0_1 l0_2))))) else (some false)))) = some r := by rw [if_neg (show ¬ (false = true) by decide)] at H; exact H
          clear H
          have H := H1
          clear H1
          replace H := Option.bind_eq_some_iff.mp H
          obtain ⟨⟨t304, t305, t308⟩, A380, H⟩ := H
          replace H : ((laws_eqTable.f kj10 t291 t292 t295 t304 t305 t308).bind fun t311 => (if t311 = true then ((laws_markTable.f kj10 t291 t292 t295 1).bind fun bt312 => (if bt312.1 < 0 then (laws_FnExactGroupsOf.j1 kj10 t287 t290 t299 true a0_0 l0_1 l0_2) else ((laws_eqIntSS.f kj10 t299 t287).bind fun t315 => (if t315 = true then (laws_FnExactGroupsOf.j1 kj10 t287 t290 t299 (t302 != t290) a0_0 l0_1 l0_2) else (laws_FnExactGroupsOf.j1 kj10 t287 t290 t299 true a0_0 l0_1 l0_2))))) else (some false))) = some r := H
          have A38 := Aside0.mk A380
          clear A380
          replace H := Option.bind_eq_some_iff.mp H
          obtain ⟨t311, A390, H⟩ := H
          replace H : (if t311 = true then ((laws_markTable.f kj10 t291 t292 t295 1).bind fun bt312 => (if bt312.1 < 0 then (laws_FnExactGroupsOf.j1 kj10 t287 t290 t299 true a0_0 l0_1 l0_2) else ((laws_eqIntSS.f kj10 t299 t287).bind fun t315 => (if t315 = true then (laws_FnExactGroupsOf.j1 kj10 t287 t290 t299 (t302 != t290) a0_0 l0_1 l0_2) else (laws_FnExactGroupsOf.j1 kj10 t287 t290 t299 true a0_0 l0_1 l0_2))))) else (some false)) = some r := H
          have A39 := Aside0.mk A390
          clear A390
          by_cases c40 : t311 = true
          · subst c40
            have H1 : ((laws_markTable.f kj10 t291 t292 t295 1).bind fun bt312 => (if bt312.1 < 0 then (laws_FnExactGroupsOf.j1 kj10 t287 t290 t299 true a0_0 l0_1 l0_2) else ((laws_eqIntSS.f kj10 t299 t287).bind fun t315 => (if t315 = true then (laws_FnExactGroupsOf.j1 kj10 t287 t290 t299 (t302 != t290) a0_0 l0_1 l0_2) else (laws_FnExactGroupsOf.j1 kj10 t287 t290 t299 true a0_0 l0_1 l0_2))))) = some r := by rw [if_pos rfl] at H; exact H
            clear H
            have H := H1
            clear H1
            replace H := Option.bind_eq_some_iff.mp H
            obtain ⟨⟨t312, t313, t314⟩, A410, H⟩ := H
            replace H : (if t312 < 0 then (laws_FnExactGroupsOf.j1 kj10 t287 t290 t299 true a0_0 l0_1 l0_2) else ((laws_eqIntSS.f kj10 t299 t287).bind fun t315 => (if t315 = true then (laws_FnExactGroupsOf.j1 kj10 t287 t290 t299 (t302 != t290) a0_0 l0_1 l0_2) else (laws_FnExactGroupsOf.j1 kj10 t287 t290 t299 true a0_0 l0_1 l0_2)))) = some r := H
            have A41 := Aside0.mk A410
            clear A410
            have HC42 := Aside0.mk H
            clear H
            try go_wp2
            have n0_ := Aside0.mk (Kd.S_drew HO_4.out)
            have n1_ := Aside0.mk (Kd.S_drew HO_7.out)
            have n2_ := Aside0.mk (Kd.S_drew HO_299001.out)
            have n3_ := Aside0.mk (Kd.R_drew HO_299002.out)
            have n4_ := Aside0.mk (blk_drew BK278.out)
            have n5_ := Aside0.mk (blk_drew BK298.out)
            have n6_ := Aside0.mk (below_drew1 HB.out)
            clear HO_4
            clear HO_7
            clear HO_299001
            clear HO_299002
            clear BK278
            clear BK298
            clear HB
            have HO_4 := n0_
            have HO_7 := n1_
            have HO_299001 := n2_
            have HO_299002 := n3_
            have BK278 := n4_
            have BK298 := n5_
            have HB := n6_
            clear n0_ n1_ n2_ n3_ n4_ n5_ n6_
            refine start_ (n := 5) (S := fun w' => w'.cell? ⟨gb298, 0, none⟩ = some (.int .i64 t291) ∧ w'.cell? ⟨gb298, 1, none⟩ = some (.slice Ao27 t292.length co27) ∧ w'.cell? ⟨gb298, 2, none⟩ = some (.slice Ao28 t295.length co28) ∧ w'.cell? ⟨gb278, 0, none⟩ = some (.int .i64 a0_0) ∧ w'.cell? ⟨gb278, 1, none⟩ = some (.slice A0_1 l0_1.length c0_1) ∧ w'.cell? ⟨gb278, 2, none⟩ = some (.slice A0_2 l0_2.length c0_2)) (ds := []) #[false, false, false, false, false] (by kernel_rfl) rfl rfl ⟨(blk_cell BK298.out 0).trans rfl, (blk_cell BK298.out 1).trans rfl, (blk_cell BK298.out 2).trans rfl, (blk_cell BK278.out 0).trans rfl, (blk_cell BK278.out 1).trans rfl, (blk_cell BK278.out 2).trans rfl⟩ (fun hHeld => ?_)
            generalize wc.drew = w43 at HO_4 HO_7 HO_299001 HO_299002 BK278 BK298 HB hHeld ⊢
            refine take_ (i := 0) (N := some 41) (v := ?_) (a' := ?_) #[true, false, false, false, false] rfl rfl (by kernel_rfl) (fun _ _ _ h => h) (Or.inl ⟨by rfl, ?_⟩) hHeld ?_ ?_
            rotate_left
            · rintro w' ⟨s0, s1, s2, s3, s4, s5⟩
              go_simp
              with_reducible rfl
            rotate_left
            · simp only [Act.put, List.setIfInBounds_toArray, List.set_cons_zero, List.set_cons_succ, i64_w, i32_w]
              rfl
            refine take_ (i := 1) (N := some 42) (v := ?_) (a' := ?_) #[true, true, false, false, false] rfl rfl (by kernel_rfl) (fun _ _ _ h => h) (Or.inl ⟨by rfl, ?_⟩) hHeld ?_ ?_
            rotate_left
            · rintro w' ⟨s0, s1, s2, s3, s4, s5⟩
              go_simp
              with_reducible rfl
            rotate_left
            · simp only [Act.put, List.setIfInBounds_toArray, List.set_cons_zero, List.set_cons_succ, i64_w, i32_w]
              rfl
            refine one_ (i := 2) (N := some 43) #[true, true, true, false, false] rfl rfl (by kernel_rfl) (by decide) (fun K hK => ?_)
            refine goes_ Try.func22 (by kernel_rfl) rfl #[.agg #[.int .i64 a0_0, .slice A0_1 l0_1.length c0_1, .slice A0_2 l0_2.length c0_2]] (by rfl) rfl rfl (by (try simp only [List.map_toArray, List.map_cons, List.map_nil]); first | done | rfl | (simp only [List.length_drop, List.length_take]; rfl)) ?_
            with_reducible refine (laws_toTable.calls kj10 a0_0 _ _ l0_1 _ _ l0_2 t304 t305 t308 _ ?side1 ?side2 ?side3 ?side4 A38.out).mono ?_
            (case side1 => repeat (first | exact (Kd.C_below HR0_1.out HB.out) | (with_reducible refine Kd.C_alloc ?_ _) | (with_reducible refine Kd.C_drewN ?_ _) | (with_reducible refine Kd.C_drew ?_)))
            (case side2 => exact HC0_1.out)
            (case side3 => repeat (first | exact (Kd.C_below HR0_2.out HB.out) | (with_reducible refine Kd.C_alloc ?_ _) | (with_reducible refine Kd.C_drewN ?_ _) | (with_reducible refine Kd.C_drew ?_)))
            (case side4 => exact HC0_2.out)
            rintro e w44 ⟨v306, v309, rfl, ho0, ho1, hb⟩
            refine ⟨_, rfl, ?_⟩
            have n0_ := Aside0.mk (Kd.S_mono (Kd.S_told (Kd.S_told (Kd.S_old (by (with_reducible repeat (first | apply Kd.S_alloc | apply Kd.S_drewN | apply Kd.S_drew)); exact HO_4.out) hb) (Kd.S_base ho0)) (Kd.R_base ho1)) (fun _ h_ => h_.1))
            have n1_ := Aside0.mk (Kd.S_mono (Kd.S_told (Kd.S_told (Kd.S_old (by (with_reducible repeat (first | apply Kd.S_alloc | apply Kd.S_drewN | apply Kd.S_drew)); exact HO_7.out) hb) (Kd.S_base ho0)) (Kd.R_base ho1)) (fun _ h_ => h_.1))
            have n2_ := Aside0.mk (Kd.S_mono (Kd.S_told (Kd.S_told (Kd.S_old (by (with_reducible repeat (first | apply Kd.S_alloc | apply Kd.S_drewN | apply Kd.S_drew)); exact HO_299001.out) hb) (Kd.S_base ho0)) (Kd.R_base ho1)) (fun _ h_ => h_.1))
            have n3_ := Aside0.mk (Kd.R_elder' (by (with_reducible repeat (first | apply Kd.R_alloc | apply Kd.R_drewN | apply Kd.R_drew)); exact HO_299002.out) (Kd.R_base ho1) hb)
            have n4_ := Aside0.mk (Kd.S_lower (Kd.S_new' (Kd.S_new' (Kd.S_new' (Kd.S_new' ho0 (Kd.S_lt (by (with_reducible repeat (first | apply Kd.S_alloc | apply Kd.S_drewN | apply Kd.S_drew)); exact HO_4.out))) (Kd.S_lt (by (with_reducible repeat (first | apply Kd.S_alloc | apply Kd.S_drewN | apply Kd.S_drew)); exact HO_7.out))) (Kd.S_lt (by (with_reducible repeat (first | apply Kd.S_alloc | apply Kd.S_drewN | apply Kd.S_drew)); exact HO_299001.out))) (Kd.R_lt (by (with_reducible repeat (first | apply Kd.R_alloc | apply Kd.R_drewN | apply Kd.R_drew)); exact HO_299002.out))) (below_size (by repeat (first | (with_reducible first | exact HB.out | apply below_alloc | apply pw_below_drewN | apply below_drew1 | refine below_set ?_ GE278.out | refine below_set ?_ GE298.out) | exact HB.out))))
            have n5_ := Aside0.mk (Kd.R_lower (Kd.R_new' ho1 (Kd.R_lt (by (with_reducible repeat (first | apply Kd.R_alloc | apply Kd.R_drewN | apply Kd.R_drew)); exact HO_299002.out))) (below_size (by repeat (first | (with_reducible first | exact HB.out | apply below_alloc | apply pw_below_drewN | apply below_drew1 | refine below_set ?_ GE278.out | refine below_set ?_ GE298.out) | exact HB.out))))
            have n6_ := Aside0.mk (blk_below (g := gb278) (o := .cells #[.int .i64 a0_0, .slice A0_1 l0_1.length c0_1, .slice A0_2 l0_2.length c0_2] 34 (0, 0)) (by (with_reducible repeat (first | refine blk_drewN ?_ _ | refine blk_drew ?_ | refine blk_alloc ?_ _)); exact BK278.out) hb)
            have n7_ := Aside0.mk (blk_below (g := gb298) (o := .cells #[.int .i64 t291, .slice Ao27 t292.length co27, .slice Ao28 t295.length co28] 38 (0, 0)) (by (with_reducible repeat (first | refine blk_drewN ?_ _ | refine blk_drew ?_ | refine blk_alloc ?_ _)); exact BK298.out) hb)
            have n8_ := Aside0.mk (below_step (by repeat (first | (with_reducible first | exact HB.out | apply below_alloc | apply pw_below_drewN | apply below_drew1 | refine below_set ?_ GE278.out | refine below_set ?_ GE298.out) | exact HB.out)) hb)
            clear HO_4
            clear HO_7
            clear HO_299001
            clear HO_299002
            clear BK278
            clear BK298
            clear HB
            have HO_4 := n0_
            have HO_7 := n1_
            have HO_299001 := n2_
            have HO_299002 := n3_
            have HO307 := n4_
            have HO310 := n5_
            have BK278 := n6_
            have BK298 := n7_
            have HB := n8_
            clear n0_ n1_ n2_ n3_ n4_ n5_ n6_ n7_ n8_
            (try clear hb)
            (try clear hb2)
            (try clear hk)
            (try clear hi)
            (try clear ho0)
            (try clear ho1)
            obtain ⟨Ao45, co45, eo45⟩ := Kd.S_slice HO307.out
            (first | subst eo45 | (injection eo45 with f1_ f2_ f3_; have f4_ := f1_.symm; have f5_ := f3_.symm; clear f1_ f2_ f3_; subst f4_; subst f5_))
            obtain ⟨Ao46, co46, eo46⟩ := Kd.R_slice HO310.out
            (first | subst eo46 | (injection eo46 with f1_ f2_ f3_; have f4_ := f1_.symm; have f5_ := f3_.symm; clear f1_ f2_ f3_; subst f4_; subst f5_))
            refine hK.out _ _ ⟨(blk_cell BK298.out 0).trans rfl, (blk_cell BK298.out 1).trans rfl, (blk_cell BK298.out 2).trans rfl, (blk_cell BK278.out 0).trans rfl, (blk_cell BK278.out 1).trans rfl, (blk_cell BK278.out 2).trans rfl⟩ (fun hHeld => ?_)
            clear hK K
            refine norm_ (a' := ?_) ?_ ?_
            rotate_left
            · show Act.put _ (some 43) _ = _
              simp only [Act.put, List.setIfInBounds_toArray, List.set_cons_zero, List.set_cons_succ, i64_w, i32_w]
              rfl
            refine one_ (i := 3) (N := some 44) #[true, true, true, true, false] rfl rfl (by kernel_rfl) (by decide) (fun K hK => ?_)
            refine goes_ Try.func25 (by kernel_rfl) rfl #[.agg #[.int .i64 t291, .slice Ao27 t292.length co27, .slice Ao28 t295.length co28], .agg #[.int .i64 t304, .slice Ao45 t305.length co45, .slice Ao46 t308.length co46]] (by rfl) rfl rfl (by (try simp only [List.map_toArray, List.map_cons, List.map_nil]); first | done | rfl | (simp only [List.length_drop, List.length_take]; rfl)) ?_
            with_reducible refine (laws_eqTable.calls kj10 t291 _ _ t292 _ _ t295 t304 _ _ t305 _ _ t308 true _ ?side1 ?side2 ?side3 ?side4 ?side5 ?side6 ?side7 ?side8 A39.out).mono ?_
            (case side1 => repeat (first | exact (Kd.S_reads' HO_299001.out).2.2 | (with_reducible refine Kd.C_alloc ?_ _) | (with_reducible refine Kd.C_drewN ?_ _) | (with_reducible refine Kd.C_drew ?_)))
            (case side2 => exact (Kd.S_reads' HO_299001.out).2.1)
            (case side3 => repeat (first | exact (Kd.R_reads' HO_299002.out).2.2 | (with_reducible refine Kd.C_alloc ?_ _) | (with_reducible refine Kd.C_drewN ?_ _) | (with_reducible refine Kd.C_drew ?_)))
            (case side4 => exact (Kd.R_reads' HO_299002.out).2.1)
            (case side5 => repeat (first | exact (Kd.S_reads' HO307.out).2.2 | (with_reducible refine Kd.C_alloc ?_ _) | (with_reducible refine Kd.C_drewN ?_ _) | (with_reducible refine Kd.C_drew ?_)))
            (case side6 => exact (Kd.S_reads' HO307.out).2.1)
            (case side7 => repeat (first | exact (Kd.R_reads' HO310.out).2.2 | (with_reducible refine Kd.C_alloc ?_ _) | (with_reducible refine Kd.C_drewN ?_ _) | (with_reducible refine Kd.C_drew ?_)))
            (case side8 => exact (Kd.R_reads' HO310.out).2.1)
            rintro e w47 ⟨rfl, hb⟩
            refine ⟨_, rfl, ?_⟩
            have n0_ := Aside0.mk (Kd.S_below (by (with_reducible repeat (first | apply Kd.S_alloc | apply Kd.S_drewN | apply Kd.S_drew)); exact HO_4.out) hb)
            have n1_ := Aside0.mk (Kd.S_below (by (with_reducible repeat (first | apply Kd.S_alloc | apply Kd.S_drewN | apply Kd.S_drew)); exact HO_7.out) hb)
            have n2_ := Aside0.mk (Kd.S_below (by (with_reducible repeat (first | apply Kd.S_alloc | apply Kd.S_drewN | apply Kd.S_drew)); exact HO_299001.out) hb)
            have n3_ := Aside0.mk (Kd.R_below (by (with_reducible repeat (first | apply Kd.R_alloc | apply Kd.R_drewN | apply Kd.R_drew)); exact HO_299002.out) hb)
            have n4_ := Aside0.mk (Kd.S_below (by (with_reducible repeat (first | apply Kd.S_alloc | apply Kd.S_drewN | apply Kd.S_drew)); exact HO307.out) hb)
            have n5_ := Aside0.mk (Kd.R_below (by (with_reducible repeat (first | apply Kd.R_alloc | apply Kd.R_drewN | apply Kd.R_drew)); exact HO310.out) hb)
            have n6_ := Aside0.mk (blk_below (g := gb278) (o := .cells #[.int .i64 a0_0, .slice A0_1 l0_1.length c0_1, .slice A0_2 l0_2.length c0_2] 34 (0, 0)) (by (with_reducible repeat (first | refine blk_drewN ?_ _ | refine blk_drew ?_ | refine blk_alloc ?_ _)); exact BK278.out) hb)
            have n7_ := Aside0.mk (blk_below (g := gb298) (o := .cells #[.int .i64 t291, .slice Ao27 t292.length co27, .slice Ao28 t295.length co28] 38 (0, 0)) (by (with_reducible repeat (first | refine blk_drewN ?_ _ | refine blk_drew ?_ | refine blk_alloc ?_ _)); exact BK298.out) hb)
            have n8_ := Aside0.mk (below_step (by repeat (first | (with_reducible first | exact HB.out | apply below_alloc | apply pw_below_drewN | apply below_drew1 | refine below_set ?_ GE278.out | refine below_set ?_ GE298.out) | exact HB.out)) hb)
            clear HO_4
            clear HO_7
            clear HO_299001
            clear HO_299002
            clear HO307
            clear HO310
            clear BK278
            clear BK298
            clear HB
            have HO_4 := n0_
            have HO_7 := n1_
            have HO_299001 := n2_
            have HO_299002 := n3_
            have HO307 := n4_
            have HO310 := n5_
            have BK278 := n6_
            have BK298 := n7_
            have HB := n8_
            clear n0_ n1_ n2_ n3_ n4_ n5_ n6_ n7_ n8_
            (try clear hb)
            (try clear hb2)
            (try clear hk)
            (try clear hi)
            refine hK.out _ _ ⟨(blk_cell BK298.out 0).trans rfl, (blk_cell BK298.out 1).trans rfl, (blk_cell BK298.out 2).trans rfl, (blk_cell BK278.out 0).trans rfl, (blk_cell BK278.out 1).trans rfl, (blk_cell BK278.out 2).trans rfl⟩ (fun hHeld => ?_)
            clear hK K
            refine norm_ (a' := ?_) ?_ ?_
            rotate_left
            · show Act.put _ (some 44) _ = _
              simp only [Act.put, List.setIfInBounds_toArray, List.set_cons_zero, List.set_cons_succ, i64_w, i32_w]
              rfl
            refine pure_ (i := 4) (N := some 45) (v := ?_) (a' := ?_) #[true, true, true, true, true] rfl rfl (by kernel_rfl) (fun _ _ _ h => h) (Or.inl ⟨by rfl, ?_⟩) ?_ ?_
            rotate_left
            · intro w'
              go_simp
              with_reducible rfl
            rotate_left
            · simp only [Act.put, List.setIfInBounds_toArray, List.set_cons_zero, List.set_cons_succ, i64_w, i32_w]
              rfl
            refine done_ (by kernel_rfl) ?_
            have hnb48 := NB298_278.out
            have hnc48 := NB278_298.out
            have hcz49_0 : w47.cell? ⟨gb298, 0, none⟩ = some (.int .i64 t291) := (blk_cell BK298.out 0).trans rfl
            have hcz49_1 : w47.cell? ⟨gb298, 1, none⟩ = some (.slice Ao27 t292.length co27) := (blk_cell BK298.out 1).trans rfl
            have hcz49_2 : w47.cell? ⟨gb298, 2, none⟩ = some (.slice Ao28 t295.length co28) := (blk_cell BK298.out 2).trans rfl
            have hfz49_0 := blk_frozen BK298.out 0
            have hfz49_1 := blk_frozen BK298.out 1
            have hfz49_2 := blk_frozen BK298.out 2
            go_upto_region 14 with (first | ((with_reducible refine gate_callee (f := 26) rfl ?_); refine goesL_ (some 48) rfl rfl Try.func26 (by kernel_rfl) rfl #[.agg #[.int .i64 t291, .slice Ao27 t292.length co27, .slice Ao28 t295.length co28], .int .i64 1] rfl (by (try simp only [List.map_toArray, List.map_cons, List.map_nil]); first | done | rfl | (simp only [List.length_drop, List.length_take]; rfl)) ?_; (with_reducible refine (laws_markTable.calls kj10 t291 (fun k_ => (((((some k_ ≠ (v288 : Value).ownBlock ∧ (some k_ ≠ (v300 : Value).ownBlock ∧ (some k_ ≠ (.slice Ao28 t295.length co28 : Value).ownBlock ∧ (N23 ≤ k_ ∧ k_ < N30)))) ∧ some k_ ≠ (.slice Ao45 t305.length co45 : Value).ownBlock) ∧ some k_ ≠ (.slice Ao46 t308.length co46 : Value).ownBlock) ∧ k_ ≠ gb278) ∧ k_ ≠ gb298)) (.slice Ao27 t292.length co27) t292 (fun k_ => some k_ = (.slice Ao28 t295.length co28 : Value).ownBlock) (.slice Ao28 t295.length co28) t295 1 t312 t313 t314 w _ ?side1 ?side2 ?side3 ?side4 A41.out).mono ?_); (case side1 => repeat (first | (with_reducible first | exact HB.out | apply below_alloc | apply pw_below_drewN | apply below_drew1 | refine below_set ?_ GE278.out | refine below_set ?_ GE298.out) | exact HB.out)); (case side2 => (with_reducible repeat (first | apply Kd.S_alloc | apply Kd.S_drewN | apply Kd.S_drew)); exact (Kd.S_types (Kd.S_types HO_299001.out BK278.out (by decide)) BK298.out (by decide))); (case side3 => exact Kd.R_tight rfl HO_299002.out); (case side4 => exact fun k_ e_ e2_ => (e_.1.1.1.1.2.2.1) e2_); rintro e w50 ⟨rfl, hy0, hy1, hb, hkp⟩; refine ⟨_, rfl, ?_⟩; have n0_ := Aside0.mk (Kd.S_mono (ok' := fun k_ => (some k_ ≠ (v300 : Value).ownBlock ∧ (some k_ ≠ (.slice Ao27 t292.length co27 : Value).ownBlock ∧ (some k_ ≠ (.slice Ao28 t295.length co28 : Value).ownBlock ∧ (N20 ≤ k_ ∧ (k_ < N23 ∧ (k_ < N30 ∧ some k_ ≠ (.slice Ao46 t308.length co46 : Value).ownBlock))))))) (S_kept2 (HO_4.out) hkp (fun k_ hk_ _ hs_ => Or.elim hs_ (fun hs_ => (Nat.not_le.2 hk_.1.1.2.2.2.2.1) hs_.1.1.1.1.2.2.2.1) (fun hn_ => (hk_.1.1.2.2.1) hn_))) (fun k_ h_ => ⟨h_.1.1.1, ⟨h_.1.1.2.1, ⟨h_.1.1.2.2.1, ⟨h_.1.1.2.2.2.1, ⟨h_.1.1.2.2.2.2.1, ⟨h_.1.1.2.2.2.2.2, h_.2⟩⟩⟩⟩⟩⟩)); have n1_ := Aside0.mk (Kd.S_mono (ok' := fun k_ => (some k_ ≠ (v288 : Value).ownBlock ∧ (some k_ ≠ (.slice Ao27 t292.length co27 : Value).ownBlock ∧ (some k_ ≠ (.slice Ao28 t295.length co28 : Value).ownBlock ∧ (N30 ≤ k_ ∧ some k_ ≠ (.slice Ao46 t308.length co46 : Value).ownBlock))))) (S_kept2 (HO_7.out) hkp (fun k_ hk_ _ hs_ => Or.elim hs_ (fun hs_ => (Nat.not_le.2 hs_.1.1.1.1.2.2.2.2) hk_.1.1.2.2.2) (fun hn_ => (hk_.1.1.2.2.1) hn_))) (fun k_ h_ => ⟨h_.1.1.1, ⟨h_.1.1.2.1, ⟨h_.1.1.2.2.1, ⟨h_.1.1.2.2.2, h_.2⟩⟩⟩⟩)); have n2_ := Aside0.mk (Kd.S_mono (ok' := fun k_ => (some k_ ≠ (v288 : Value).ownBlock ∧ (some k_ ≠ (v300 : Value).ownBlock ∧ (some k_ ≠ (.slice Ao28 t295.length co28 : Value).ownBlock ∧ (N23 ≤ k_ ∧ (k_ < N30 ∧ some k_ ≠ (.slice Ao46 t308.length co46 : Value).ownBlock)))))) hy0 (fun k_ hk_ => ⟨hk_.1.1.1.1.1, ⟨hk_.1.1.1.1.2.1, ⟨hk_.1.1.1.1.2.2.1, ⟨hk_.1.1.1.1.2.2.2.1, ⟨hk_.1.1.1.1.2.2.2.2, hk_.1.1.2⟩⟩⟩⟩⟩)); have n3_ := Aside0.mk (Kd.R_reok rfl hy1 (fun k_ e_ => HO_299002.out.1 k_ e_)); have n4_ := Aside0.mk (blk_kept2 (by (with_reducible repeat (first | refine blk_drewN ?_ _ | refine blk_drew ?_ | refine blk_alloc ?_ _)); exact BK278.out) hkp (fun hs_ => Or.elim hs_ (fun hs_ => (hs_.1.2) rfl) (fun hn_ => (Kd.R_ne HO_299002.out BK278.out (by decide)) hn_))); have n5_ := Aside0.mk (blk_kept2 (by (with_reducible repeat (first | refine blk_drewN ?_ _ | refine blk_drew ?_ | refine blk_alloc ?_ _)); exact BK298.out) hkp (fun hs_ => Or.elim hs_ (fun hs_ => (hs_.2) rfl) (fun hn_ => (Kd.R_ne HO_299002.out BK298.out (by decide)) hn_))); have n6_ := Aside0.mk (Kd.R_mono (ok' := fun k_ => some k_ ≠ (.slice Ao28 t295.length co28 : Value).ownBlock) (R_kept2 (Kd.R_tight2 rfl (HO310.out)) hkp (fun k_ hk_ _ hs_ => Or.elim hs_ (fun hs_ => (hs_.1.1.2) hk_.1) (fun hn_ => (hk_.2.2) hn_))) (fun k_ h_ => h_.2.2)); have n7_ := Aside0.mk (hb); clear HO_4; clear HO_7; clear HO_299001; clear HO_299002; clear BK278; clear BK298; clear HO310; clear HB; clear HO307; have HO_4 := n0_; have HO_7 := n1_; have HO_299001 := n2_; have HO_299002 := n3_; have BK278 := n4_; have BK298 := n5_; have HO310 := n6_; have HB := n7_; clear n0_ n1_ n2_ n3_ n4_ n5_ n6_ n7_; (try clear hb); (try clear hkp); (try clear hy0); (try clear hy1)))
            (try simp only [Act.put, List.setIfInBounds_toArray, List.set_cons_zero, List.set_cons_succ])
            go_cut [61] (fun v61 wc => ∃ (kq : Nat) (x61_41 : Bool), v61 = .bool x61_41 ∧ Aside0 (laws_FnExactGroupsOf.j1 kq t287 t290 t299 x61_41 a0_0 l0_1 l0_2 = some r) ∧ Aside0 (kq ≤ kj10) ∧ Aside0 (Kd.S (Kd.slice 3 (Kd.int .i64)) 22 wc w.heap.size (fun k_ => some k_ ≠ (v300 : Value).ownBlock ∧ some k_ ≠ ((.slice Ao27 t292.length co27) : Value).ownBlock ∧ some k_ ≠ ((.slice Ao28 t295.length co28) : Value).ownBlock ∧ N20 ≤ k_ ∧ k_ < N23 ∧ k_ < N30) v288 t287) ∧ Aside0 (Kd.S (Kd.slice 3 (Kd.int .i64)) 22 wc w.heap.size (fun k_ => some k_ ≠ (v288 : Value).ownBlock ∧ some k_ ≠ ((.slice Ao27 t292.length co27) : Value).ownBlock ∧ some k_ ≠ ((.slice Ao28 t295.length co28) : Value).ownBlock ∧ N30 ≤ k_) v300 t299) ∧ Aside0 (Kd.S (Kd.slice 3 (Kd.int .i64)) 22 wc w.heap.size (fun k_ => some k_ ≠ (v288 : Value).ownBlock ∧ some k_ ≠ (v300 : Value).ownBlock ∧ some k_ ≠ ((.slice Ao28 t295.length co28) : Value).ownBlock ∧ N23 ≤ k_ ∧ k_ < N30) (.slice Ao27 t292.length co27) t313) ∧ Aside0 (Kd.R (Kd.int .i64) 3 wc w.heap.size (fun _ => True) (.slice Ao28 t295.length co28) t314) ∧ Aside0 (wc.heap[gb278]? = some (.cells #[.int .i64 a0_0, (.slice A0_1 l0_1.length c0_1), (.slice A0_2 l0_2.length c0_2)] 34 (0, 0))) ∧ Aside0 (wc.heap[gb298]? = some (.cells #[.int .i64 t291, (.slice Ao27 t292.length co27), (.slice Ao28 t295.length co28)] 38 (0, 0))) ∧ Aside0 (Below w.heap.size w wc))
            case first =>
              have H := HC42.out
              clear HC42
              by_cases c51 : t312 < 0
              · rw [if_pos c51] at H
                have c51b0 : decide (t312 < 0) = true := decide_eq_true c51
                clear c51
                (first | rw [c51b0] | (simp only [i64_w, i32_w]; rw [c51b0]) | skip)
                have H' := Aside0.mk H
                clear H
                go_wp2
                go_meet
                case rel => exact ⟨_, (true), (by first | rfl | (simp; done) | (simp [*]; done)), H', ⟨by have := HJ10.out; first | omega | exact Nat.le_refl _⟩, ⟨by (with_reducible repeat (first | apply Kd.S_alloc | apply Kd.S_drewN | apply Kd.S_drew)); exact Kd.S_mono HO_4.out (fun _ hk => ⟨hk.1, ⟨hk.2.1, ⟨hk.2.2.1, ⟨hk.2.2.2.1, ⟨hk.2.2.2.2.1, hk.2.2.2.2.2.1⟩⟩⟩⟩⟩)⟩, ⟨by (with_reducible repeat (first | apply Kd.S_alloc | apply Kd.S_drewN | apply Kd.S_drew)); exact Kd.S_mono HO_7.out (fun _ hk => ⟨hk.1, ⟨hk.2.1, ⟨hk.2.2.1, hk.2.2.2.1⟩⟩⟩)⟩, ⟨by (with_reducible repeat (first | apply Kd.S_alloc | apply Kd.S_drewN | apply Kd.S_drew)); exact Kd.S_mono HO_299001.out (fun _ hk => ⟨hk.1, ⟨hk.2.1, ⟨hk.2.2.1, ⟨hk.2.2.2.1, hk.2.2.2.2.1⟩⟩⟩⟩)⟩, ⟨by (with_reducible repeat (first | apply Kd.R_alloc | apply Kd.R_drewN | apply Kd.R_drew)); exact Kd.R_mono HO_299002.out (fun _ hk => trivial)⟩, ⟨by (with_reducible repeat (first | refine blk_drewN ?_ _ | refine blk_drew ?_ | refine blk_alloc ?_ _)); exact BK278.out⟩, ⟨by (with_reducible repeat (first | refine blk_drewN ?_ _ | refine blk_drew ?_ | refine blk_alloc ?_ _)); exact BK298.out⟩, ⟨by repeat (first | (with_reducible first | exact HB.out | apply below_alloc | apply pw_below_drewN | apply below_drew1 | refine below_set ?_ GE278.out | refine below_set ?_ GE298.out) | exact HB.out)⟩⟩
              · rw [if_neg c51] at H
                have c51b0 : decide (t312 < 0) = false := decide_eq_false c51
                clear c51
                (first | rw [c51b0] | (simp only [i64_w, i32_w]; rw [c51b0]) | skip)
                replace H := Option.bind_eq_some_iff.mp H
                obtain ⟨t315, A520, H⟩ := H
                replace H : (if t315 = true then (laws_FnExactGroupsOf.j1 kj10 t287 t290 t299 (t302 != t290) a0_0 l0_1 l0_2) else (laws_FnExactGroupsOf.j1 kj10 t287 t290 t299 true a0_0 l0_1 l0_2)) = some r := H
                have A52 := Aside0.mk A520
                clear A520
                by_cases c53 : t315 = true
                · subst c53
                  have H1 : (laws_FnExactGroupsOf.j1 kj10 t287 t290 t299 (t302 != t290) a0_0 l0_1 l0_2) = some r := by rw [if_pos rfl] at H; exact H
                  clear H
                  have H := H1
                  clear H1
                  have H' := Aside0.mk H
                  clear H
                  obtain ⟨Ao54, co54, eo54⟩ := Kd.S_slice HO_7.out
                  subst eo54
                  obtain ⟨Ao55, co55, eo55⟩ := Kd.S_slice HO_4.out
                  subst eo55
                  go_wp2_with (first | (go_at_call 39; (with_reducible refine (laws_eqIntSS.calls kj10 _ _ t299 _ _ t287 true _ ?side1 ?side2 ?side3 ?side4 A52.out).mono ?_); (case side1 => repeat (first | exact (Kd.S_reads' HO_7.out).2.2 | (with_reducible refine Kd.C_alloc ?_ _) | (with_reducible refine Kd.C_drewN ?_ _) | (with_reducible refine Kd.C_drew ?_))); (case side2 => exact (Kd.S_reads' HO_7.out).2.1); (case side3 => repeat (first | exact (Kd.S_reads' HO_4.out).2.2 | (with_reducible refine Kd.C_alloc ?_ _) | (with_reducible refine Kd.C_drewN ?_ _) | (with_reducible refine Kd.C_drew ?_))); (case side4 => exact (Kd.S_reads' HO_4.out).2.1); rintro e w' ⟨rfl, ⟨nd, rfl⟩⟩))
                  go_meet
                  case rel => exact ⟨_, ((t302 != t290)), (by first | rfl | (simp; done) | (simp [*]; done)), H', ⟨by have := HJ10.out; first | omega | exact Nat.le_refl _⟩, ⟨by (with_reducible repeat (first | apply Kd.S_alloc | apply Kd.S_drewN | apply Kd.S_drew)); exact Kd.S_mono HO_4.out (fun _ hk => ⟨hk.1, ⟨hk.2.1, ⟨hk.2.2.1, ⟨hk.2.2.2.1, ⟨hk.2.2.2.2.1, hk.2.2.2.2.2.1⟩⟩⟩⟩⟩)⟩, ⟨by (with_reducible repeat (first | apply Kd.S_alloc | apply Kd.S_drewN | apply Kd.S_drew)); exact Kd.S_mono HO_7.out (fun _ hk => ⟨hk.1, ⟨hk.2.1, ⟨hk.2.2.1, hk.2.2.2.1⟩⟩⟩)⟩, ⟨by (with_reducible repeat (first | apply Kd.S_alloc | apply Kd.S_drewN | apply Kd.S_drew)); exact Kd.S_mono HO_299001.out (fun _ hk => ⟨hk.1, ⟨hk.2.1, ⟨hk.2.2.1, ⟨hk.2.2.2.1, hk.2.2.2.2.1⟩⟩⟩⟩)⟩, ⟨by (with_reducible repeat (first | apply Kd.R_alloc | apply Kd.R_drewN | apply Kd.R_drew)); exact Kd.R_mono HO_299002.out (fun _ hk => trivial)⟩, ⟨by (with_reducible repeat (first | refine blk_drewN ?_ _ | refine blk_drew ?_ | refine blk_alloc ?_ _)); exact BK278.out⟩, ⟨by (with_reducible repeat (first | refine blk_drewN ?_ _ | refine blk_drew ?_ | refine blk_alloc ?_ _)); exact BK298.out⟩, ⟨by repeat (first | (with_reducible first | exact HB.out | apply below_alloc | apply pw_below_drewN | apply below_drew1 | refine below_set ?_ GE278.out | refine below_set ?_ GE298.out) | exact HB.out)⟩⟩
                · replace c53 := Bool.eq_false_iff.mpr c53
                  subst c53
                  have H1 : (laws_FnExactGroupsOf.j1 kj10 t287 t290 t299 true a0_0 l0_1 l0_2) = some r := by rw [if_neg (show ¬ (false = true) by decide)] at H; exact H
                  clear H
                  have H := H1
                  clear H1
                  have H' := Aside0.mk H
                  clear H
                  obtain ⟨Ao56, co56, eo56⟩ := Kd.S_slice HO_7.out
                  subst eo56
                  obtain ⟨Ao57, co57, eo57⟩ := Kd.S_slice HO_4.out
                  subst eo57
                  go_wp2_with (first | (go_at_call 39; (with_reducible refine (laws_eqIntSS.calls kj10 _ _ t299 _ _ t287 false _ ?side1 ?side2 ?side3 ?side4 A52.out).mono ?_); (case side1 => repeat (first | exact (Kd.S_reads' HO_7.out).2.2 | (with_reducible refine Kd.C_alloc ?_ _) | (with_reducible refine Kd.C_drewN ?_ _) | (with_reducible refine Kd.C_drew ?_))); (case side2 => exact (Kd.S_reads' HO_7.out).2.1); (case side3 => repeat (first | exact (Kd.S_reads' HO_4.out).2.2 | (with_reducible refine Kd.C_alloc ?_ _) | (with_reducible refine Kd.C_drewN ?_ _) | (with_reducible refine Kd.C_drew ?_))); (case side4 => exact (Kd.S_reads' HO_4.out).2.1); rintro e w' ⟨rfl, ⟨nd, rfl⟩⟩))
                  go_meet
                  case rel => exact ⟨_, (true), (by first | rfl | (simp; done) | (simp [*]; done)), H', ⟨by have := HJ10.out; first | omega | exact Nat.le_refl _⟩, ⟨by (with_reducible repeat (first | apply Kd.S_alloc | apply Kd.S_drewN | apply Kd.S_drew)); exact Kd.S_mono HO_4.out (fun _ hk => ⟨hk.1, ⟨hk.2.1, ⟨hk.2.2.1, ⟨hk.2.2.2.1, ⟨hk.2.2.2.2.1, hk.2.2.2.2.2.1⟩⟩⟩⟩⟩)⟩, ⟨by (with_reducible repeat (first | apply Kd.S_alloc | apply Kd.S_drewN | apply Kd.S_drew)); exact Kd.S_mono HO_7.out (fun _ hk => ⟨hk.1, ⟨hk.2.1, ⟨hk.2.2.1, hk.2.2.2.1⟩⟩⟩)⟩, ⟨by (with_reducible repeat (first | apply Kd.S_alloc | apply Kd.S_drewN | apply Kd.S_drew)); exact Kd.S_mono HO_299001.out (fun _ hk => ⟨hk.1, ⟨hk.2.1, ⟨hk.2.2.1, ⟨hk.2.2.2.1, hk.2.2.2.2.1⟩⟩⟩⟩)⟩, ⟨by (with_reducible repeat (first | apply Kd.R_alloc | apply Kd.R_drewN | apply Kd.R_drew)); exact Kd.R_mono HO_299002.out (fun _ hk => trivial)⟩, ⟨by (with_reducible repeat (first | refine blk_drewN ?_ _ | refine blk_drew ?_ | refine blk_alloc ?_ _)); exact BK278.out⟩, ⟨by (with_reducible repeat (first | refine blk_drewN ?_ _ | refine blk_drew ?_ | refine blk_alloc ?_ _)); exact BK298.out⟩, ⟨by repeat (first | (with_reducible first | exact HB.out | apply below_alloc | apply pw_below_drewN | apply below_drew1 | refine below_set ?_ GE278.out | refine below_set ?_ GE298.out) | exact HB.out)⟩⟩
            case rest =>
              clear HC42
              try clear c2
              try clear p2
              try clear c3
              try clear c3b0
              try clear c4
              try clear c5
              try clear c7
              try clear c20
              try clear c22
              try clear c25
              try clear c26
              try clear c32
              try clear c37
              try clear c38
              try clear c39
              try clear c40
              try clear c48
              try clear c51
              try clear c51b0
              try clear c53
              try clear hcz13_0
              try clear hcz13_1
              try clear hcz13_2
              try clear hcz15_0
              try clear hcz15_1
              try clear hcz15_2
              try clear hcz21_0
              try clear hcz21_1
              try clear hcz21_2
              try clear hcz26_0
              try clear hcz26_1
              try clear hcz26_2
              try clear hcz49_0
              try clear hcz49_1
              try clear hcz49_2
              try clear hcz5_0
              try clear hcz5_1
              try clear hcz5_2
              try clear hfz13_0
              try clear hfz13_1
              try clear hfz13_2
              try clear hfz15_0
              try clear hfz15_1
              try clear hfz15_2
              try clear hfz21_0
              try clear hfz21_1
              try clear hfz21_2
              try clear hfz26_0
              try clear hfz26_1
              try clear hfz26_2
              try clear hfz49_0
              try clear hfz49_1
              try clear hfz49_2
              try clear hfz5_0
              try clear hfz5_1
              try clear hfz5_2
              try clear p2
              obtain ⟨kq, x61_41, rfl, HA, HJ41, HO_4, HO_7, HO_299001, HO_299002, BK278, BK298, HB⟩ := hcut
              have hl299001_41 := (Kd.S_reads' HO_299001.out).1
              rw [hl299001_41] at HO_299001
              (try simp only [hl299001_41])
              (try simp only [hl299001_41] at BK278)
              (try simp only [hl299001_41] at BK298)
              (try simp only [hl299001_41] at HO_4)
              (try simp only [hl299001_41] at HO_7)
              (try simp only [hl299001_41] at HO_299002)
              have hl299002_41 := (Kd.R_reads' HO_299002.out).1
              rw [hl299002_41] at HO_299002
              (try simp only [hl299002_41])
              (try simp only [hl299002_41] at BK278)
              (try simp only [hl299002_41] at BK298)
              (try simp only [hl299002_41] at HO_4)
              (try simp only [hl299002_41] at HO_7)
              (try simp only [hl299002_41] at HO_299001)
              cases kq with
              | zero => exact absurd HA.out (by simp [laws_FnExactGroupsOf.j1])
              | succ kj41 =>
                have H := HA.out
                clear HA
                simp only [laws_FnExactGroupsOf.j1] at H
                by_cases c58 : x61_41 = true
                · subst c58
                  have H1 : (some false) = some r := by rw [if_pos rfl] at H; exact H
                  clear H
                  have H := H1
                  clear H1
                  exact absurd (H.trans (congrArg some hr_)) (by simp)
                · replace c58 := Bool.eq_false_iff.mpr c58
                  subst c58
                  have H1 : ((laws_markIntSS.f kj41 t299 1).bind fun bt316 => ((laws_heldIntSS.f kj41 bt316.2 1).bind fun t318 => (if t318 < 0 then (some false) else (if t318 = bt316.1 then ((laws_toTable.f kj41 a0_0 l0_1 l0_2).bind fun bt319 => ((impl_GroupsOf.f kj41 bt319.1 bt319.2.1 bt319.2.2).bind fun bt326 => ((laws_eqIntSS.f kj41 bt326.1 t287).bind fun t330 => (if t330 = true then (laws_FnExactGroupsOf.j2 kj41 bt316.2 bt316.1 (bt326.2 != t290)) else (laws_FnExactGroupsOf.j2 kj41 bt316.2 bt316.1 true))))) else (some false))))) = some r := by rw [if_neg (show ¬ (false = true) by decide)] at H; exact H
                  clear H
                  have H := H1
                  clear H1
                  replace H := Option.bind_eq_some_iff.mp H
                  obtain ⟨⟨t316, t317⟩, A590, H⟩ := H
                  replace H : ((laws_heldIntSS.f kj41 t317 1).bind fun t318 => (if t318 < 0 then (some false) else (if t318 = t316 then ((laws_toTable.f kj41 a0_0 l0_1 l0_2).bind fun bt319 => ((impl_GroupsOf.f kj41 bt319.1 bt319.2.1 bt319.2.2).bind fun bt326 => ((laws_eqIntSS.f kj41 bt326.1 t287).bind fun t330 => (if t330 = true then (laws_FnExactGroupsOf.j2 kj41 t317 t316 (bt326.2 != t290)) else (laws_FnExactGroupsOf.j2 kj41 t317 t316 true))))) else (some false)))) = some r := H
                  have A59 := Aside0.mk A590
                  clear A590
                  replace H := Option.bind_eq_some_iff.mp H
                  obtain ⟨t318, A600, H⟩ := H
                  replace H : (if t318 < 0 then (some false) else (if t318 = t316 then ((laws_toTable.f kj41 a0_0 l0_1 l0_2).bind fun bt319 => ((impl_GroupsOf.f kj41 bt319.1 bt319.2.1 bt319.2.2).bind fun bt326 => ((laws_eqIntSS.f kj41 bt326.1 t287).bind fun t330 => (if t330 = true then (laws_FnExactGroupsOf.j2 kj41 t317 t316 (bt326.2 != t290)) else (laws_FnExactGroupsOf.j2 kj41 t317 t316 true))))) else (some false))) = some r := H
                  have A60 := Aside0.mk A600
                  clear A600
                  by_cases c61 : t318 < 0
                  · rw [if_pos c61] at H
                    have c61b0 : decide (t318 < 0) = true := decide_eq_true c61
                    clear c61
                    exact absurd (H.trans (congrArg some hr_)) (by simp)
                  · rw [if_neg c61] at H
                    have c61b0 : decide (t318 < 0) = false := decide_eq_false c61
                    clear c61
                    by_cases c62 : t318 = t316
                    · rw [if_pos c62] at H
                      have c62b0 : (t318 == t316) = true := beq_iff_eq.mpr c62
                      have c62b1 : (t318 != t316) = false := bne_eq_false_iff_eq.mpr c62
                      clear c62
                      replace H := Option.bind_eq_some_iff.mp H
                      obtain ⟨⟨t319, t320, t323⟩, A630, H⟩ := H
                      replace H : ((impl_GroupsOf.f kj41 t319 t320 t323).bind fun bt326 => ((laws_eqIntSS.f kj41 bt326.1 t287).bind fun t330 => (if t330 = true then (laws_FnExactGroupsOf.j2 kj41 t317 t316 (bt326.2 != t290)) else (laws_FnExactGroupsOf.j2 kj41 t317 t316 true)))) = some r := H
                      have A63 := Aside0.mk A630
                      clear A630
                      replace H := Option.bind_eq_some_iff.mp H
                      obtain ⟨⟨t326, t329⟩, A640, H⟩ := H
                      replace H : ((laws_eqIntSS.f kj41 t326 t287).bind fun t330 => (if t330 = true then (laws_FnExactGroupsOf.j2 kj41 t317 t316 (t329 != t290)) else (laws_FnExactGroupsOf.j2 kj41 t317 t316 true))) = some r := H
                      have A64 := Aside0.mk A640
                      clear A640
                      have HC65 := Aside0.mk H
                      clear H
                      obtain ⟨Ao66, co66, eo66⟩ := Kd.S_slice HO_7.out
                      subst eo66
                      go_upto_region 25 with (first | ((with_reducible refine gate_callee (f := 40) rfl ?_); refine goesL_ (some 64) rfl rfl Try.func40 (by kernel_rfl) rfl #[.slice Ao66 t299.length co66, .int .i64 1] rfl (by (try simp only [List.map_toArray, List.map_cons, List.map_nil]); first | done | rfl | (simp only [List.length_drop, List.length_take]; rfl)) ?_; (with_reducible refine (laws_markIntSS.calls kj41 (fun k_ => (((some k_ ≠ (v288 : Value).ownBlock ∧ (some k_ ≠ (.slice Ao27 t313.length co27 : Value).ownBlock ∧ (some k_ ≠ (.slice Ao28 t314.length co28 : Value).ownBlock ∧ N30 ≤ k_))) ∧ k_ ≠ gb278) ∧ k_ ≠ gb298)) (.slice Ao66 t299.length co66) t299 1 t316 t317 w _ ?side1 ?side2 A59.out).mono ?_); (case side1 => repeat (first | (with_reducible first | exact HB.out | apply below_alloc | apply pw_below_drewN | apply below_drew1 | refine below_set ?_ GE278.out | refine below_set ?_ GE298.out) | exact HB.out)); (case side2 => (with_reducible repeat (first | apply Kd.S_alloc | apply Kd.S_drewN | apply Kd.S_drew)); exact (Kd.S_types (Kd.S_types HO_7.out BK278.out (by decide)) BK298.out (by decide))); rintro e w67 ⟨rfl, hy0, hb, hkp⟩; refine ⟨_, rfl, ?_⟩; have n0_ := Aside0.mk (Kd.S_mono (ok' := fun k_ => (some k_ ≠ (.slice Ao66 t299.length co66 : Value).ownBlock ∧ (some k_ ≠ (.slice Ao27 t313.length co27 : Value).ownBlock ∧ (some k_ ≠ (.slice Ao28 t314.length co28 : Value).ownBlock ∧ (N20 ≤ k_ ∧ (k_ < N23 ∧ k_ < N30)))))) (S_kept2 (HO_4.out) hkp (fun k_ hk_ _ hs_ => (Nat.not_le.2 hk_.2.2.2.2.2) hs_.1.1.2.2.2)) (fun k_ h_ => ⟨h_.1, ⟨h_.2.1, ⟨h_.2.2.1, ⟨h_.2.2.2.1, ⟨h_.2.2.2.2.1, h_.2.2.2.2.2⟩⟩⟩⟩⟩)); have n1_ := Aside0.mk (Kd.S_mono (ok' := fun k_ => (some k_ ≠ (v288 : Value).ownBlock ∧ (some k_ ≠ (.slice Ao27 t313.length co27 : Value).ownBlock ∧ (some k_ ≠ (.slice Ao28 t314.length co28 : Value).ownBlock ∧ N30 ≤ k_)))) hy0 (fun k_ hk_ => ⟨hk_.1.1.1, ⟨hk_.1.1.2.1, ⟨hk_.1.1.2.2.1, hk_.1.1.2.2.2⟩⟩⟩)); have n2_ := Aside0.mk (Kd.S_mono (ok' := fun k_ => (some k_ ≠ (v288 : Value).ownBlock ∧ (some k_ ≠ (.slice Ao66 t299.length co66 : Value).ownBlock ∧ (some k_ ≠ (.slice Ao28 t314.length co28 : Value).ownBlock ∧ (N23 ≤ k_ ∧ k_ < N30))))) (S_kept2 (HO_299001.out) hkp (fun k_ hk_ _ hs_ => (Nat.not_le.2 hk_.2.2.2.2) hs_.1.1.2.2.2)) (fun k_ h_ => ⟨h_.1, ⟨h_.2.1, ⟨h_.2.2.1, ⟨h_.2.2.2.1, h_.2.2.2.2⟩⟩⟩⟩)); have n3_ := Aside0.mk (Kd.R_mono (ok' := fun k_ => True) (R_kept2 (Kd.R_tight2 rfl (HO_299002.out)) hkp (fun k_ hk_ _ hs_ => (hs_.1.1.2.2.1) hk_.1)) (fun k_ h_ => trivial)); have n4_ := Aside0.mk (blk_kept2 (by (with_reducible repeat (first | refine blk_drewN ?_ _ | refine blk_drew ?_ | refine blk_alloc ?_ _)); exact BK278.out) hkp (fun hs_ => (hs_.1.2) rfl)); have n5_ := Aside0.mk (blk_kept2 (by (with_reducible repeat (first | refine blk_drewN ?_ _ | refine blk_drew ?_ | refine blk_alloc ?_ _)); exact BK298.out) hkp (fun hs_ => (hs_.2) rfl)); have n6_ := Aside0.mk (hb); clear HO_4; clear HO_7; clear HO_299001; clear HO_299002; clear BK278; clear BK298; clear HB; have HO_4 := n0_; have HO_7 := n1_; have HO_299001 := n2_; have HO_299002 := n3_; have BK278 := n4_; have BK298 := n5_; have HB := n6_; clear n0_ n1_ n2_ n3_ n4_ n5_ n6_; (try clear hb); (try clear hkp); (try clear hy0)) | ((with_reducible refine gate_callee (f := 41) rfl ?_); refine goesL_ (some 67) rfl rfl Try.func41 (by kernel_rfl) rfl #[.slice Ao66 t317.length co66, .int .i64 1] rfl (by (try simp only [List.map_toArray, List.map_cons, List.map_nil]); first | done | (rw [show t317.length = t299.length from (Kd.S_reads' HO_7.out).1.symm] <;> rfl) | rfl | (simp only [List.length_drop, List.length_take]; rfl)) ?_; (with_reducible refine (laws_heldIntSS.calls kj41 _ _ t317 1 t318 _ ?side1 ?side2 A60.out).mono ?_); (case side1 => repeat (first | exact (Kd.S_reads' HO_7.out).2.2 | (with_reducible refine Kd.C_alloc ?_ _) | (with_reducible refine Kd.C_drewN ?_ _) | (with_reducible refine Kd.C_drew ?_))); (case side2 => rw [show t317.length = t299.length from (Kd.S_reads' HO_7.out).1.symm]; exact (Kd.S_reads' HO_7.out).2.1); rintro e w' ⟨rfl, ⟨nd, rfl⟩⟩; refine ⟨_, rfl, ?_⟩; have hnb68 := NB278_298.out; have hnc68 := NB298_278.out; have hcz69_0 : w67.cell? ⟨gb278, 0, none⟩ = some (.int .i64 a0_0) := (blk_cell BK278.out 0).trans rfl; have hcz69_1 : w67.cell? ⟨gb278, 1, none⟩ = some (.slice A0_1 l0_1.length c0_1) := (blk_cell BK278.out 1).trans rfl; have hcz69_2 : w67.cell? ⟨gb278, 2, none⟩ = some (.slice A0_2 l0_2.length c0_2) := (blk_cell BK278.out 2).trans rfl; have hfz69_0 := blk_frozen BK278.out 0; have hfz69_1 := blk_frozen BK278.out 1; have hfz69_2 := blk_frozen BK278.out 2) | ((with_reducible refine gate_callee (f := 22) rfl ?_); refine goesL_ (some 75) rfl rfl Try.func22 (by kernel_rfl) rfl #[.agg #[.int .i64 a0_0, .slice A0_1 l0_1.length c0_1, .slice A0_2 l0_2.length c0_2]] rfl (by (try simp only [List.map_toArray, List.map_cons, List.map_nil]); first | done | rfl | (simp only [List.length_drop, List.length_take]; rfl)) ?_; (with_reducible refine (laws_toTable.calls kj41 a0_0 _ _ l0_1 _ _ l0_2 t319 t320 t323 _ ?side1 ?side2 ?side3 ?side4 A63.out).mono ?_); (case side1 => repeat (first | exact (Kd.C_below HR0_1.out (by repeat (first | (with_reducible first | exact HB.out | apply below_alloc | apply pw_below_drewN | apply below_drew1 | refine below_set ?_ GE278.out | refine below_set ?_ GE298.out) | exact HB.out))) | (with_reducible refine Kd.C_alloc ?_ _) | (with_reducible refine Kd.C_drewN ?_ _) | (with_reducible refine Kd.C_drew ?_))); (case side2 => exact HC0_1.out); (case side3 => repeat (first | exact (Kd.C_below HR0_2.out (by repeat (first | (with_reducible first | exact HB.out | apply below_alloc | apply pw_below_drewN | apply below_drew1 | refine below_set ?_ GE278.out | refine below_set ?_ GE298.out) | exact HB.out))) | (with_reducible refine Kd.C_alloc ?_ _) | (with_reducible refine Kd.C_drewN ?_ _) | (with_reducible refine Kd.C_drew ?_))); (case side4 => exact HC0_2.out); rintro e w70 ⟨v321, v324, rfl, ho0, ho1, hb⟩; refine ⟨_, rfl, ?_⟩; obtain ⟨N71, eN71⟩ := below_num hb; have n0_ := Aside0.mk (Kd.S_mono (Kd.S_told (Kd.S_told (Kd.S_old (S_ltN eN71 (by (with_reducible repeat (first | apply Kd.S_alloc | apply Kd.S_drewN | apply Kd.S_drew)); exact HO_4.out)) hb) (Kd.S_base ho0)) (Kd.R_base ho1)) (fun _ h_ => h_.1)); have n1_ := Aside0.mk (Kd.S_mono (Kd.S_told (Kd.S_told (Kd.S_old (S_ltN eN71 (by (with_reducible repeat (first | apply Kd.S_alloc | apply Kd.S_drewN | apply Kd.S_drew)); exact HO_7.out)) hb) (Kd.S_base ho0)) (Kd.R_base ho1)) (fun _ h_ => h_.1)); have n2_ := Aside0.mk (Kd.S_mono (Kd.S_told (Kd.S_told (Kd.S_old (S_ltN eN71 (by (with_reducible repeat (first | apply Kd.S_alloc | apply Kd.S_drewN | apply Kd.S_drew)); exact HO_299001.out)) hb) (Kd.S_base ho0)) (Kd.R_base ho1)) (fun _ h_ => h_.1)); have n3_ := Aside0.mk (Kd.R_elder' (by (with_reducible repeat (first | apply Kd.R_alloc | apply Kd.R_drewN | apply Kd.R_drew)); exact HO_299002.out) (Kd.R_base ho1) hb); have n4_ := Aside0.mk (Kd.S_lower (Kd.S_new' (Kd.S_new' (Kd.S_new' (Kd.S_new' (S_geN eN71 ho0) (Kd.S_lt (by (with_reducible repeat (first | apply Kd.S_alloc | apply Kd.S_drewN | apply Kd.S_drew)); exact HO_4.out))) (Kd.S_lt (by (with_reducible repeat (first | apply Kd.S_alloc | apply Kd.S_drewN | apply Kd.S_drew)); exact HO_7.out))) (Kd.S_lt (by (with_reducible repeat (first | apply Kd.S_alloc | apply Kd.S_drewN | apply Kd.S_drew)); exact HO_299001.out))) (Kd.R_lt (by (with_reducible repeat (first | apply Kd.R_alloc | apply Kd.R_drewN | apply Kd.R_drew)); exact HO_299002.out))) (below_size (by repeat (first | (with_reducible first | exact HB.out | apply below_alloc | apply pw_below_drewN | apply below_drew1 | refine below_set ?_ GE278.out | refine below_set ?_ GE298.out) | exact HB.out)))); have n5_ := Aside0.mk (Kd.R_lower (Kd.R_new' ho1 (Kd.R_lt (by (with_reducible repeat (first | apply Kd.R_alloc | apply Kd.R_drewN | apply Kd.R_drew)); exact HO_299002.out))) (below_size (by repeat (first | (with_reducible first | exact HB.out | apply below_alloc | apply pw_below_drewN | apply below_drew1 | refine below_set ?_ GE278.out | refine below_set ?_ GE298.out) | exact HB.out)))); have n6_ := Aside0.mk (blk_below (g := gb278) (o := .cells #[.int .i64 a0_0, .slice A0_1 l0_1.length c0_1, .slice A0_2 l0_2.length c0_2] 34 (0, 0)) (by (with_reducible repeat (first | refine blk_drewN ?_ _ | refine blk_drew ?_ | refine blk_alloc ?_ _)); exact BK278.out) hb); have n7_ := Aside0.mk (blk_below (g := gb298) (o := .cells #[.int .i64 t291, .slice Ao27 t313.length co27, .slice Ao28 t314.length co28] 38 (0, 0)) (by (with_reducible repeat (first | refine blk_drewN ?_ _ | refine blk_drew ?_ | refine blk_alloc ?_ _)); exact BK298.out) hb); have n8_ := Aside0.mk (below_step (by repeat (first | (with_reducible first | exact HB.out | apply below_alloc | apply pw_below_drewN | apply below_drew1 | refine below_set ?_ GE278.out | refine below_set ?_ GE298.out) | exact HB.out)) hb); clear HO_4; clear HO_7; clear HO_299001; clear HO_299002; clear BK278; clear BK298; clear HB; have HO_4 := n0_; have HO_7 := n1_; have HO_299001 := n2_; have HO_299002 := n3_; have HO322 := n4_; have HO325 := n5_; have BK278 := n6_; have BK298 := n7_; have HB := n8_; clear n0_ n1_ n2_ n3_ n4_ n5_ n6_ n7_ n8_; (try clear hb); (try clear hb2); (try clear hk); (try clear hi); (try clear ho0); (try clear ho1); obtain ⟨Ao72, co72, eo72⟩ := Kd.S_slice HO322.out; subst eo72; obtain ⟨Ao73, co73, eo73⟩ := Kd.R_slice HO325.out; subst eo73) | ((with_reducible refine gate_callee (f := 38) rfl ?_); refine goesL_ (some 76) rfl rfl Try.func38 (by kernel_rfl) rfl #[.agg #[.int .i64 t319, .slice Ao72 t320.length co72, .slice Ao73 t323.length co73]] rfl (by (try simp only [List.map_toArray, List.map_cons, List.map_nil]); first | done | rfl | (simp only [List.length_drop, List.length_take]; rfl)) ?_; (with_reducible refine (impl_GroupsOf.calls kj41 t319 _ _ t320 _ _ t323 t326 t329 _ ?side1 ?side2 ?side3 ?side4 A64.out).mono ?_); (case side1 => repeat (first | exact (Kd.S_reads' HO322.out).2.2 | (with_reducible refine Kd.C_alloc ?_ _) | (with_reducible refine Kd.C_drewN ?_ _) | (with_reducible refine Kd.C_drew ?_))); (case side2 => exact (Kd.S_reads' HO322.out).2.1); (case side3 => repeat (first | exact (Kd.R_reads' HO325.out).2.2 | (with_reducible refine Kd.C_alloc ?_ _) | (with_reducible refine Kd.C_drewN ?_ _) | (with_reducible refine Kd.C_drew ?_))); (case side4 => exact (Kd.R_reads' HO325.out).2.1); rintro e w74 ⟨v327, rfl, ho0, hb⟩; refine ⟨_, rfl, ?_⟩; obtain ⟨N75, eN75⟩ := below_num hb; have n0_ := Aside0.mk (Kd.S_elder' (S_ltN eN75 (by (with_reducible repeat (first | apply Kd.S_alloc | apply Kd.S_drewN | apply Kd.S_drew)); exact HO_4.out)) (Kd.S_base ho0) hb); have n1_ := Aside0.mk (Kd.S_elder' (S_ltN eN75 (by (with_reducible repeat (first | apply Kd.S_alloc | apply Kd.S_drewN | apply Kd.S_drew)); exact HO_7.out)) (Kd.S_base ho0) hb); have n2_ := Aside0.mk (Kd.S_elder' (S_ltN eN75 (by (with_reducible repeat (first | apply Kd.S_alloc | apply Kd.S_drewN | apply Kd.S_drew)); exact HO_299001.out)) (Kd.S_base ho0) hb); have n3_ := Aside0.mk (Kd.R_below (by (with_reducible repeat (first | apply Kd.R_alloc | apply Kd.R_drewN | apply Kd.R_drew)); exact HO_299002.out) hb); have n4_ := Aside0.mk (Kd.S_elder' (S_ltN eN75 (by (with_reducible repeat (first | apply Kd.S_alloc | apply Kd.S_drewN | apply Kd.S_drew)); exact HO322.out)) (Kd.S_base ho0) hb); have n5_ := Aside0.mk (Kd.R_below (by (with_reducible repeat (first | apply Kd.R_alloc | apply Kd.R_drewN | apply Kd.R_drew)); exact HO325.out) hb); have n6_ := Aside0.mk (Kd.S_lower (Kd.S_new' (Kd.S_new' (Kd.S_new' (Kd.S_new' (Kd.S_new' (Kd.S_new' (S_geN eN75 ho0) (Kd.S_lt (by (with_reducible repeat (first | apply Kd.S_alloc | apply Kd.S_drewN | apply Kd.S_drew)); exact HO_4.out))) (Kd.S_lt (by (with_reducible repeat (first | apply Kd.S_alloc | apply Kd.S_drewN | apply Kd.S_drew)); exact HO_7.out))) (Kd.S_lt (by (with_reducible repeat (first | apply Kd.S_alloc | apply Kd.S_drewN | apply Kd.S_drew)); exact HO_299001.out))) (Kd.R_lt (by (with_reducible repeat (first | apply Kd.R_alloc | apply Kd.R_drewN | apply Kd.R_drew)); exact HO_299002.out))) (Kd.S_lt (by (with_reducible repeat (first | apply Kd.S_alloc | apply Kd.S_drewN | apply Kd.S_drew)); exact HO322.out))) (Kd.R_lt (by (with_reducible repeat (first | apply Kd.R_alloc | apply Kd.R_drewN | apply Kd.R_drew)); exact HO325.out))) (below_size (by repeat (first | (with_reducible first | exact HB.out | apply below_alloc | apply pw_below_drewN | apply below_drew1 | refine below_set ?_ GE278.out | refine below_set ?_ GE298.out) | exact HB.out)))); have n7_ := Aside0.mk (blk_below (g := gb278) (o := .cells #[.int .i64 a0_0, .slice A0_1 l0_1.length c0_1, .slice A0_2 l0_2.length c0_2] 34 (0, 0)) (by (with_reducible repeat (first | refine blk_drewN ?_ _ | refine blk_drew ?_ | refine blk_alloc ?_ _)); exact BK278.out) hb); have n8_ := Aside0.mk (blk_below (g := gb298) (o := .cells #[.int .i64 t291, .slice Ao27 t313.length co27, .slice Ao28 t314.length co28] 38 (0, 0)) (by (with_reducible repeat (first | refine blk_drewN ?_ _ | refine blk_drew ?_ | refine blk_alloc ?_ _)); exact BK298.out) hb); have n9_ := Aside0.mk (below_step (by repeat (first | (with_reducible first | exact HB.out | apply below_alloc | apply pw_below_drewN | apply below_drew1 | refine below_set ?_ GE278.out | refine below_set ?_ GE298.out) | exact HB.out)) hb); clear HO_4; clear HO_7; clear HO_299001; clear HO_299002; clear HO322; clear HO325; clear BK278; clear BK298; clear HB; have HO_4 := n0_; have HO_7 := n1_; have HO_299001 := n2_; have HO_299002 := n3_; have HO322 := n4_; have HO325 := n5_; have HO328 := n6_; have BK278 := n7_; have BK298 := n8_; have HB := n9_; clear n0_ n1_ n2_ n3_ n4_ n5_ n6_ n7_ n8_ n9_; (try clear hb); (try clear hb2); (try clear hk); (try clear hi); (try clear ho0)))
                      (try simp only [Act.put, List.setIfInBounds_toArray, List.set_cons_zero, List.set_cons_succ])
                      go_cut [87] (fun v87 wc => ∃ (kq : Nat) (x87_64 : Bool), v87 = .bool x87_64 ∧ Aside0 (laws_FnExactGroupsOf.j2 kq t317 t316 x87_64 = some r) ∧ Aside0 (kq ≤ kj41) ∧ Aside0 (Kd.S (Kd.slice 3 (Kd.int .i64)) 22 wc w.heap.size (fun k_ => some k_ ≠ ((.slice Ao27 t313.length co27) : Value).ownBlock ∧ some k_ ≠ ((.slice Ao28 t314.length co28) : Value).ownBlock ∧ N30 ≤ k_ ∧ k_ < N71 ∧ k_ < N75) (.slice Ao66 t299.length co66) t317) ∧ Aside0 (Kd.S (Kd.slice 3 (Kd.int .i64)) 22 wc w.heap.size (fun k_ => some k_ ≠ ((.slice Ao66 t299.length co66) : Value).ownBlock ∧ some k_ ≠ ((.slice Ao28 t314.length co28) : Value).ownBlock ∧ N23 ≤ k_ ∧ k_ < N30 ∧ k_ < N71 ∧ k_ < N75) (.slice Ao27 t313.length co27) t313) ∧ Aside0 (Kd.R (Kd.int .i64) 3 wc w.heap.size (fun _ => True) (.slice Ao28 t314.length co28) t314) ∧ Aside0 (wc.heap[gb278]? = some (.cells #[.int .i64 a0_0, (.slice A0_1 l0_1.length c0_1), (.slice A0_2 l0_2.length c0_2)] 34 (0, 0))) ∧ Aside0 (wc.heap[gb298]? = some (.cells #[.int .i64 t291, (.slice Ao27 t313.length co27), (.slice Ao28 t314.length co28)] 38 (0, 0))) ∧ Aside0 (Below w.heap.size w wc))
                      case first =>
                        have H := HC65.out
                        clear HC65
                        replace H := Option.bind_eq_some_iff.mp H
                        obtain ⟨t330, A760, H⟩ := H
                        replace H : (if t330 = true then (laws_FnExactGroupsOf.j2 kj41 t317 t316 (t329 != t290)) else (laws_FnExactGroupsOf.j2 kj41 t317 t316 true)) = some r := H
                        have A76 := Aside0.mk A760
                        clear A760
                        by_cases c77 : t330 = true
                        · subst c77
                          have H1 : (laws_FnExactGroupsOf.j2 kj41 t317 t316 (t329 != t290)) = some r := by rw [if_pos rfl] at H; exact H
                          clear H
                          have H := H1
                          clear H1
                          have H' := Aside0.mk H
                          clear H
                          obtain ⟨Ao78, co78, eo78⟩ := Kd.S_slice HO328.out
                          subst eo78
                          obtain ⟨Ao79, co79, eo79⟩ := Kd.S_slice HO_4.out
                          subst eo79
                          go_wp2_with (first | ((with_reducible refine gate_callee (f := 39) rfl ?_); refine goesL_ (some 81) rfl rfl Try.func39 (by kernel_rfl) rfl #[.slice Ao78 t326.length co78, .slice Ao79 t287.length co79] rfl (by (try simp only [List.map_toArray, List.map_cons, List.map_nil]); first | done | rfl | (simp only [List.length_drop, List.length_take]; rfl)) ?_; (with_reducible refine (laws_eqIntSS.calls kj41 _ _ t326 _ _ t287 true _ ?side1 ?side2 ?side3 ?side4 A76.out).mono ?_); (case side1 => repeat (first | exact (Kd.S_reads' HO328.out).2.2 | (with_reducible refine Kd.C_alloc ?_ _) | (with_reducible refine Kd.C_drewN ?_ _) | (with_reducible refine Kd.C_drew ?_))); (case side2 => exact (Kd.S_reads' HO328.out).2.1); (case side3 => repeat (first | exact (Kd.S_reads' HO_4.out).2.2 | (with_reducible refine Kd.C_alloc ?_ _) | (with_reducible refine Kd.C_drewN ?_ _) | (with_reducible refine Kd.C_drew ?_))); (case side4 => exact (Kd.S_reads' HO_4.out).2.1); rintro e w' ⟨rfl, ⟨nd, rfl⟩⟩; refine ⟨_, rfl, ?_⟩))
                          go_meet
                          case rel => exact ⟨_, ((t329 != t290)), (by first | rfl | (simp; done) | (simp [*]; done)), H', ⟨by have := HJ10.out; have := HJ41.out; first | omega | exact Nat.le_refl _⟩, ⟨by (try simp only [hl299001_41]); (try simp only [hl299002_41]); (with_reducible repeat (first | apply Kd.S_alloc | apply Kd.S_drewN | apply Kd.S_drew)); exact Kd.S_mono HO_7.out (fun _ hk => ⟨hk.1.1.1.1.1.2.1, ⟨hk.1.1.1.1.1.2.2.1, ⟨hk.1.1.1.1.1.2.2.2, ⟨hk.1.1.1.1.2, hk.1.2⟩⟩⟩⟩)⟩, ⟨by (try simp only [hl299001_41]); (try simp only [hl299002_41]); (with_reducible repeat (first | apply Kd.S_alloc | apply Kd.S_drewN | apply Kd.S_drew)); exact Kd.S_mono HO_299001.out (fun _ hk => ⟨hk.1.1.1.1.1.2.1, ⟨hk.1.1.1.1.1.2.2.1, ⟨hk.1.1.1.1.1.2.2.2.1, ⟨hk.1.1.1.1.1.2.2.2.2, ⟨hk.1.1.1.1.2, hk.1.2⟩⟩⟩⟩⟩)⟩, ⟨by (try simp only [hl299001_41]); (try simp only [hl299002_41]); (with_reducible repeat (first | apply Kd.R_alloc | apply Kd.R_drewN | apply Kd.R_drew)); exact Kd.R_mono HO_299002.out (fun _ hk => trivial)⟩, ⟨by (try simp only [hl299001_41]); (try simp only [hl299002_41]); (with_reducible repeat (first | refine blk_drewN ?_ _ | refine blk_drew ?_ | refine blk_alloc ?_ _)); exact BK278.out⟩, ⟨by (try simp only [hl299001_41]); (try simp only [hl299002_41]); (with_reducible repeat (first | refine blk_drewN ?_ _ | refine blk_drew ?_ | refine blk_alloc ?_ _)); exact BK298.out⟩, ⟨by repeat (first | (with_reducible first | exact HB.out | apply below_alloc | apply pw_below_drewN | apply below_drew1 | refine below_set ?_ GE278.out | refine below_set ?_ GE298.out) | exact HB.out)⟩⟩
                        · replace c77 := Bool.eq_false_iff.mpr c77
                          subst c77
                          have H1 : (laws_FnExactGroupsOf.j2 kj41 t317 t316 true) = some r := by rw [if_neg (show ¬ (false = true) by decide)] at H; exact H
                          clear H
                          have H := H1
                          clear H1
                          have H' := Aside0.mk H
                          clear H
                          obtain ⟨Ao80, co80, eo80⟩ := Kd.S_slice HO328.out
                          subst eo80
                          obtain ⟨Ao81, co81, eo81⟩ := Kd.S_slice HO_4.out
                          subst eo81
                          go_wp2_with (first | ((with_reducible refine gate_callee (f := 39) rfl ?_); refine goesL_ (some 81) rfl rfl Try.func39 (by kernel_rfl) rfl #[.slice Ao80 t326.length co80, .slice Ao81 t287.length co81] rfl (by (try simp only [List.map_toArray, List.map_cons, List.map_nil]); first | done | rfl | (simp only [List.length_drop, List.length_take]; rfl)) ?_; (with_reducible refine (laws_eqIntSS.calls kj41 _ _ t326 _ _ t287 false _ ?side1 ?side2 ?side3 ?side4 A76.out).mono ?_); (case side1 => repeat (first | exact (Kd.S_reads' HO328.out).2.2 | (with_reducible refine Kd.C_alloc ?_ _) | (with_reducible refine Kd.C_drewN ?_ _) | (with_reducible refine Kd.C_drew ?_))); (case side2 => exact (Kd.S_reads' HO328.out).2.1); (case side3 => repeat (first | exact (Kd.S_reads' HO_4.out).2.2 | (with_reducible refine Kd.C_alloc ?_ _) | (with_reducible refine Kd.C_drewN ?_ _) | (with_reducible refine Kd.C_drew ?_))); (case side4 => exact (Kd.S_reads' HO_4.out).2.1); rintro e w' ⟨rfl, ⟨nd, rfl⟩⟩; refine ⟨_, rfl, ?_⟩))
                          go_meet
                          case rel => exact ⟨_, (true), (by first | rfl | (simp; done) | (simp [*]; done)), H', ⟨by have := HJ10.out; have := HJ41.out; first | omega | exact Nat.le_refl _⟩, ⟨by (try simp only [hl299001_41]); (try simp only [hl299002_41]); (with_reducible repeat (first | apply Kd.S_alloc | apply Kd.S_drewN | apply Kd.S_drew)); exact Kd.S_mono HO_7.out (fun _ hk => ⟨hk.1.1.1.1.1.2.1, ⟨hk.1.1.1.1.1.2.2.1, ⟨hk.1.1.1.1.1.2.2.2, ⟨hk.1.1.1.1.2, hk.1.2⟩⟩⟩⟩)⟩, ⟨by (try simp only [hl299001_41]); (try simp only [hl299002_41]); (with_reducible repeat (first | apply Kd.S_alloc | apply Kd.S_drewN | apply Kd.S_drew)); exact Kd.S_mono HO_299001.out (fun _ hk => ⟨hk.1.1.1.1.1.2.1, ⟨hk.1.1.1.1.1.2.2.1, ⟨hk.1.1.1.1.1.2.2.2.1, ⟨hk.1.1.1.1.1.2.2.2.2, ⟨hk.1.1.1.1.2, hk.1.2⟩⟩⟩⟩⟩)⟩, ⟨by (try simp only [hl299001_41]); (try simp only [hl299002_41]); (with_reducible repeat (first | apply Kd.R_alloc | apply Kd.R_drewN | apply Kd.R_drew)); exact Kd.R_mono HO_299002.out (fun _ hk => trivial)⟩, ⟨by (try simp only [hl299001_41]); (try simp only [hl299002_41]); (with_reducible repeat (first | refine blk_drewN ?_ _ | refine blk_drew ?_ | refine blk_alloc ?_ _)); exact BK278.out⟩, ⟨by (try simp only [hl299001_41]); (try simp only [hl299002_41]); (with_reducible repeat (first | refine blk_drewN ?_ _ | refine blk_drew ?_ | refine blk_alloc ?_ _)); exact BK298.out⟩, ⟨by repeat (first | (with_reducible first | exact HB.out | apply below_alloc | apply pw_below_drewN | apply below_drew1 | refine below_set ?_ GE278.out | refine below_set ?_ GE298.out) | exact HB.out)⟩⟩
                      case rest =>
                        clear HC65
                        try clear c2
                        try clear p2
                        try clear c3
                        try clear c3b0
                        try clear c4
                        try clear c5
                        try clear c6
                        try clear c7
                        try clear c20
                        try clear c22
                        try clear c25
                        try clear c26
                        try clear c32
                        try clear c37
                        try clear c38
                        try clear c39
                        try clear c40
                        try clear c41
                        try clear c48
                        try clear c51
                        try clear c51b0
                        try clear c53
                        try clear c58
                        try clear c61
                        try clear c61b0
                        try clear c62
                        try clear c62b0
                        try clear c62b1
                        try clear c68
                        try clear c77
                        try clear hcz13_0
                        try clear hcz13_1
                        try clear hcz13_2
                        try clear hcz15_0
                        try clear hcz15_1
                        try clear hcz15_2
                        try clear hcz21_0
                        try clear hcz21_1
                        try clear hcz21_2
                        try clear hcz26_0
                        try clear hcz26_1
                        try clear hcz26_2
                        try clear hcz49_0
                        try clear hcz49_1
                        try clear hcz49_2
                        try clear hcz5_0
                        try clear hcz5_1
                        try clear hcz5_2
                        try clear hcz69_0
                        try clear hcz69_1
                        try clear hcz69_2
                        try clear hfz13_0
                        try clear hfz13_1
                        try clear hfz13_2
                        try clear hfz15_0
                        try clear hfz15_1
                        try clear hfz15_2
                        try clear hfz21_0
                        try clear hfz21_1
                        try clear hfz21_2
                        try clear hfz26_0
                        try clear hfz26_1
                        try clear hfz26_2
                        try clear hfz49_0
                        try clear hfz49_1
                        try clear hfz49_2
                        try clear hfz5_0
                        try clear hfz5_1
                        try clear hfz5_2
                        try clear hfz69_0
                        try clear hfz69_1
                        try clear hfz69_2
                        try clear p2
                        obtain ⟨kq, x87_64, rfl, HA, HJ64, HO_7, HO_299001, HO_299002, BK278, BK298, HB⟩ := hcut
                        have hl7_64 := (Kd.S_reads' HO_7.out).1
                        rw [hl7_64] at HO_7
                        (try simp only [hl7_64])
                        (try simp only [hl7_64] at BK278)
                        (try simp only [hl7_64] at BK298)
                        (try simp only [hl7_64] at HO_299001)
                        (try simp only [hl7_64] at HO_299002)
                        cases kq with
                        | zero => exact absurd HA.out (by simp [laws_FnExactGroupsOf.j2])
                        | succ kj64 =>
                          have H := HA.out
                          clear HA
                          simp only [laws_FnExactGroupsOf.j2] at H
                          by_cases c82 : x87_64 = true
                          · subst c82
                            have H1 : (some false) = some r := by rw [if_pos rfl] at H; exact H
                            clear H
                            have H := H1
                            clear H1
                            exact absurd (H.trans (congrArg some hr_)) (by simp)
                          · replace c82 := Bool.eq_false_iff.mpr c82
                            subst c82
                            have H1 : ((laws_heldIntSS.f kj64 t317 1).bind fun t331 => (if t331 < 0 then (some false) else (if t331 = t316 then (some true) else (some false)))) = some r := by rw [if_neg (show ¬ (false = true) by decide)] at H; exact H
                            clear H
                            have H := H1
                            clear H1
                            replace H := Option.bind_eq_some_iff.mp H
                            obtain ⟨t331, A830, H⟩ := H
                            replace H : (if t331 < 0 then (some false) else (if t331 = t316 then (some true) else (some false))) = some r := H
                            have A83 := Aside0.mk A830
                            clear A830
                            by_cases c84 : t331 < 0
                            · rw [if_pos c84] at H
                              have c84b0 : decide (t331 < 0) = true := decide_eq_true c84
                              clear c84
                              exact absurd (H.trans (congrArg some hr_)) (by simp)
                            · rw [if_neg c84] at H
                              have c84b0 : decide (t331 < 0) = false := decide_eq_false c84
                              clear c84
                              by_cases c85 : t331 = t316
                              · rw [if_pos c85] at H
                                have c85b0 : (t331 == t316) = true := beq_iff_eq.mpr c85
                                have c85b1 : (t331 != t316) = false := bne_eq_false_iff_eq.mpr c85
                                clear c85
                                obtain rfl := Option.some.inj H
                                go_wp2_with (first | ((with_reducible refine gate_callee (f := 41) rfl ?_); refine goesL_ (some 90) rfl rfl Try.func41 (by kernel_rfl) rfl #[.slice Ao66 t317.length co66, .int .i64 1] rfl (by (try simp only [List.map_toArray, List.map_cons, List.map_nil]); first | done | rfl | (simp only [List.length_drop, List.length_take]; rfl)) ?_; (with_reducible refine (laws_heldIntSS.calls kj64 _ _ t317 1 t331 _ ?side1 ?side2 A83.out).mono ?_); (case side1 => repeat (first | exact (Kd.S_reads' HO_7.out).2.2 | (with_reducible refine Kd.C_alloc ?_ _) | (with_reducible refine Kd.C_drewN ?_ _) | (with_reducible refine Kd.C_drew ?_))); (case side2 => exact (Kd.S_reads' HO_7.out).2.1); rintro e w' ⟨rfl, ⟨nd, rfl⟩⟩; refine ⟨_, rfl, ?_⟩))
                                go_ret
                                exact ⟨by first | rfl | (simp [errW_none, errW_some] <;> rfl) | (simp [*, errW_none, errW_some] <;> rfl), by repeat (first | (with_reducible first | exact HB.out | apply below_alloc | apply pw_below_drewN | apply below_drew1 | refine below_set ?_ GE278.out | refine below_set ?_ GE298.out) | exact HB.out)⟩
                              · rw [if_neg c85] at H
                                have c85b0 : (t331 == t316) = false := beq_eq_false_iff_ne.mpr c85
                                have c85b1 : (t331 != t316) = true := bne_iff_ne.mpr c85
                                exact absurd (H.trans (congrArg some hr_)) (by simp)
                    · rw [if_neg c62] at H
                      have c62b0 : (t318 == t316) = false := beq_eq_false_iff_ne.mpr c62
                      have c62b1 : (t318 != t316) = true := bne_iff_ne.mpr c62
                      exact absurd (H.trans (congrArg some hr_)) (by simp)
          · replace c40 := Bool.eq_false_iff.mpr c40
            subst c40
            have H1 : (some false) = some r := by rw [if_neg (show ¬ (false = true) by decide)] at H; exact H
            clear H
            have H := H1
            clear H1
            exact absurd (H.trans (congrArg some hr_)) (by simp)

/-- THE ONE PURE STATEMENT of laws_FnExactGroupsOf. -/
def laws_FnExactGroupsOf.Pure : Prop := ∀ (a0_0 : Int) (l0_1 : List (List Int)) (l0_2 : List Int), W34 (⟨a0_0, l0_1, l0_2⟩ : S34) → ∃ k, laws_FnExactGroupsOf.f k a0_0 l0_1 l0_2 = some true
theorem laws_FnExactGroupsOf.walk (P : laws_FnExactGroupsOf.Pure) (a0_0 : Int) (A0_1 : Option Addr) (c0_1 : Nat) (l0_1 : List (List Int)) (A0_2 : Option Addr) (c0_2 : Nat) (l0_2 : List Int) (w : World) (hr0_1 : Kd.C (Kd.slice 3 (Kd.int .i64)) w A0_1 l0_1.length l0_1) (hc0_1 : l0_1.length ≤ c0_1) (hr0_2 : Kd.C (Kd.int .i64) w A0_2 l0_2.length l0_2) (hc0_2 : l0_2.length ≤ c0_2) (g0 : W34 (⟨a0_0, l0_1, l0_2⟩ : S34)) :
    Calls Try.prog 7 #[.agg #[.int .i64 a0_0, .slice A0_1 l0_1.length c0_1, .slice A0_2 l0_2.length c0_2]] w fun e w' => e = .returned (.bool true) ∧ Below w.heap.size w w' := by
  obtain ⟨k, h⟩ := P a0_0 l0_1 l0_2 g0
  refine (laws_FnExactGroupsOf.calls k a0_0 _ _ l0_1 _ _ l0_2 true w hr0_1 hc0_1 hr0_2 hc0_2 h rfl).mono ?_
  rintro e w' ⟨rfl, hd⟩
  exact ⟨rfl, hd⟩

end Go.Proofs.Ytpibdgknmjjolaa.QFnExactGroupsOf
