-- printed by this session's own program (wip/tools/pp.py: the kit's print.py with changes); Lean checks it
import Derived.Test.YtihekdlcfohkkaaGreatDoorQFnExactStepNetx0
import Derived.Test.YtihekdlcfohkkaaGreatDoorQFnExactStepNetx1
import Derived.Test.YtihekdlcfohkkaaGreatDoorQFnExactStepNetx3
namespace Go.Proofs.YtihekdlcfohkkaaGreatDoor.QFnExactStepNet
open Go.RowKit Go.Proofs.YtihekdlcfohkkaaGreatDoorW.PrintWords Go.Proofs.YtihekdlcfohkkaaGreatDoorW.PrintLast Go.Proofs.YtihekdlcfohkkaaGreatDoorW.PrintMore
attribute [local go_sem] max2_int min2_int max_two min_two max_three min_three max_four min_four strLss strGtr strLeq strGeq   -- for this text's walks alone
set_option linter.unusedVariables false
set_option linter.unusedSimpArgs false

/-! ### spec_GoodNet: function 42 -/
mutual
def spec_GoodNet.j0 : Nat → Bool → List Int → List (List ByteArray) → List (List ByteArray) → List (List ByteArray) → Int → Option (Bool)
  | 0, _, _, _, _, _, _ => none
  | k + 1, x49, x163000, x163001, x163002, x163003, x163004 => if x49 = true then (some false) else (spec_GoodNet.l0 k x163001 (x163001.length : Int) 0 x163000 x163001 x163002 x163003 x163004)
def spec_GoodNet.l0 : Nat → List (List ByteArray) → Int → Int → List Int → List (List ByteArray) → List (List ByteArray) → List (List ByteArray) → Int → Option (Bool)
  | 0, _, _, _, _, _, _, _, _ => none
  | k + 1, x51, x52, x53, x163000, x163001, x163002, x163003, x163004 => if x53 < x52 then (if 0 ≤ x53 then (if x53 < (x51.length : Int) then ((spec_l17Onions.f k (rd_L2 x51 x53)).bind fun t167 => (if t167 = true then (if x53 < (x163002.length : Int) then ((spec_l17Onions.f k (rd_L2 x163002 x53)).bind fun t169 => (spec_GoodNet.j2 k x53 (rd_L2 x51 x53) x51 x52 x53 (!t169) x163000 x163001 x163002 x163003 x163004)) else (none)) else (spec_GoodNet.j2 k x53 (rd_L2 x51 x53) x51 x52 x53 true x163000 x163001 x163002 x163003 x163004))) else (none)) else (none)) else (spec_GoodNet.l2 k x163003 (x163003.length : Int) 0)
def spec_GoodNet.j2 : Nat → Int → List ByteArray → List (List ByteArray) → Int → Int → Bool → List Int → List (List ByteArray) → List (List ByteArray) → List (List ByteArray) → Int → Option (Bool)
  | 0, _, _, _, _, _, _, _, _, _, _, _ => none
  | k + 1, x4, x5, x51, x52, x53, x69, x163000, x163001, x163002, x163003, x163004 => if x69 = true then (some false) else (spec_GoodNet.l1 k x4 x51 x52 x53 x5 (x5.length : Int) 0 x163000 x163001 x163002 x163003 x163004)
def spec_GoodNet.l1 : Nat → Int → List (List ByteArray) → Int → Int → List ByteArray → Int → Int → List Int → List (List ByteArray) → List (List ByteArray) → List (List ByteArray) → Int → Option (Bool)
  | 0, _, _, _, _, _, _, _, _, _, _, _, _ => none
  | k + 1, x4, x51, x52, x53, x70, x71, x72, x163000, x163001, x163002, x163003, x163004 => if x72 < x71 then (if 0 ≤ x72 then (if x72 < (x70.length : Int) then (if 0 ≤ x4 then (if x4 < (x163002.length : Int) then ((spec_l17Has.f k (rd_L2 x163002 x4) (rdOf ByteArray.empty x70 x72)).bind fun t172 => (if t172 = true then (spec_GoodNet.l1 k x4 x51 x52 x53 x70 x71 (wrap64 (x72 + 1)) x163000 x163001 x163002 x163003 x163004) else (some false))) else (none)) else (none)) else (none)) else (none)) else (spec_GoodNet.l0 k x51 x52 (wrap64 (x53 + 1)) x163000 x163001 x163002 x163003 x163004)
def spec_GoodNet.l2 : Nat → List (List ByteArray) → Int → Int → Option (Bool)
  | 0, _, _, _ => none
  | k + 1, x87, x88, x89 => if x89 < x88 then (if 0 ≤ x89 then (if x89 < (x87.length : Int) then (spec_GoodNet.l3 k (rd_L2 x87 x89) x87 x88 x89 (rd_L2 x87 x89) ((rd_L2 x87 x89).length : Int) 0) else (none)) else (none)) else (some true)
def spec_GoodNet.l3 : Nat → List ByteArray → List (List ByteArray) → Int → Int → List ByteArray → Int → Int → Option (Bool)
  | 0, _, _, _, _, _, _, _ => none
  | k + 1, x9, x87, x88, x89, x93, x94, x95 => if x95 < x94 then (if 0 ≤ x95 then (if x95 < (x93.length : Int) then ((spec_l1In.f ((rdOf ByteArray.empty x93 x95).size : Int) 1 15).bind fun t175 => (if t175 = true then (spec_GoodNet.l3 k x9 x87 x88 x89 x93 x94 (wrap64 (x95 + 1))) else (some false))) else (none)) else (none)) else (if (x9.length : Int) > 60 then (some false) else (spec_GoodNet.l2 k x87 x88 (wrap64 (x89 + 1))))
end
def spec_GoodNet.f (k : Nat) (l0_0 : List Int) (l0_1 : List (List ByteArray)) (l0_2 : List (List ByteArray)) (l0_3 : List (List ByteArray)) (a0_4 : Int) : Option (Bool) := (spec_l1In.f (l0_0.length : Int) 1 4).bind fun t163 => (if t163 = true then ((spec_l1All.f k l0_0 0 65535).bind fun t164 => (if t164 = true then (if (l0_1.length : Int) = (l0_0.length : Int) then (if (l0_2.length : Int) = (l0_0.length : Int) then (if (l0_3.length : Int) = 4 then ((spec_l1In.f a0_4 0 60).bind fun t165 => (spec_GoodNet.j0 k (!t165) l0_0 l0_1 l0_2 l0_3 a0_4)) else (spec_GoodNet.j0 k true l0_0 l0_1 l0_2 l0_3 a0_4)) else (spec_GoodNet.j0 k true l0_0 l0_1 l0_2 l0_3 a0_4)) else (spec_GoodNet.j0 k true l0_0 l0_1 l0_2 l0_3 a0_4)) else (spec_GoodNet.j0 k true l0_0 l0_1 l0_2 l0_3 a0_4))) else (spec_GoodNet.j0 k true l0_0 l0_1 l0_2 l0_3 a0_4))
theorem spec_GoodNet.mono_l : ∀ k, (∀ y0 y1 y2 y3 y4 y5, LeO (spec_GoodNet.j0 k y0 y1 y2 y3 y4 y5) (spec_GoodNet.j0 (k + 1) y0 y1 y2 y3 y4 y5)) ∧ (∀ y0 y1 y2 y3 y4 y5 y6 y7, LeO (spec_GoodNet.l0 k y0 y1 y2 y3 y4 y5 y6 y7) (spec_GoodNet.l0 (k + 1) y0 y1 y2 y3 y4 y5 y6 y7)) ∧ (∀ y0 y1 y2 y3 y4 y5 y6 y7 y8 y9 y10, LeO (spec_GoodNet.j2 k y0 y1 y2 y3 y4 y5 y6 y7 y8 y9 y10) (spec_GoodNet.j2 (k + 1) y0 y1 y2 y3 y4 y5 y6 y7 y8 y9 y10)) ∧ (∀ y0 y1 y2 y3 y4 y5 y6 y7 y8 y9 y10 y11, LeO (spec_GoodNet.l1 k y0 y1 y2 y3 y4 y5 y6 y7 y8 y9 y10 y11) (spec_GoodNet.l1 (k + 1) y0 y1 y2 y3 y4 y5 y6 y7 y8 y9 y10 y11)) ∧ (∀ y0 y1 y2, LeO (spec_GoodNet.l2 k y0 y1 y2) (spec_GoodNet.l2 (k + 1) y0 y1 y2)) ∧ (∀ y0 y1 y2 y3 y4 y5 y6, LeO (spec_GoodNet.l3 k y0 y1 y2 y3 y4 y5 y6) (spec_GoodNet.l3 (k + 1) y0 y1 y2 y3 y4 y5 y6))
 | 0 => ⟨fun _ _ _ _ _ _ r h => by simp [spec_GoodNet.j0] at h, fun _ _ _ _ _ _ _ _ r h => by simp [spec_GoodNet.l0] at h, fun _ _ _ _ _ _ _ _ _ _ _ r h => by simp [spec_GoodNet.j2] at h, fun _ _ _ _ _ _ _ _ _ _ _ _ r h => by simp [spec_GoodNet.l1] at h, fun _ _ _ r h => by simp [spec_GoodNet.l2] at h, fun _ _ _ _ _ _ _ r h => by simp [spec_GoodNet.l3] at h⟩
 | k + 1 => by
  obtain ⟨ih0, ih1, ih2, ih3, ih4, ih5⟩ := spec_GoodNet.mono_l k
  refine ⟨?_, ?_, ?_, ?_, ?_, ?_⟩
  ·intro y0 y1 y2 y3 y4 y5
   unfold spec_GoodNet.j0
   repeat' (first | (with_reducible first | exact ih0 _ _ _ _ _ _ | exact ih1 _ _ _ _ _ _ _ _ | exact ih2 _ _ _ _ _ _ _ _ _ _ _ | exact ih3 _ _ _ _ _ _ _ _ _ _ _ _ | exact ih4 _ _ _ | exact ih5 _ _ _ _ _ _ _ | exact spec_l17Has.mono _ _ _ | exact spec_l17Onions.mono _ _ | exact spec_l1All.mono _ _ _ _ | exact LeO.refl _ | exact LeO.none _ | refine LeO.ite ?_ ?_ | refine LeO.bind ?_ (fun _ => ?_)) | exact ih0 _ _ _ _ _ _ | exact ih1 _ _ _ _ _ _ _ _ | exact ih2 _ _ _ _ _ _ _ _ _ _ _ | exact ih3 _ _ _ _ _ _ _ _ _ _ _ _ | exact ih4 _ _ _ | exact ih5 _ _ _ _ _ _ _ | exact spec_l17Has.mono _ _ _ | exact spec_l17Onions.mono _ _ | exact spec_l1All.mono _ _ _ _ | exact LeO.none _ | refine LeO.ite ?_ ?_ | refine LeO.bind ?_ (fun _ => ?_))
  ·intro y0 y1 y2 y3 y4 y5 y6 y7
   unfold spec_GoodNet.l0
   repeat' (first | (with_reducible first | exact ih0 _ _ _ _ _ _ | exact ih1 _ _ _ _ _ _ _ _ | exact ih2 _ _ _ _ _ _ _ _ _ _ _ | exact ih3 _ _ _ _ _ _ _ _ _ _ _ _ | exact ih4 _ _ _ | exact ih5 _ _ _ _ _ _ _ | exact spec_l17Has.mono _ _ _ | exact spec_l17Onions.mono _ _ | exact spec_l1All.mono _ _ _ _ | exact LeO.refl _ | exact LeO.none _ | refine LeO.ite ?_ ?_ | refine LeO.bind ?_ (fun _ => ?_)) | exact ih0 _ _ _ _ _ _ | exact ih1 _ _ _ _ _ _ _ _ | exact ih2 _ _ _ _ _ _ _ _ _ _ _ | exact ih3 _ _ _ _ _ _ _ _ _ _ _ _ | exact ih4 _ _ _ | exact ih5 _ _ _ _ _ _ _ | exact spec_l17Has.mono _ _ _ | exact spec_l17Onions.mono _ _ | exact spec_l1All.mono _ _ _ _ | exact LeO.none _ | refine LeO.ite ?_ ?_ | refine LeO.bind ?_ (fun _ => ?_))
  ·intro y0 y1 y2 y3 y4 y5 y6 y7 y8 y9 y10
   unfold spec_GoodNet.j2
   repeat' (first | (with_reducible first | exact ih0 _ _ _ _ _ _ | exact ih1 _ _ _ _ _ _ _ _ | exact ih2 _ _ _ _ _ _ _ _ _ _ _ | exact ih3 _ _ _ _ _ _ _ _ _ _ _ _ | exact ih4 _ _ _ | exact ih5 _ _ _ _ _ _ _ | exact spec_l17Has.mono _ _ _ | exact spec_l17Onions.mono _ _ | exact spec_l1All.mono _ _ _ _ | exact LeO.refl _ | exact LeO.none _ | refine LeO.ite ?_ ?_ | refine LeO.bind ?_ (fun _ => ?_)) | exact ih0 _ _ _ _ _ _ | exact ih1 _ _ _ _ _ _ _ _ | exact ih2 _ _ _ _ _ _ _ _ _ _ _ | exact ih3 _ _ _ _ _ _ _ _ _ _ _ _ | exact ih4 _ _ _ | exact ih5 _ _ _ _ _ _ _ | exact spec_l17Has.mono _ _ _ | exact spec_l17Onions.mono _ _ | exact spec_l1All.mono _ _ _ _ | exact LeO.none _ | refine LeO.ite ?_ ?_ | refine LeO.bind ?_ (fun _ => ?_))
  ·intro y0 y1 y2 y3 y4 y5 y6 y7 y8 y9 y10 y11
   unfold spec_GoodNet.l1
   repeat' (first | (with_reducible first | exact ih0 _ _ _ _ _ _ | exact ih1 _ _ _ _ _ _ _ _ | exact ih2 _ _ _ _ _ _ _ _ _ _ _ | exact ih3 _ _ _ _ _ _ _ _ _ _ _ _ | exact ih4 _ _ _ | exact ih5 _ _ _ _ _ _ _ | exact spec_l17Has.mono _ _ _ | exact spec_l17Onions.mono _ _ | exact spec_l1All.mono _ _ _ _ | exact LeO.refl _ | exact LeO.none _ | refine LeO.ite ?_ ?_ | refine LeO.bind ?_ (fun _ => ?_)) | exact ih0 _ _ _ _ _ _ | exact ih1 _ _ _ _ _ _ _ _ | exact ih2 _ _ _ _ _ _ _ _ _ _ _ | exact ih3 _ _ _ _ _ _ _ _ _ _ _ _ | exact ih4 _ _ _ | exact ih5 _ _ _ _ _ _ _ | exact spec_l17Has.mono _ _ _ | exact spec_l17Onions.mono _ _ | exact spec_l1All.mono _ _ _ _ | exact LeO.none _ | refine LeO.ite ?_ ?_ | refine LeO.bind ?_ (fun _ => ?_))
  ·intro y0 y1 y2
   unfold spec_GoodNet.l2
   repeat' (first | (with_reducible first | exact ih0 _ _ _ _ _ _ | exact ih1 _ _ _ _ _ _ _ _ | exact ih2 _ _ _ _ _ _ _ _ _ _ _ | exact ih3 _ _ _ _ _ _ _ _ _ _ _ _ | exact ih4 _ _ _ | exact ih5 _ _ _ _ _ _ _ | exact spec_l17Has.mono _ _ _ | exact spec_l17Onions.mono _ _ | exact spec_l1All.mono _ _ _ _ | exact LeO.refl _ | exact LeO.none _ | refine LeO.ite ?_ ?_ | refine LeO.bind ?_ (fun _ => ?_)) | exact ih0 _ _ _ _ _ _ | exact ih1 _ _ _ _ _ _ _ _ | exact ih2 _ _ _ _ _ _ _ _ _ _ _ | exact ih3 _ _ _ _ _ _ _ _ _ _ _ _ | exact ih4 _ _ _ | exact ih5 _ _ _ _ _ _ _ | exact spec_l17Has.mono _ _ _ | exact spec_l17Onions.mono _ _ | exact spec_l1All.mono _ _ _ _ | exact LeO.none _ | refine LeO.ite ?_ ?_ | refine LeO.bind ?_ (fun _ => ?_))
  ·intro y0 y1 y2 y3 y4 y5 y6
   unfold spec_GoodNet.l3
   repeat' (first | (with_reducible first | exact ih0 _ _ _ _ _ _ | exact ih1 _ _ _ _ _ _ _ _ | exact ih2 _ _ _ _ _ _ _ _ _ _ _ | exact ih3 _ _ _ _ _ _ _ _ _ _ _ _ | exact ih4 _ _ _ | exact ih5 _ _ _ _ _ _ _ | exact spec_l17Has.mono _ _ _ | exact spec_l17Onions.mono _ _ | exact spec_l1All.mono _ _ _ _ | exact LeO.refl _ | exact LeO.none _ | refine LeO.ite ?_ ?_ | refine LeO.bind ?_ (fun _ => ?_)) | exact ih0 _ _ _ _ _ _ | exact ih1 _ _ _ _ _ _ _ _ | exact ih2 _ _ _ _ _ _ _ _ _ _ _ | exact ih3 _ _ _ _ _ _ _ _ _ _ _ _ | exact ih4 _ _ _ | exact ih5 _ _ _ _ _ _ _ | exact spec_l17Has.mono _ _ _ | exact spec_l17Onions.mono _ _ | exact spec_l1All.mono _ _ _ _ | exact LeO.none _ | refine LeO.ite ?_ ?_ | refine LeO.bind ?_ (fun _ => ?_))
theorem spec_GoodNet.mono : ∀ a0 a1 a2 a3 a4 k, LeO (spec_GoodNet.f k a0 a1 a2 a3 a4) (spec_GoodNet.f (k + 1) a0 a1 a2 a3 a4) := by
 intro a0 a1 a2 a3 a4 k
 obtain ⟨ih0, ih1, ih2, ih3, ih4, ih5⟩ := spec_GoodNet.mono_l k
 unfold spec_GoodNet.f
 repeat' (first | (with_reducible first | exact ih0 _ _ _ _ _ _ | exact ih1 _ _ _ _ _ _ _ _ | exact ih2 _ _ _ _ _ _ _ _ _ _ _ | exact ih3 _ _ _ _ _ _ _ _ _ _ _ _ | exact ih4 _ _ _ | exact ih5 _ _ _ _ _ _ _ | exact spec_l17Has.mono _ _ _ | exact spec_l17Onions.mono _ _ | exact spec_l1All.mono _ _ _ _ | exact LeO.refl _ | exact LeO.none _ | refine LeO.ite ?_ ?_ | refine LeO.bind ?_ (fun _ => ?_)) | exact ih0 _ _ _ _ _ _ | exact ih1 _ _ _ _ _ _ _ _ | exact ih2 _ _ _ _ _ _ _ _ _ _ _ | exact ih3 _ _ _ _ _ _ _ _ _ _ _ _ | exact ih4 _ _ _ | exact ih5 _ _ _ _ _ _ _ | exact spec_l17Has.mono _ _ _ | exact spec_l17Onions.mono _ _ | exact spec_l1All.mono _ _ _ _ | exact LeO.none _ | refine LeO.ite ?_ ?_ | refine LeO.bind ?_ (fun _ => ?_))
set_option maxHeartbeats 8000000 in
set_option maxRecDepth 100000 in
theorem spec_GoodNet.calls (k : Nat) (A0_0 : Option Addr) (c0_0 : Nat) (l0_0 : List Int) (A0_1 : Option Addr) (c0_1 : Nat) (l0_1 : List (List ByteArray)) (A0_2 : Option Addr) (c0_2 : Nat) (l0_2 : List (List ByteArray)) (A0_3 : Option Addr) (c0_3 : Nat) (l0_3 : List (List ByteArray)) (a0_4 : Int) (r : Bool) (w : World) (hr0_0 : Kd.C (Kd.int .i64) w A0_0 l0_0.length l0_0) (hc0_0 : l0_0.length ≤ c0_0) (hr0_1 : Kd.C (Kd.slice 9 Kd.string) w A0_1 l0_1.length l0_1) (hc0_1 : l0_1.length ≤ c0_1) (hr0_2 : Kd.C (Kd.slice 9 Kd.string) w A0_2 l0_2.length l0_2) (hc0_2 : l0_2.length ≤ c0_2) (hr0_3 : Kd.C (Kd.slice 9 Kd.string) w A0_3 l0_3.length l0_3) (hc0_3 : l0_3.length ≤ c0_3) (h : spec_GoodNet.f k l0_0 l0_1 l0_2 l0_3 a0_4 = some r) :
  Calls Tryz.prog 42 #[.agg #[.slice A0_0 l0_0.length c0_0, .slice A0_1 l0_1.length c0_1, .slice A0_2 l0_2.length c0_2, .slice A0_3 l0_3.length c0_3, .int .i64 a0_4]] w fun e w' => e = .returned (.bool r) ∧ Below w.heap.size w w' := by
 have hu27 := Tryz.underlying27
 have HR0_0 := Aside0.mk hr0_0; have HC0_0 := Aside0.mk hc0_0; clear hr0_0 hc0_0; have HR0_1 := Aside0.mk hr0_1; have HC0_1 := Aside0.mk hc0_1; clear hr0_1 hc0_1; have HR0_2 := Aside0.mk hr0_2; have HC0_2 := Aside0.mk hc0_2; clear hr0_2 hc0_2; have HR0_3 := Aside0.mk hr0_3; have HC0_3 := Aside0.mk hc0_3; clear hr0_3 hc0_3
 have HB := Aside0.mk (Below.refl w.heap.size w)
 have H : ((spec_l1In.f (l0_0.length : Int) 1 4).bind fun t163 => (if t163 = true then ((spec_l1All.f k l0_0 0 65535).bind fun t164 => (if t164 = true then (if (l0_1.length : Int) = (l0_0.length : Int) then (if (l0_2.length : Int) = (l0_0.length : Int) then (if (l0_3.length : Int) = 4 then ((spec_l1In.f a0_4 0 60).bind fun t165 => (spec_GoodNet.j0 k (!t165) l0_0 l0_1 l0_2 l0_3 a0_4)) else (spec_GoodNet.j0 k true l0_0 l0_1 l0_2 l0_3 a0_4)) else (spec_GoodNet.j0 k true l0_0 l0_1 l0_2 l0_3 a0_4)) else (spec_GoodNet.j0 k true l0_0 l0_1 l0_2 l0_3 a0_4)) else (spec_GoodNet.j0 k true l0_0 l0_1 l0_2 l0_3 a0_4))) else (spec_GoodNet.j0 k true l0_0 l0_1 l0_2 l0_3 a0_4))) = some r := h
 clear h; have HC2 := Aside0.mk H; clear H
 go_enter Tryz.func42, Tryz.ntmps42
 go_upto_region 2 with (first | ((with_reducible refine gate_dst (N := 1) rfl ?_); (try (refine gate_guard (by rfl) ?_; dsimp only)); refine boxev 1 #[.slice A0_0 l0_0.length c0_0, .slice A0_1 l0_1.length c0_1, .slice A0_2 l0_2.length c0_2, .slice A0_3 l0_3.length c0_3, .int .i64 a0_4] 27 ?_; intro gb162 hg w3 hbox hb; have BK162 := ak (hbox); have GW162 := ak (hgl hg (belowd HB)); have GE162 := ak (hgl hg (belowd HB)); replace HB := ak (below_step (belowd HB) hb); clear hb hbox hg; obtain ⟨hcz4_0, hcz4_1, hcz4_2, hcz4_3, hcz4_4, hfz4_0, hfz4_1, hfz4_2, hfz4_3, hfz4_4⟩ := box5 BK162))
 (try simp only [Act.put, List.setIfInBounds_toArray, List.set_cons_zero, List.set_cons_succ])
 go_cut [49] (fun v49 wc => ∃ (kq : Nat) (x49_1 : Bool), v49 = .bool x49_1 ∧ Aside0 (spec_GoodNet.j0 kq x49_1 l0_0 l0_1 l0_2 l0_3 a0_4 = some r) ∧ Aside0 (kq ≤ k) ∧ Aside0 (wc.heap[gb162]? = some (.cells #[(.slice A0_0 l0_0.length c0_0), (.slice A0_1 l0_1.length c0_1), (.slice A0_2 l0_2.length c0_2), (.slice A0_3 l0_3.length c0_3), .int .i64 a0_4] 27 (0, 0))) ∧ Aside0 (Below w.heap.size w wc))
 case first =>
  have H := HC2.out; clear HC2; replace H := bS H; obtain ⟨t163, A5, H⟩ := H
  replace H : (if t163 = true then ((spec_l1All.f k l0_0 0 65535).bind fun t164 => (if t164 = true then (if (l0_1.length : Int) = (l0_0.length : Int) then (if (l0_2.length : Int) = (l0_0.length : Int) then (if (l0_3.length : Int) = 4 then ((spec_l1In.f a0_4 0 60).bind fun t165 => (spec_GoodNet.j0 k (!t165) l0_0 l0_1 l0_2 l0_3 a0_4)) else (spec_GoodNet.j0 k true l0_0 l0_1 l0_2 l0_3 a0_4)) else (spec_GoodNet.j0 k true l0_0 l0_1 l0_2 l0_3 a0_4)) else (spec_GoodNet.j0 k true l0_0 l0_1 l0_2 l0_3 a0_4)) else (spec_GoodNet.j0 k true l0_0 l0_1 l0_2 l0_3 a0_4))) else (spec_GoodNet.j0 k true l0_0 l0_1 l0_2 l0_3 a0_4)) = some r := H
  by_cases c6 : t163 = true
  ·subst c6
   have H1 : ((spec_l1All.f k l0_0 0 65535).bind fun t164 => (if t164 = true then (if (l0_1.length : Int) = (l0_0.length : Int) then (if (l0_2.length : Int) = (l0_0.length : Int) then (if (l0_3.length : Int) = 4 then ((spec_l1In.f a0_4 0 60).bind fun t165 => (spec_GoodNet.j0 k (!t165) l0_0 l0_1 l0_2 l0_3 a0_4)) else (spec_GoodNet.j0 k true l0_0 l0_1 l0_2 l0_3 a0_4)) else (spec_GoodNet.j0 k true l0_0 l0_1 l0_2 l0_3 a0_4)) else (spec_GoodNet.j0 k true l0_0 l0_1 l0_2 l0_3 a0_4)) else (spec_GoodNet.j0 k true l0_0 l0_1 l0_2 l0_3 a0_4))) = some r := by rw [if_pos rfl] at H; exact H
   clear H
   have H := H1
   clear H1; replace H := bS H; obtain ⟨t164, A7, H⟩ := H
   replace H : (if t164 = true then (if (l0_1.length : Int) = (l0_0.length : Int) then (if (l0_2.length : Int) = (l0_0.length : Int) then (if (l0_3.length : Int) = 4 then ((spec_l1In.f a0_4 0 60).bind fun t165 => (spec_GoodNet.j0 k (!t165) l0_0 l0_1 l0_2 l0_3 a0_4)) else (spec_GoodNet.j0 k true l0_0 l0_1 l0_2 l0_3 a0_4)) else (spec_GoodNet.j0 k true l0_0 l0_1 l0_2 l0_3 a0_4)) else (spec_GoodNet.j0 k true l0_0 l0_1 l0_2 l0_3 a0_4)) else (spec_GoodNet.j0 k true l0_0 l0_1 l0_2 l0_3 a0_4)) = some r := H
   by_cases c8 : t164 = true
   ·subst c8
    have H1 : (if (l0_1.length : Int) = (l0_0.length : Int) then (if (l0_2.length : Int) = (l0_0.length : Int) then (if (l0_3.length : Int) = 4 then ((spec_l1In.f a0_4 0 60).bind fun t165 => (spec_GoodNet.j0 k (!t165) l0_0 l0_1 l0_2 l0_3 a0_4)) else (spec_GoodNet.j0 k true l0_0 l0_1 l0_2 l0_3 a0_4)) else (spec_GoodNet.j0 k true l0_0 l0_1 l0_2 l0_3 a0_4)) else (spec_GoodNet.j0 k true l0_0 l0_1 l0_2 l0_3 a0_4)) = some r := by rw [if_pos rfl] at H; exact H
    clear H
    have H := H1
    clear H1
    by_cases c9 : (l0_1.length : Int) = (l0_0.length : Int)
    ·rw [if_pos c9] at H
     have c9b0 : ((l0_1.length : Int) == (l0_0.length : Int)) = true := beq_iff_eq.mpr c9
     have c9b1 : ((l0_1.length : Int) != (l0_0.length : Int)) = false := bne_eq_false_iff_eq.mpr c9
     have c9b2 : (l0_1.length == l0_0.length) = true := by first | simpa using c9 | (simp at c9 ⊢; omega)
     clear c9
     (first | rw [c9b0] | (simp only [i64_w, i32_w]; rw [c9b0]) | skip)
     by_cases c10 : (l0_2.length : Int) = (l0_0.length : Int)
     ·rw [if_pos c10] at H
      have c10b0 : ((l0_2.length : Int) == (l0_0.length : Int)) = true := beq_iff_eq.mpr c10
      have c10b1 : ((l0_2.length : Int) != (l0_0.length : Int)) = false := bne_eq_false_iff_eq.mpr c10
      have c10b2 : (l0_2.length == l0_0.length) = true := by first | simpa using c10 | (simp at c10 ⊢; omega)
      clear c10
      by_cases c11 : (l0_3.length : Int) = 4
      ·rw [if_pos c11] at H
       have c11b0 : ((l0_3.length : Int) == 4) = true := beq_iff_eq.mpr c11
       have c11b1 : ((l0_3.length : Int) != 4) = false := bne_eq_false_iff_eq.mpr c11
       clear c11; replace H := bS H; obtain ⟨t165, A12, H⟩ := H
       replace H : (spec_GoodNet.j0 k (!t165) l0_0 l0_1 l0_2 l0_3 a0_4) = some r := H
       have H' := Aside0.mk H
       clear H
       go_wp2_with (first | ((with_reducible refine gate_callee (f := 79) rfl ?_); refine goesLa (some 16) rfl Tryz.func79 #[.int .i64 (l0_0.length : Int), .int .i64 1, .int .i64 4] rfl ?_; (with_reducible refine (spec_l1In.calls (l0_0.length : Int) 1 4 true _ A5.out).mono ?_); rintro e w' ⟨rfl, ⟨nd, rfl⟩⟩; refine ⟨_, rfl, ?_⟩; obtain ⟨hcz13_0, hcz13_1, hcz13_2, hcz13_3, hcz13_4, hfz13_0, hfz13_1, hfz13_2, hfz13_3, hfz13_4⟩ := box5 BK162) | (go_at_call 81; (with_reducible refine (spec_l1All.calls k _ _ l0_0 0 65535 true _ ?side1 ?side2 A7.out).mono ?_); (case side1 => exact cd (Kd.C_below HR0_0.out (belowg1 HB GE162))); (case side2 => exact HC0_0.out); rintro e w' ⟨rfl, ⟨nd, rfl⟩⟩) | (go_at_call 79; (with_reducible refine (spec_l1In.calls a0_4 0 60 t165 _ A12.out).mono ?_); rintro e w' ⟨rfl, ⟨nd, rfl⟩⟩))
       go_meet
       case rel => exact ⟨_, (!t165), er, H', ⟨by first | omega | exact Nat.le_refl _⟩, ⟨blkd BK162⟩, ⟨belowg1 HB GE162⟩⟩
      ·rw [if_neg c11] at H
       have c11b0 : ((l0_3.length : Int) == 4) = false := beq_eq_false_iff_ne.mpr c11
       have c11b1 : ((l0_3.length : Int) != 4) = true := bne_iff_ne.mpr c11
       have H' := Aside0.mk H
       clear H
       go_wp2_with (first | ((with_reducible refine gate_callee (f := 79) rfl ?_); refine goesLa (some 16) rfl Tryz.func79 #[.int .i64 (l0_0.length : Int), .int .i64 1, .int .i64 4] rfl ?_; (with_reducible refine (spec_l1In.calls (l0_0.length : Int) 1 4 true _ A5.out).mono ?_); rintro e w' ⟨rfl, ⟨nd, rfl⟩⟩; refine ⟨_, rfl, ?_⟩; obtain ⟨hcz14_0, hcz14_1, hcz14_2, hcz14_3, hcz14_4, hfz14_0, hfz14_1, hfz14_2, hfz14_3, hfz14_4⟩ := box5 BK162) | (go_at_call 81; (with_reducible refine (spec_l1All.calls k _ _ l0_0 0 65535 true _ ?side1 ?side2 A7.out).mono ?_); (case side1 => exact cd (Kd.C_below HR0_0.out (belowg1 HB GE162))); (case side2 => exact HC0_0.out); rintro e w' ⟨rfl, ⟨nd, rfl⟩⟩))
       go_meet
       case rel => exact ⟨_, (true), er, H', ⟨by first | omega | exact Nat.le_refl _⟩, ⟨blkd BK162⟩, ⟨belowg1 HB GE162⟩⟩
     ·rw [if_neg c10] at H
      have c10b0 : ((l0_2.length : Int) == (l0_0.length : Int)) = false := beq_eq_false_iff_ne.mpr c10
      have c10b1 : ((l0_2.length : Int) != (l0_0.length : Int)) = true := bne_iff_ne.mpr c10
      have c10b2 : (l0_2.length == l0_0.length) = false := by first | simpa using c10 | (simp at c10 ⊢; omega)
      have H' := Aside0.mk H
      clear H
      go_wp2_with (first | ((with_reducible refine gate_callee (f := 79) rfl ?_); refine goesLa (some 16) rfl Tryz.func79 #[.int .i64 (l0_0.length : Int), .int .i64 1, .int .i64 4] rfl ?_; (with_reducible refine (spec_l1In.calls (l0_0.length : Int) 1 4 true _ A5.out).mono ?_); rintro e w' ⟨rfl, ⟨nd, rfl⟩⟩; refine ⟨_, rfl, ?_⟩; obtain ⟨hcz15_0, hcz15_1, hcz15_2, hcz15_3, hcz15_4, hfz15_0, hfz15_1, hfz15_2, hfz15_3, hfz15_4⟩ := box5 BK162) | (go_at_call 81; (with_reducible refine (spec_l1All.calls k _ _ l0_0 0 65535 true _ ?side1 ?side2 A7.out).mono ?_); (case side1 => exact cd (Kd.C_below HR0_0.out (belowg1 HB GE162))); (case side2 => exact HC0_0.out); rintro e w' ⟨rfl, ⟨nd, rfl⟩⟩))
      go_meet
      case rel => exact ⟨_, (true), er, H', ⟨by first | omega | exact Nat.le_refl _⟩, ⟨blkd BK162⟩, ⟨belowg1 HB GE162⟩⟩
    ·rw [if_neg c9] at H
     have c9b0 : ((l0_1.length : Int) == (l0_0.length : Int)) = false := beq_eq_false_iff_ne.mpr c9
     have c9b1 : ((l0_1.length : Int) != (l0_0.length : Int)) = true := bne_iff_ne.mpr c9
     have c9b2 : (l0_1.length == l0_0.length) = false := by first | simpa using c9 | (simp at c9 ⊢; omega)
     (first | rw [c9b0] | (simp only [i64_w, i32_w]; rw [c9b0]) | skip)
     have H' := Aside0.mk H
     clear H
     go_wp2_with (first | ((with_reducible refine gate_callee (f := 79) rfl ?_); refine goesLa (some 16) rfl Tryz.func79 #[.int .i64 (l0_0.length : Int), .int .i64 1, .int .i64 4] rfl ?_; (with_reducible refine (spec_l1In.calls (l0_0.length : Int) 1 4 true _ A5.out).mono ?_); rintro e w' ⟨rfl, ⟨nd, rfl⟩⟩; refine ⟨_, rfl, ?_⟩; obtain ⟨hcz16_0, hcz16_1, hcz16_2, hcz16_3, hcz16_4, hfz16_0, hfz16_1, hfz16_2, hfz16_3, hfz16_4⟩ := box5 BK162) | (go_at_call 81; (with_reducible refine (spec_l1All.calls k _ _ l0_0 0 65535 true _ ?side1 ?side2 A7.out).mono ?_); (case side1 => exact cd (Kd.C_below HR0_0.out (belowg1 HB GE162))); (case side2 => exact HC0_0.out); rintro e w' ⟨rfl, ⟨nd, rfl⟩⟩))
     go_meet
     case rel => exact ⟨_, (true), er, H', ⟨by first | omega | exact Nat.le_refl _⟩, ⟨blkd BK162⟩, ⟨belowg1 HB GE162⟩⟩
   ·replace c8 := Bool.eq_false_iff.mpr c8
    subst c8
    have H1 : (spec_GoodNet.j0 k true l0_0 l0_1 l0_2 l0_3 a0_4) = some r := by rw [if_neg (show ¬ (false = true) by decide)] at H; exact H
    clear H
    have H := H1
    clear H1
    have H' := Aside0.mk H
    clear H
    go_wp2_with (first | ((with_reducible refine gate_callee (f := 79) rfl ?_); refine goesLa (some 16) rfl Tryz.func79 #[.int .i64 (l0_0.length : Int), .int .i64 1, .int .i64 4] rfl ?_; (with_reducible refine (spec_l1In.calls (l0_0.length : Int) 1 4 true _ A5.out).mono ?_); rintro e w' ⟨rfl, ⟨nd, rfl⟩⟩; refine ⟨_, rfl, ?_⟩; obtain ⟨hcz17_0, hcz17_1, hcz17_2, hcz17_3, hcz17_4, hfz17_0, hfz17_1, hfz17_2, hfz17_3, hfz17_4⟩ := box5 BK162) | (go_at_call 81; (with_reducible refine (spec_l1All.calls k _ _ l0_0 0 65535 false _ ?side1 ?side2 A7.out).mono ?_); (case side1 => exact cd (Kd.C_below HR0_0.out (belowg1 HB GE162))); (case side2 => exact HC0_0.out); rintro e w' ⟨rfl, ⟨nd, rfl⟩⟩))
    go_meet
    case rel => exact ⟨_, (true), er, H', ⟨by first | omega | exact Nat.le_refl _⟩, ⟨blkd BK162⟩, ⟨belowg1 HB GE162⟩⟩
  ·replace c6 := Bool.eq_false_iff.mpr c6
   subst c6
   have H1 : (spec_GoodNet.j0 k true l0_0 l0_1 l0_2 l0_3 a0_4) = some r := by rw [if_neg (show ¬ (false = true) by decide)] at H; exact H
   clear H
   have H := H1
   clear H1
   have H' := Aside0.mk H
   clear H
   go_wp2_with (first | ((with_reducible refine gate_callee (f := 79) rfl ?_); refine goesLa (some 16) rfl Tryz.func79 #[.int .i64 (l0_0.length : Int), .int .i64 1, .int .i64 4] rfl ?_; (with_reducible refine (spec_l1In.calls (l0_0.length : Int) 1 4 false _ A5.out).mono ?_); rintro e w' ⟨rfl, ⟨nd, rfl⟩⟩; refine ⟨_, rfl, ?_⟩))
   go_meet
   case rel => exact ⟨_, (true), er, H', ⟨by first | omega | exact Nat.le_refl _⟩, ⟨blkd BK162⟩, ⟨belowg1 HB GE162⟩⟩
 case rest =>
  clear HC2; (try clear hcz4_0); (try clear hcz4_1); (try clear hcz4_2); (try clear hcz4_3); (try clear hcz4_4); (try clear hfz4_0); (try clear hfz4_1); (try clear hfz4_2); (try clear hfz4_3); (try clear hfz4_4)
  obtain ⟨kq, x49_1, rfl, HA, HJ1, BK162, HB⟩ := hcut
  cases kq with
  | zero => exact absurd HA.out (by simp [spec_GoodNet.j0])
  | succ kj1 =>
   have H := HA.out; clear HA
   simp only [spec_GoodNet.j0] at H
   by_cases c18 : x49_1 = true
   ·subst c18
    have H1 : (some false) = some r := by rw [if_pos rfl] at H; exact H
    clear H
    have H := H1
    clear H1
    obtain rfl := Option.some.inj H
    go_wp2
    go_ret
    exact ⟨er2, belowg1 HB GE162⟩
   ·replace c18 := Bool.eq_false_iff.mpr c18
    subst c18
    have H1 : (spec_GoodNet.l0 kj1 l0_1 (l0_1.length : Int) 0 l0_0 l0_1 l0_2 l0_3 a0_4) = some r := by rw [if_neg (show ¬ (false = true) by decide)] at H; exact H
    clear H
    have H := H1
    clear H1
    have H' := Aside0.mk H
    clear H; obtain ⟨hcz19_0, hcz19_1, hcz19_2, hcz19_3, hcz19_4, hfz19_0, hfz19_1, hfz19_2, hfz19_3, hfz19_4⟩ := box5 BK162; go_wp2
    go_loopg [53] kj1 (fun kq v53 w' => ∃ (x53_2 : Int), v53 = .int .i64 x53_2 ∧ Aside0 (spec_GoodNet.l0 kq l0_1 (l0_1.length : Int) x53_2 l0_0 l0_1 l0_2 l0_3 a0_4 = some r) ∧ Aside0 (kq ≤ kj1) ∧ Aside0 (w'.heap[gb162]? = some (.cells #[(.slice A0_0 l0_0.length c0_0), (.slice A0_1 l0_1.length c0_1), (.slice A0_2 l0_2.length c0_2), (.slice A0_3 l0_3.length c0_3), .int .i64 a0_4] 27 (0, 0))) ∧ Aside0 (Below w.heap.size w w'))
    case atStart => exact ⟨(0), er, H', ⟨Nat.le_refl _⟩, ⟨blkd BK162⟩, ⟨belowg1 HB GE162⟩⟩
    case round =>
     clear H'
     (try clear c18); (try clear hcz19_0); (try clear hcz19_1); (try clear hcz19_2); (try clear hcz19_3); (try clear hcz19_4); (try clear hfz19_0); (try clear hfz19_1); (try clear hfz19_2); (try clear hfz19_3); (try clear hfz19_4)
     obtain ⟨x53_2, rfl, HA, HK2, BK162, HB⟩ := hrel
     cases gk with
     | zero => exact absurd HA.out (by simp [spec_GoodNet.l0])
     | succ k2 =>
      have H := HA.out; clear HA
      simp only [spec_GoodNet.l0] at H
      by_cases c20 : x53_2 < (l0_1.length : Int)
      ·rw [if_pos c20] at H
       have c20b0 : decide (x53_2 < (l0_1.length : Int)) = true := decide_eq_true c20
       clear c20; replace H := ifS H; obtain ⟨c21, H⟩ := H; have c21b0 := decide_eq_true c21; clear c21; replace H := ifS H; obtain ⟨c22, H⟩ := H; have c22b0 := decide_eq_true c22; clear c22; have HC23 := Aside0.mk H; clear H
       have p166 : 0 ≤ (x53_2 : Int) := da
       have q166 : x53_2 < (l0_1.length : Int) := da
       obtain ⟨ad166, A166_0, c166_0, e166, hx166_0, hl166_0, hi166_0⟩ := at_L2 HR0_1.out x53_2 p166 q166
       cases e166
       replace hx166_0 := (HB.out.cell (World.block_lt_of_cell? w _ hx166_0)).trans hx166_0
       have HR166_0 := Aside0.mk hi166_0; have HC166_0 := Aside0.mk hl166_0; clear hi166_0 hl166_0; replace p166 := eq_true p166; replace q166 := eq_true q166
       go_upto_region 7 with (fail)
       go_cut [69] (fun v69 wc => ∃ (kq : Nat) (x69_22 : Bool), v69 = .bool x69_22 ∧ Aside0 (spec_GoodNet.j2 kq x53_2 (rd_L2 l0_1 x53_2) l0_1 (l0_1.length : Int) x53_2 x69_22 l0_0 l0_1 l0_2 l0_3 a0_4 = some r) ∧ Aside0 (kq ≤ k2) ∧ Aside0 (wc.heap[gb162]? = some (.cells #[(.slice A0_0 l0_0.length c0_0), (.slice (some ad166) l0_1.length c0_1), (.slice A0_2 l0_2.length c0_2), (.slice A0_3 l0_3.length c0_3), .int .i64 a0_4] 27 (0, 0))) ∧ Aside0 (Below w.heap.size w wc))
       case first =>
        have H := HC23.out; clear HC23; replace H := bS H; obtain ⟨t167, A24, H⟩ := H
        replace H : (if t167 = true then (if x53_2 < (l0_2.length : Int) then ((spec_l17Onions.f k2 (rd_L2 l0_2 x53_2)).bind fun t169 => (spec_GoodNet.j2 k2 x53_2 (rd_L2 l0_1 x53_2) l0_1 (l0_1.length : Int) x53_2 (!t169) l0_0 l0_1 l0_2 l0_3 a0_4)) else (none)) else (spec_GoodNet.j2 k2 x53_2 (rd_L2 l0_1 x53_2) l0_1 (l0_1.length : Int) x53_2 true l0_0 l0_1 l0_2 l0_3 a0_4)) = some r := H
        by_cases c25 : t167 = true
        ·subst c25
         have H1 : (if x53_2 < (l0_2.length : Int) then ((spec_l17Onions.f k2 (rd_L2 l0_2 x53_2)).bind fun t169 => (spec_GoodNet.j2 k2 x53_2 (rd_L2 l0_1 x53_2) l0_1 (l0_1.length : Int) x53_2 (!t169) l0_0 l0_1 l0_2 l0_3 a0_4)) else (none)) = some r := by rw [if_pos rfl] at H; exact H
         clear H
         have H := H1
         clear H1; replace H := ifS H; obtain ⟨c26, H⟩ := H; have c26b0 := decide_eq_true c26; clear c26
         (first | rw [c26b0] | (simp only [i64_w, i32_w]; rw [c26b0]) | skip)
         replace H := bS H; obtain ⟨t169, A27, H⟩ := H
         replace H : (spec_GoodNet.j2 k2 x53_2 (rd_L2 l0_1 x53_2) l0_1 (l0_1.length : Int) x53_2 (!t169) l0_0 l0_1 l0_2 l0_3 a0_4) = some r := H
         have H' := Aside0.mk H
         clear H
         go_wp2_with (first | ((with_reducible refine gate_callee (f := 82) rfl ?_); refine goesLa (some 59) rfl Tryz.func82 #[.slice A166_0 (rd_L2 l0_1 x53_2).length c166_0] rfl ?_; (with_reducible refine (spec_l17Onions.calls k2 _ _ (rd_L2 l0_1 x53_2) true _ ?side1 ?side2 A24.out).mono ?_); (case side1 => exact cd (Kd.C_below HR166_0.out HB.out)); (case side2 => exact HC166_0.out); rintro e w' ⟨rfl, ⟨nd, rfl⟩⟩; refine ⟨_, rfl, ?_⟩; obtain ⟨hcz28_0, hcz28_1, hcz28_2, hcz28_3, hcz28_4, hfz28_0, hfz28_1, hfz28_2, hfz28_3, hfz28_4⟩ := box5 BK162; have p168 : 0 ≤ (x53_2 : Int) := da; have q168 : x53_2 < (l0_2.length : Int) := da; obtain ⟨ad168, A168_0, c168_0, e168, hx168_0, hl168_0, hi168_0⟩ := at_L2 HR0_2.out x53_2 p168 q168; cases e168; replace hx168_0 := (HB.out.cell (World.block_lt_of_cell? w _ hx168_0)).trans hx168_0; have HR168_0 := Aside0.mk hi168_0; have HC168_0 := Aside0.mk hl168_0; clear hi168_0 hl168_0; replace p168 := eq_true p168; replace q168 := eq_true q168) | (go_at_call 82; (with_reducible refine (spec_l17Onions.calls k2 _ _ (rd_L2 l0_2 x53_2) t169 _ ?side1 ?side2 A27.out).mono ?_); (case side1 => exact cd (Kd.C_below HR168_0.out (belowg1 HB GE162))); (case side2 => exact HC168_0.out); rintro e w' ⟨rfl, ⟨nd, rfl⟩⟩))
         go_meet
         case rel => exact ⟨_, (!t169), er, H', ⟨by have := HJ1.out; have := HK2.out; first | omega | exact Nat.le_refl _⟩, ⟨blkd BK162⟩, ⟨belowg1 HB GE162⟩⟩
        ·replace c25 := Bool.eq_false_iff.mpr c25
         subst c25
         have H1 : (spec_GoodNet.j2 k2 x53_2 (rd_L2 l0_1 x53_2) l0_1 (l0_1.length : Int) x53_2 true l0_0 l0_1 l0_2 l0_3 a0_4) = some r := by rw [if_neg (show ¬ (false = true) by decide)] at H; exact H
         clear H
         have H := H1
         clear H1
         have H' := Aside0.mk H
         clear H
         go_wp2_with (first | ((with_reducible refine gate_callee (f := 82) rfl ?_); refine goesLa (some 59) rfl Tryz.func82 #[.slice A166_0 (rd_L2 l0_1 x53_2).length c166_0] rfl ?_; (with_reducible refine (spec_l17Onions.calls k2 _ _ (rd_L2 l0_1 x53_2) false _ ?side1 ?side2 A24.out).mono ?_); (case side1 => exact cd (Kd.C_below HR166_0.out HB.out)); (case side2 => exact HC166_0.out); rintro e w' ⟨rfl, ⟨nd, rfl⟩⟩; refine ⟨_, rfl, ?_⟩))
         go_meet
         case rel => exact ⟨_, (true), er, H', ⟨by have := HJ1.out; have := HK2.out; first | omega | exact Nat.le_refl _⟩, ⟨blkd BK162⟩, ⟨belowg1 HB GE162⟩⟩
       case rest =>
        clear HC23; (try clear c20b0); (try clear c21b0); (try clear c22b0); (try clear hx166_0); (try clear p166); (try clear q166)
        obtain ⟨kq, x69_22, rfl, HA, HJ22, BK162, HB⟩ := hcut
        cases kq with
        | zero => exact absurd HA.out (by simp [spec_GoodNet.j2])
        | succ kj22 =>
         have H := HA.out; clear HA
         simp only [spec_GoodNet.j2] at H
         by_cases c29 : x69_22 = true
         ·subst c29
          have H1 : (some false) = some r := by rw [if_pos rfl] at H; exact H
          clear H
          have H := H1
          clear H1
          obtain rfl := Option.some.inj H
          go_wp2
          go_ret
          exact ⟨er2, belowg1 HB GE162⟩
         ·replace c29 := Bool.eq_false_iff.mpr c29
          subst c29
          have H1 : (spec_GoodNet.l1 kj22 x53_2 l0_1 (l0_1.length : Int) x53_2 (rd_L2 l0_1 x53_2) ((rd_L2 l0_1 x53_2).length : Int) 0 l0_0 l0_1 l0_2 l0_3 a0_4) = some r := by rw [if_neg (show ¬ (false = true) by decide)] at H; exact H
          clear H
          have H := H1
          clear H1
          have H' := Aside0.mk H
          clear H; go_wp2
          go_loopg [72] kj22 (fun kq v72 w' => ∃ (x72_4 : Int), v72 = .int .i64 x72_4 ∧ Aside0 (spec_GoodNet.l1 kq x53_2 l0_1 (l0_1.length : Int) x53_2 (rd_L2 l0_1 x53_2) ((rd_L2 l0_1 x53_2).length : Int) x72_4 l0_0 l0_1 l0_2 l0_3 a0_4 = some r) ∧ Aside0 (kq ≤ kj22) ∧ Aside0 (w'.heap[gb162]? = some (.cells #[(.slice A0_0 l0_0.length c0_0), (.slice (some ad166) l0_1.length c0_1), (.slice A0_2 l0_2.length c0_2), (.slice A0_3 l0_3.length c0_3), .int .i64 a0_4] 27 (0, 0))) ∧ Aside0 (Below w.heap.size w w'))
          case atStart => exact ⟨(0), er, H', ⟨Nat.le_refl _⟩, ⟨blkd BK162⟩, ⟨belowg1 HB GE162⟩⟩
          case round =>
           clear H'
           (try clear c29)
           obtain ⟨x72_4, rfl, HA, HK4, BK162, HB⟩ := hrel
           cases gk with
           | zero => exact absurd HA.out (by simp [spec_GoodNet.l1])
           | succ k4 =>
            have H := HA.out; clear HA
            simp only [spec_GoodNet.l1] at H
            by_cases c30 : x72_4 < ((rd_L2 l0_1 x53_2).length : Int)
            ·rw [if_pos c30] at H
             have c30b0 : decide (x72_4 < ((rd_L2 l0_1 x53_2).length : Int)) = true := decide_eq_true c30
             clear c30; replace H := ifS H; obtain ⟨c31, H⟩ := H; have c31b0 := decide_eq_true c31; clear c31; replace H := ifS H; obtain ⟨c32, H⟩ := H; have c32b0 := decide_eq_true c32; clear c32; replace H := ifS H; obtain ⟨c33, H⟩ := H; have c33b0 := decide_eq_true c33; clear c33; replace H := ifS H; obtain ⟨c34, H⟩ := H; have c34b0 := decide_eq_true c34; clear c34; replace H := bS H; obtain ⟨t172, A35, H⟩ := H
             replace H : (if t172 = true then (spec_GoodNet.l1 k4 x53_2 l0_1 (l0_1.length : Int) x53_2 (rd_L2 l0_1 x53_2) ((rd_L2 l0_1 x53_2).length : Int) (wrap64 (x72_4 + 1)) l0_0 l0_1 l0_2 l0_3 a0_4) else (some false)) = some r := H
             by_cases c36 : t172 = true
             ·subst c36
              have H1 : (spec_GoodNet.l1 k4 x53_2 l0_1 (l0_1.length : Int) x53_2 (rd_L2 l0_1 x53_2) ((rd_L2 l0_1 x53_2).length : Int) (wrap64 (x72_4 + 1)) l0_0 l0_1 l0_2 l0_3 a0_4) = some r := by rw [if_pos rfl] at H; exact H
              clear H
              have H := H1
              clear H1
              have H' := Aside0.mk H
              clear H
              have p170 : 0 ≤ (x72_4 : Int) := da
              have q170 : x72_4 < ((rd_L2 l0_1 x53_2).length : Int) := da
              obtain ⟨ad170, e170, hx170_0⟩ := Kd.at_string HR166_0.out x72_4 p170 q170
              cases e170
              replace hx170_0 := (HB.out.cell (World.block_lt_of_cell? w _ hx170_0)).trans hx170_0
              replace p170 := eq_true p170; replace q170 := eq_true q170; obtain ⟨hcz37_0, hcz37_1, hcz37_2, hcz37_3, hcz37_4, hfz37_0, hfz37_1, hfz37_2, hfz37_3, hfz37_4⟩ := box5 BK162
              have p171 : 0 ≤ (x53_2 : Int) := da
              have q171 : x53_2 < (l0_2.length : Int) := da
              obtain ⟨ad171, A171_0, c171_0, e171, hx171_0, hl171_0, hi171_0⟩ := at_L2 HR0_2.out x53_2 p171 q171
              cases e171
              replace hx171_0 := (HB.out.cell (World.block_lt_of_cell? w _ hx171_0)).trans hx171_0
              have HR171_0 := Aside0.mk hi171_0; have HC171_0 := Aside0.mk hl171_0; clear hi171_0 hl171_0; replace p171 := eq_true p171; replace q171 := eq_true q171
              go_wp2_with (first | ((with_reducible refine gate_callee (f := 83) rfl ?_); refine goesLa (some 82) rfl Tryz.func83 #[.slice A171_0 (rd_L2 l0_2 x53_2).length c171_0, .string (rdOf ByteArray.empty (rd_L2 l0_1 x53_2) x72_4)] rfl ?_; (with_reducible refine (spec_l17Has.calls k4 _ _ (rd_L2 l0_2 x53_2) (rdOf ByteArray.empty (rd_L2 l0_1 x53_2) x72_4) true _ ?side1 ?side2 A35.out).mono ?_); (case side1 => exact cd (Kd.C_below HR171_0.out HB.out)); (case side2 => exact HC171_0.out); rintro e w' ⟨rfl, ⟨nd, rfl⟩⟩; refine ⟨_, rfl, ?_⟩))
              go_roundg k4
              case measure => have := HJ1.out; have := HK2.out; have := HJ22.out; have := HK4.out; omega
              case rel => exact ⟨(wrap64 (x72_4 + 1)), er, H', ⟨by have := HJ1.out; have := HK2.out; have := HJ22.out; have := HK4.out; omega⟩, ⟨blkd BK162⟩, ⟨belowg1 HB GE162⟩⟩
             ·replace c36 := Bool.eq_false_iff.mpr c36
              subst c36
              have H1 : (some false) = some r := by rw [if_neg (show ¬ (false = true) by decide)] at H; exact H
              clear H
              have H := H1
              clear H1
              obtain rfl := Option.some.inj H
              have p170 : 0 ≤ (x72_4 : Int) := da
              have q170 : x72_4 < ((rd_L2 l0_1 x53_2).length : Int) := da
              obtain ⟨ad170, e170, hx170_0⟩ := Kd.at_string HR166_0.out x72_4 p170 q170
              cases e170
              replace hx170_0 := (HB.out.cell (World.block_lt_of_cell? w _ hx170_0)).trans hx170_0
              replace p170 := eq_true p170; replace q170 := eq_true q170; obtain ⟨hcz38_0, hcz38_1, hcz38_2, hcz38_3, hcz38_4, hfz38_0, hfz38_1, hfz38_2, hfz38_3, hfz38_4⟩ := box5 BK162
              have p171 : 0 ≤ (x53_2 : Int) := da
              have q171 : x53_2 < (l0_2.length : Int) := da
              obtain ⟨ad171, A171_0, c171_0, e171, hx171_0, hl171_0, hi171_0⟩ := at_L2 HR0_2.out x53_2 p171 q171
              cases e171
              replace hx171_0 := (HB.out.cell (World.block_lt_of_cell? w _ hx171_0)).trans hx171_0
              have HR171_0 := Aside0.mk hi171_0; have HC171_0 := Aside0.mk hl171_0; clear hi171_0 hl171_0; replace p171 := eq_true p171; replace q171 := eq_true q171
              go_wp2_with (first | ((with_reducible refine gate_callee (f := 83) rfl ?_); refine goesLa (some 82) rfl Tryz.func83 #[.slice A171_0 (rd_L2 l0_2 x53_2).length c171_0, .string (rdOf ByteArray.empty (rd_L2 l0_1 x53_2) x72_4)] rfl ?_; (with_reducible refine (spec_l17Has.calls k4 _ _ (rd_L2 l0_2 x53_2) (rdOf ByteArray.empty (rd_L2 l0_1 x53_2) x72_4) false _ ?side1 ?side2 A35.out).mono ?_); (case side1 => exact cd (Kd.C_below HR171_0.out HB.out)); (case side2 => exact HC171_0.out); rintro e w' ⟨rfl, ⟨nd, rfl⟩⟩; refine ⟨_, rfl, ?_⟩))
              go_ret
              exact ⟨er2, belowg1 HB GE162⟩
            ·rw [if_neg c30] at H
             have c30b0 : decide (x72_4 < ((rd_L2 l0_1 x53_2).length : Int)) = false := decide_eq_false c30
             clear c30
             have H' := Aside0.mk H
             clear H; go_wp2
             go_roundg k4
             case measure => have := HJ1.out; have := HK2.out; have := HJ22.out; have := HK4.out; omega
             case rel => exact ⟨(wrap64 (x53_2 + 1)), er, H', ⟨by have := HJ1.out; have := HK2.out; have := HJ22.out; have := HK4.out; omega⟩, ⟨blkd BK162⟩, ⟨belowg1 HB GE162⟩⟩
      ·rw [if_neg c20] at H
       have c20b0 : decide (x53_2 < (l0_1.length : Int)) = false := decide_eq_false c20
       clear c20
       have H' := Aside0.mk H
       clear H; obtain ⟨hcz39_0, hcz39_1, hcz39_2, hcz39_3, hcz39_4, hfz39_0, hfz39_1, hfz39_2, hfz39_3, hfz39_4⟩ := box5 BK162; go_wp2
       go_loopg [89] k2 (fun kq v89 w' => ∃ (x89_3 : Int), v89 = .int .i64 x89_3 ∧ Aside0 (spec_GoodNet.l2 kq l0_3 (l0_3.length : Int) x89_3 = some r) ∧ Aside0 (kq ≤ k2) ∧ Aside0 (w'.heap[gb162]? = some (.cells #[(.slice A0_0 l0_0.length c0_0), (.slice A0_1 l0_1.length c0_1), (.slice A0_2 l0_2.length c0_2), (.slice A0_3 l0_3.length c0_3), .int .i64 a0_4] 27 (0, 0))) ∧ Aside0 (Below w.heap.size w w'))
       case atStart => exact ⟨(0), er, H', ⟨Nat.le_refl _⟩, ⟨blkd BK162⟩, ⟨belowg1 HB GE162⟩⟩
       case round =>
        clear H'
        (try clear c20b0); (try clear hcz39_0); (try clear hcz39_1); (try clear hcz39_2); (try clear hcz39_3); (try clear hcz39_4); (try clear hfz39_0); (try clear hfz39_1); (try clear hfz39_2); (try clear hfz39_3); (try clear hfz39_4)
        obtain ⟨x89_3, rfl, HA, HK3, BK162, HB⟩ := hrel
        cases gk with
        | zero => exact absurd HA.out (by simp [spec_GoodNet.l2])
        | succ k3 =>
         have H := HA.out; clear HA
         simp only [spec_GoodNet.l2] at H
         by_cases c40 : x89_3 < (l0_3.length : Int)
         ·rw [if_pos c40] at H
          have c40b0 : decide (x89_3 < (l0_3.length : Int)) = true := decide_eq_true c40
          clear c40; replace H := ifS H; obtain ⟨c41, H⟩ := H; have c41b0 := decide_eq_true c41; clear c41; replace H := ifS H; obtain ⟨c42, H⟩ := H; have c42b0 := decide_eq_true c42; clear c42
          have H' := Aside0.mk H
          clear H
          have p173 : 0 ≤ (x89_3 : Int) := da
          have q173 : x89_3 < (l0_3.length : Int) := da
          obtain ⟨ad173, A173_0, c173_0, e173, hx173_0, hl173_0, hi173_0⟩ := at_L2 HR0_3.out x89_3 p173 q173
          cases e173
          replace hx173_0 := (HB.out.cell (World.block_lt_of_cell? w _ hx173_0)).trans hx173_0
          have HR173_0 := Aside0.mk hi173_0; have HC173_0 := Aside0.mk hl173_0; clear hi173_0 hl173_0; replace p173 := eq_true p173; replace q173 := eq_true q173; go_wp2
          go_loopg [95] k3 (fun kq v95 w' => ∃ (x95_4 : Int), v95 = .int .i64 x95_4 ∧ Aside0 (spec_GoodNet.l3 kq (rd_L2 l0_3 x89_3) l0_3 (l0_3.length : Int) x89_3 (rd_L2 l0_3 x89_3) ((rd_L2 l0_3 x89_3).length : Int) x95_4 = some r) ∧ Aside0 (kq ≤ k3) ∧ Aside0 (w'.heap[gb162]? = some (.cells #[(.slice A0_0 l0_0.length c0_0), (.slice A0_1 l0_1.length c0_1), (.slice A0_2 l0_2.length c0_2), (.slice (some ad173) l0_3.length c0_3), .int .i64 a0_4] 27 (0, 0))) ∧ Aside0 (Below w.heap.size w w'))
          case atStart => exact ⟨(0), er, H', ⟨Nat.le_refl _⟩, ⟨blkd BK162⟩, ⟨belowg1 HB GE162⟩⟩
          case round =>
           clear H'
           (try clear c40b0); (try clear c41b0); (try clear c42b0); (try clear hx173_0); (try clear p173); (try clear q173)
           obtain ⟨x95_4, rfl, HA, HK4, BK162, HB⟩ := hrel
           cases gk with
           | zero => exact absurd HA.out (by simp [spec_GoodNet.l3])
           | succ k4 =>
            have H := HA.out; clear HA
            simp only [spec_GoodNet.l3] at H
            by_cases c43 : x95_4 < ((rd_L2 l0_3 x89_3).length : Int)
            ·rw [if_pos c43] at H
             have c43b0 : decide (x95_4 < ((rd_L2 l0_3 x89_3).length : Int)) = true := decide_eq_true c43
             clear c43; replace H := ifS H; obtain ⟨c44, H⟩ := H; have c44b0 := decide_eq_true c44; clear c44; replace H := ifS H; obtain ⟨c45, H⟩ := H; have c45b0 := decide_eq_true c45; clear c45; replace H := bS H; obtain ⟨t175, A46, H⟩ := H
             replace H : (if t175 = true then (spec_GoodNet.l3 k4 (rd_L2 l0_3 x89_3) l0_3 (l0_3.length : Int) x89_3 (rd_L2 l0_3 x89_3) ((rd_L2 l0_3 x89_3).length : Int) (wrap64 (x95_4 + 1))) else (some false)) = some r := H
             by_cases c47 : t175 = true
             ·subst c47
              have H1 : (spec_GoodNet.l3 k4 (rd_L2 l0_3 x89_3) l0_3 (l0_3.length : Int) x89_3 (rd_L2 l0_3 x89_3) ((rd_L2 l0_3 x89_3).length : Int) (wrap64 (x95_4 + 1))) = some r := by rw [if_pos rfl] at H; exact H
              clear H
              have H := H1
              clear H1
              have H' := Aside0.mk H
              clear H
              have p174 : 0 ≤ (x95_4 : Int) := da
              have q174 : x95_4 < ((rd_L2 l0_3 x89_3).length : Int) := da
              obtain ⟨ad174, e174, hx174_0⟩ := Kd.at_string HR173_0.out x95_4 p174 q174
              cases e174
              replace hx174_0 := (HB.out.cell (World.block_lt_of_cell? w _ hx174_0)).trans hx174_0
              replace p174 := eq_true p174; replace q174 := eq_true q174
              go_wp2_with (first | ((with_reducible refine gate_callee (f := 79) rfl ?_); refine goesLa (some 101) rfl Tryz.func79 #[.int .i64 ((rdOf ByteArray.empty (rd_L2 l0_3 x89_3) x95_4).size : Int), .int .i64 1, .int .i64 15] rfl ?_; (with_reducible refine (spec_l1In.calls ((rdOf ByteArray.empty (rd_L2 l0_3 x89_3) x95_4).size : Int) 1 15 true _ A46.out).mono ?_); rintro e w' ⟨rfl, ⟨nd, rfl⟩⟩; refine ⟨_, rfl, ?_⟩))
              go_roundg k4
              case measure => have := HJ1.out; have := HK2.out; have := HK3.out; have := HK4.out; omega
              case rel => exact ⟨(wrap64 (x95_4 + 1)), er, H', ⟨by have := HJ1.out; have := HK2.out; have := HK3.out; have := HK4.out; omega⟩, ⟨blkd BK162⟩, ⟨belowg1 HB GE162⟩⟩
             ·replace c47 := Bool.eq_false_iff.mpr c47
              subst c47
              have H1 : (some false) = some r := by rw [if_neg (show ¬ (false = true) by decide)] at H; exact H
              clear H
              have H := H1
              clear H1
              obtain rfl := Option.some.inj H
              have p174 : 0 ≤ (x95_4 : Int) := da
              have q174 : x95_4 < ((rd_L2 l0_3 x89_3).length : Int) := da
              obtain ⟨ad174, e174, hx174_0⟩ := Kd.at_string HR173_0.out x95_4 p174 q174
              cases e174
              replace hx174_0 := (HB.out.cell (World.block_lt_of_cell? w _ hx174_0)).trans hx174_0
              replace p174 := eq_true p174; replace q174 := eq_true q174
              go_wp2_with (first | ((with_reducible refine gate_callee (f := 79) rfl ?_); refine goesLa (some 101) rfl Tryz.func79 #[.int .i64 ((rdOf ByteArray.empty (rd_L2 l0_3 x89_3) x95_4).size : Int), .int .i64 1, .int .i64 15] rfl ?_; (with_reducible refine (spec_l1In.calls ((rdOf ByteArray.empty (rd_L2 l0_3 x89_3) x95_4).size : Int) 1 15 false _ A46.out).mono ?_); rintro e w' ⟨rfl, ⟨nd, rfl⟩⟩; refine ⟨_, rfl, ?_⟩))
              go_ret
              exact ⟨er2, belowg1 HB GE162⟩
            ·rw [if_neg c43] at H
             have c43b0 : decide (x95_4 < ((rd_L2 l0_3 x89_3).length : Int)) = false := decide_eq_false c43
             clear c43
             by_cases c48 : ((rd_L2 l0_3 x89_3).length : Int) > 60
             ·rw [if_pos c48] at H
              have c48b0 : decide (60 < ((rd_L2 l0_3 x89_3).length : Int)) = true := decide_eq_true c48
              have c48b1 : decide (60 < (rd_L2 l0_3 x89_3).length) = true := decide_eq_true (by omega)
              clear c48
              obtain rfl := Option.some.inj H
              go_wp2
              go_ret
              exact ⟨er2, belowg1 HB GE162⟩
             ·rw [if_neg c48] at H
              have c48b0 : decide (60 < ((rd_L2 l0_3 x89_3).length : Int)) = false := decide_eq_false c48
              have c48b1 : decide (60 < (rd_L2 l0_3 x89_3).length) = false := decide_eq_false (by omega)
              clear c48
              have H' := Aside0.mk H
              clear H; go_wp2
              go_roundg k4
              case measure => have := HJ1.out; have := HK2.out; have := HK3.out; have := HK4.out; omega
              case rel => exact ⟨(wrap64 (x89_3 + 1)), er, H', ⟨by have := HJ1.out; have := HK2.out; have := HK3.out; have := HK4.out; omega⟩, ⟨blkd BK162⟩, ⟨belowg1 HB GE162⟩⟩
         ·rw [if_neg c40] at H
          have c40b0 : decide (x89_3 < (l0_3.length : Int)) = false := decide_eq_false c40
          clear c40
          obtain rfl := Option.some.inj H
          go_wp2
          go_ret
          exact ⟨er2, belowg1 HB GE162⟩

/-! ### spec_l17Rows: function 87 -/
def spec_l17Rows.l0 : Nat → List (List ByteArray) → List (List ByteArray) → Int → Int → Option ((List (List ByteArray)))
  | 0, _, _, _, _ => none
  | k + 1, x3, x6, x7, x8 => if x8 < x7 then (if 0 ≤ x8 then (if x8 < (x6.length : Int) then ((some (([] : List ByteArray) : List ByteArray)).bind fun y177 => (if y177.length + (rd_L2 x6 x8).length < 8796093022208 then (if x3.length < 5864062014805 then (spec_l17Rows.l0 k (x3 ++ [(y177 ++ (rd_L2 x6 x8))]) x6 x7 (wrap64 (x8 + 1))) else (none)) else (none))) else (none)) else (none)) else (some x3)
def spec_l17Rows.f (k : Nat) (l0 : List (List ByteArray)) : Option ((List (List ByteArray))) := spec_l17Rows.l0 k ([] : List (List ByteArray)) l0 (l0.length : Int) 0
theorem spec_l17Rows.mono_l : ∀ k, (∀ y0 y1 y2 y3, LeO (spec_l17Rows.l0 k y0 y1 y2 y3) (spec_l17Rows.l0 (k + 1) y0 y1 y2 y3))
 | 0 => fun _ _ _ _ r h => by simp [spec_l17Rows.l0] at h
 | k + 1 => by
  have ih0 := spec_l17Rows.mono_l k
  ·intro y0 y1 y2 y3
   unfold spec_l17Rows.l0
   repeat' (first | (with_reducible first | exact ih0 _ _ _ _ | exact LeO.refl _ | exact LeO.none _ | refine LeO.ite ?_ ?_ | refine LeO.bind ?_ (fun _ => ?_)) | exact ih0 _ _ _ _ | exact LeO.none _ | refine LeO.ite ?_ ?_ | refine LeO.bind ?_ (fun _ => ?_))
theorem spec_l17Rows.mono : ∀ a0 k, LeO (spec_l17Rows.f k a0) (spec_l17Rows.f (k + 1) a0) := by
 intro a0 k
 have ih0 := spec_l17Rows.mono_l k
 unfold spec_l17Rows.f
 repeat' (first | (with_reducible first | exact ih0 _ _ _ _ | exact LeO.refl _ | exact LeO.none _ | refine LeO.ite ?_ ?_ | refine LeO.bind ?_ (fun _ => ?_)) | exact ih0 _ _ _ _ | exact LeO.none _ | refine LeO.ite ?_ ?_ | refine LeO.bind ?_ (fun _ => ?_))
set_option maxHeartbeats 8000000 in
set_option maxRecDepth 100000 in
theorem spec_l17Rows.calls (k : Nat) (A0 : Option Addr) (c0 : Nat) (l0 : List (List ByteArray)) (r : List (List ByteArray)) (w : World) (hr0 : Kd.C (Kd.slice 9 Kd.string) w A0 l0.length l0) (hc0 : l0.length ≤ c0) (h : spec_l17Rows.f k l0 = some r) :
  Calls Tryz.prog 87 #[.slice A0 l0.length c0] w fun e w' => ∃ v0_ : Value, e = .returned (v0_) ∧ Kd.S (Kd.slice 9 Kd.string) 62 w' w.heap.size (fun _ => True) v0_ r ∧ Below w.heap.size w w' := by
 have HR0 := Aside0.mk hr0; have HC0 := Aside0.mk hc0; clear hr0 hc0
 have HB := Aside0.mk (Below.refl w.heap.size w)
 have H : (spec_l17Rows.l0 k ([] : List (List ByteArray)) l0 (l0.length : Int) 0) = some r := h
 clear h
 have H' := Aside0.mk H
 clear H
 go_enter Tryz.func87, Tryz.ntmps87
 go_wp2
 go_loopg [3, 8] k (fun kq v3 v8 w' => ∃ (x3_1 : List (List ByteArray)) (x8_1 : Int), v8 = .int .i64 x8_1 ∧ Aside0 (spec_l17Rows.l0 kq x3_1 l0 (l0.length : Int) x8_1 = some r) ∧ Aside0 (kq ≤ k) ∧ Aside0 (Kd.S (Kd.slice 9 Kd.string) 62 w' w.heap.size (fun _ => True) v3 x3_1) ∧ Aside0 (Below w.heap.size w w'))
 case atStart => exact ⟨(([] : List (List ByteArray))), (0), er, H', ⟨Nat.le_refl _⟩, ⟨by first | exact Kd.S_nil _ _ _ _ _ | exact Kd.N_nil _ _ _ _ _ | exact Kd.V_nil _ _ _ _ _ | exact Kd.Q_nil _ _ _ _ _ | exact Kd.R_nil _ _ _ _ _⟩, ⟨belowd HB⟩⟩
 case round =>
  clear H'
  obtain ⟨x3_1, x8_1, rfl, HA, HK1, HO_3, HB⟩ := hrel
  cases gk with
  | zero => exact absurd HA.out (by simp [spec_l17Rows.l0])
  | succ k1 =>
   have H := HA.out; clear HA
   simp only [spec_l17Rows.l0] at H
   by_cases c2 : x8_1 < (l0.length : Int)
   ·rw [if_pos c2] at H
    have c2b0 : decide (x8_1 < (l0.length : Int)) = true := decide_eq_true c2
    clear c2; replace H := ifS H; obtain ⟨c3, H⟩ := H; have c3b0 := decide_eq_true c3; clear c3; replace H := ifS H; obtain ⟨c4, H⟩ := H; have c4b0 := decide_eq_true c4; clear c4
    obtain ⟨y177, hy_⟩ : ∃ y_ : List ByteArray, y_ = (([] : List ByteArray)) := ⟨_, rfl⟩
    replace H : (if y177.length + (rd_L2 l0 x8_1).length < 8796093022208 then (if x3_1.length < 5864062014805 then (spec_l17Rows.l0 k1 (x3_1 ++ [(y177 ++ (rd_L2 l0 x8_1))]) l0 (l0.length : Int) (wrap64 (x8_1 + 1))) else (none)) else (none)) = some r := yH
    have Ny177 := ak hy_; clear hy_; replace H := ifS H; obtain ⟨c5, H⟩ := H; have LMc5 := Aside0.mk c5; clear c5
    obtain ⟨y180, hy_⟩ : ∃ y_ : List ByteArray, y_ = (y177 ++ (rd_L2 l0 x8_1)) := ⟨_, rfl⟩
    replace H : (if x3_1.length < 5864062014805 then (spec_l17Rows.l0 k1 (x3_1 ++ [y180]) l0 (l0.length : Int) (wrap64 (x8_1 + 1))) else (none)) = some r := yH
    have Ny180 := ak hy_; clear hy_; replace H := ifS H; obtain ⟨c6, H⟩ := H; have LMc6 := Aside0.mk c6; clear c6
    obtain ⟨y183, hy_⟩ : ∃ y_ : List (List ByteArray), y_ = (x3_1 ++ [y180]) := ⟨_, rfl⟩
    replace H : (spec_l17Rows.l0 k1 y183 l0 (l0.length : Int) (wrap64 (x8_1 + 1))) = some r := yH
    have Ny183 := ak hy_; clear hy_
    have H' := Aside0.mk H
    clear H
    have p176 : 0 ≤ (x8_1 : Int) := da
    have q176 : x8_1 < (l0.length : Int) := da
    obtain ⟨ad176, A176_0, c176_0, e176, hx176_0, hl176_0, hi176_0⟩ := at_L2 HR0.out x8_1 p176 q176
    cases e176
    replace hx176_0 := (HB.out.cell (World.block_lt_of_cell? w _ hx176_0)).trans hx176_0
    have HR176_0 := Aside0.mk hi176_0; have HC176_0 := Aside0.mk hl176_0; clear hi176_0 hl176_0; replace p176 := eq_true p176; replace q176 := eq_true q176
    go_wp2_with (first | ((with_reducible refine gate_dst (N := 13) rfl ?_); refine Kd.R_lit Kd.string _ 9 ?hg (N := 13) ?hd (xs := ([] : List ByteArray)) (inner := []) (ok := fun _ => True) (okp := fun _ => True) ?hr ?hp (fun _ hk => hk) trivial (Below.refl _ _) (Nat.le_refl _) (by simp) ?_; (case hd => rfl); (case hg => rfl); (case hr => first | (go_simp; done) | (go_simp; rfl)); (case hp => exact (Reps.none _ _)); intro v178 w7 ho8 hb hg_ hnew_; clear hg_ hnew_; (first | rw [← Ny177.out] at ho8 | (simp only [Int.reduceToNat] at ho8; rw [← Ny177.out] at ho8)); replace HO_3 := ak (Kd.S_elder' (sd HO_3) (Kd.R_base ho8) hb); have HO179 := ak (Kd.R_lower ho8 (below_size (belowd HB))); replace HB := ak (below_step (belowd HB) hb); clear hb ho8) | ((with_reducible refine gate_builtin (b := .append) (xs := #[.tmp 13, .tmp 14]) rfl ?_); at_builtin; refine Kd.R_append_rows Kd.string (w0 := w) w.heap.size rfl (.tmp 13) (.tmp 14) 62 9 (.string ⟨#[]⟩) 16 rfl Tryz.underlying62 info9 rfl (by decide) (by omega) v178 y177 (rd_L2 l0 x8_1) _ _ _ (fun _ => True) (fun _ => False) rfl rfl ?aO ?aR (fun _ _ h => h) (fun _ h => h.elim) ?aF ?aB ?aS ?aL ?_; (case aR => exact cd (Kd.C_below HR176_0.out HB.out)); (case aB => exact (belowd HB)); (case aF => exact (fun _ _ => trivial)); (case aO => exact (rdl HO179)); (case aS => exact (below_size (belowd HB))); (case aL => have := LMc5.out; omega); intro v181 w9 ho hb hg hat; rw [← Ny180.out] at ho; replace HO_3 := ak (Kd.S_after (ok := (fun _ => True)) (sd HO_3) hg hat); replace HB := ak (hb); have HO182 := ak (ho); clear HO179; clear ho hb hg hat; obtain ⟨Ao11, co11, eo11⟩ := Kd.R_slice HO182.out; subst eo11) | ((with_reducible refine gate_builtin (b := .append) (xs := #[.tmp 12, .tmp 16]) rfl ?_); at_builtin; refine Kd.S_append (Kd.slice 9 Kd.string) (w0 := w) w.heap.size rfl (.tmp 12) (.tmp 16) 23 62 (.slice none 0 0) 24 rfl Tryz.underlying23 info62 rfl (by decide) (by omega) u3 x3_1 y180 [.slice Ao11 y180.length co11] (fun _ => True) (fun k_ => some k_ = (.slice Ao11 y180.length co11 : Value).ownBlock) rfl rfl ?aP (fun k_ hk_ => ((Kd.R_mono (ok' := fun k_ => ((fun _ => True)) k_ ∧ some k_ ≠ (u3 : Value).ownBlock) (Kd.R_apart' (HO182.out) (Kd.S_typed HO_3.out) (by decide)) (fun k_ hk => ⟨trivial, hk.2⟩))).1 k_ hk_.symm) ?aF ?aO ?aB ?aS ?aL ?_; (case aP => exact Kd.M_row (Kd.R_mono (Kd.R_tight rfl (Kd.R_mono (ok' := fun k_ => ((fun _ => True)) k_ ∧ some k_ ≠ (u3 : Value).ownBlock) (Kd.R_apart' (HO182.out) (Kd.S_typed HO_3.out) (by decide)) (fun k_ hk => ⟨trivial, hk.2⟩))) (fun _ h_ => h_))); (case aB => exact (belowd HB)); (case aF => exact (fun _ _ => trivial)); (case aO => exact (by (with_reducible repeat (first | apply Kd.S_alloc | apply Kd.S_drewN | apply Kd.S_drew)); exact Kd.S_mono HO_3.out (fun k_ hk => ⟨trivial, fun e_ => hk.2 e_⟩))); (case aS => exact (below_size (belowd HB))); (case aL => have := LMc6.out; omega); intro v184 w10 ho hb hg hat; rw [← Ny183.out] at ho; replace HB := ak (hb); have HO185 := ak (ho); clear HO_3 HO182; clear ho hb hg hat))
    go_roundg k1
    case measure => have := HK1.out; omega
    case rel => exact ⟨(y183), (wrap64 (x8_1 + 1)), er, H', ⟨by have := HK1.out; omega⟩, ⟨sd HO185⟩, ⟨belowd HB⟩⟩
   ·rw [if_neg c2] at H
    have c2b0 : decide (x8_1 < (l0.length : Int)) = false := decide_eq_false c2
    clear c2
    obtain rfl := Option.some.inj H
    go_wp2
    go_ret
    exact ⟨_, er2, by (with_reducible repeat (first | apply Kd.S_alloc | apply Kd.S_drewN | apply Kd.S_drew)); exact HO_3.out, belowd HB⟩

/-! ### spec_l17Own: function 52 -/
def spec_l17Own.T1 : Bool × List (List Nat × List Nat) := (true, [([], []), ([], []), ([1], [1]), ([0, 2], [0, 2]), ([], []), ([4], [4]), ([5, 3], [5]), ([], []), ([7], [7]), ([8, 6], [8]), ([], []), ([10], [10]), ([11, 9], [11]), ([], []), ([13], [13]), ([3, 6, 9, 12, 14], [3, 6, 9, 12, 14]), ([15, 12, 0, 1, 2, 3, 4, 5, 6, 7, 8, 9, 10, 11, 12, 13, 14, 15], [15])])
def spec_l17Own.B1 : List Nat := [0, 0, 2, 7, 0, 16, 63, 0, 128, 511, 0, 1024, 4095, 0, 8192, 32767, 65535]
theorem spec_l17Own.tab1 : rtab .any (opsOf Tryz.f52 1) = spec_l17Own.T1 := by kernel_rfl
theorem spec_l17Own.bits1 : waitsOk spec_l17Own.T1.2 spec_l17Own.B1 = true := by kernel_rfl
def spec_l17Own.f (k : Nat) (n : Nt) : Option Nt := if n.ks.length ≤ 1048576 then (spec_l17Rows.f k n.ps).bind fun t1 => (spec_l17Rows.f k n.ss).bind fun t2 => (spec_l17Rows.f k n.ib).bind fun t3 => some ⟨n.ks, t1, t2, t3, n.sd⟩ else none
set_option maxHeartbeats 16000000 in
set_option maxRecDepth 100000 in
theorem spec_l17Own.calls {k : Nat} {v0 v1 v2 v3 : Value} {n r : Nt} {w : World} (hn : NC w v0 v1 v2 v3 n) (h : spec_l17Own.f k n = some r) :
    Calls Tryz.prog 52 #[.agg #[v0, v1, v2, v3, .int .i64 n.sd]] w (MadeNet1 w r) := by
 obtain ⟨A0, c0, A1, c1, A2, c2, A3, c3, ⟨rfl, rfl, rfl, rfl⟩, ⟨x0, y0⟩, ⟨x1, y1⟩, ⟨x2, y2⟩, ⟨x3, y3⟩⟩ := hn
 have X0 := ak x0; have X1 := ak x1; have X2 := ak x2; have X3 := ak x3; have Y0 := ak y0; have Y1 := ak y1; have Y2 := ak y2; have Y3 := ak y3
 clear x0 x1 x2 x3 y0 y1 y2 y3
 obtain ⟨ks, ps, ss, ib, sd⟩ := n
 dsimp only at X0 X1 X2 X3 Y0 Y1 Y2 Y3 ⊢
 have hu27 := Tryz.underlying27
 have HS := Sep.nil w
 unfold spec_l17Own.f at h
 dsimp only at h
 replace h := ifS h; obtain ⟨hn, h⟩ := h
 have HN := ak hn; clear hn
 replace h := bS h; obtain ⟨t1, T1, h⟩ := h
 replace h := bS h; obtain ⟨t2, T2, h⟩ := h
 replace h := bS h; obtain ⟨t3, T3, h⟩ := h
 obtain rfl := Option.some.inj h
 clear h
 go_enter Tryz.func52, Tryz.ntmps52
 go_upto_region 1 with (first | ((with_reducible refine gate_dst (N := 1) rfl ?_); refine boxev 1 #[.slice A0 ks.length c0, .slice A1 ps.length c1, .slice A2 ss.length c2, .slice A3 ib.length c3, .int .i64 sd] 27 ?_; intro b1 hg_ W_ ho_ hb_; replace HS := HS.box hg_ ho_ hb_; clear hg_ ho_ hb_; obtain ⟨z10, z11, z12, z13, z14, f10, f11, f12, f13, f14⟩ := box5 (HS.blk 0)) | ((with_reducible refine gate_dst (N := 2) rfl ?_); refine boxev 2 #[.slice none 0 0, .slice none 0 0, .slice none 0 0, .slice none 0 0, .int .i64 0] 27 ?_; intro b2 hg_ W_ ho_ hb_; replace HS := HS.box hg_ ho_ hb_; clear hg_ ho_ hb_; clear z10 z11 z12 z13 z14 f10 f11 f12 f13 f14; obtain ⟨z20, z21, z22, z23, z24, f20, f21, f22, f23, f24⟩ := box5 (HS.blk 0); clear z20 z21 z22 z23 z24 f20 f21 f22 f23 f24; obtain ⟨z20, z21, z22, z23, z24, f20, f21, f22, f23, f24⟩ := box5 (HS.blk 0); obtain ⟨z10, z11, z12, z13, z14, f10, f11, f12, f13, f14⟩ := box5 (HS.blk 1)))
 clear z20 z21 z22 z23 z24 f20 f21 f22 f23 f24 z10 z11 z12 z13 z14 f10 f11 f12 f13 f14
 obtain ⟨z10, z11, z12, z13, z14, f10, f11, f12, f13, f14⟩ := box5 (HS.blk 1)
 refine start_ (n := 17) (S := fun w' => w'.cell? ⟨b1, 0, none⟩ = some (.slice A0 ks.length c0) ∧ w'.cell? ⟨b1, 1, none⟩ = some (.slice A1 ps.length c1) ∧ w'.cell? ⟨b1, 2, none⟩ = some (.slice A2 ss.length c2) ∧ w'.cell? ⟨b1, 3, none⟩ = some (.slice A3 ib.length c3) ∧ w'.cell? ⟨b1, 4, none⟩ = some (.int .i64 sd)) (ds := []) (bl 17 0) (by kernel_rfl) rfl rfl ⟨z10, z11, z12, z13, z14⟩ (fun hHeld => ?_); refine with_tabW spec_l17Own.tab1 spec_l17Own.bits1 (fun HT_ HW_ => ?_)
 clear z10 z11 z12 z13 z14 f10 f11 f12 f13 f14
 replace HS := HS.drew
 generalize World.drew _ = W9_ at HS hHeld ⊢
 refine pureA 1 (some 4) 17 2 HT_ ?_
 refine takeA 2 (some 5) 17 6 HT_ HW_ hHeld ?_ (hy := by rintro w' ⟨s0, s1, s2, s3, s4⟩; go_simp; with_reducible rfl)
 refine pureA 4 (some 7) 17 22 HT_ ?_
 refine takeA 5 (some 8) 17 54 HT_ HW_ hHeld ?_ (hy := by rintro w' ⟨s0, s1, s2, s3, s4⟩; go_simp; with_reducible rfl)
 refine pureA 7 (some 10) 17 182 HT_ ?_
 refine takeA 8 (some 11) 17 438 HT_ HW_ hHeld ?_ (hy := by rintro w' ⟨s0, s1, s2, s3, s4⟩; go_simp; with_reducible rfl)
 refine pureA 10 (some 13) 17 1462 HT_ ?_
 refine takeA 11 (some 14) 17 3510 HT_ HW_ hHeld ?_ (hy := by rintro w' ⟨s0, s1, s2, s3, s4⟩; go_simp; with_reducible rfl)
 refine pureA 13 (some 16) 17 11702 HT_ ?_
 refine takeA 14 (some 17) 17 28086 HT_ HW_ hHeld ?_ (hy := by rintro w' ⟨s0, s1, s2, s3, s4⟩; go_simp; with_reducible rfl)
 refine oneA 0 (some 3) 17 28087 HT_ (fun K hK => ?_)
 clear hHeld
 refine Kd.R_lit_step (Kd.int .i64) _ 3 ?hg (N := 3) ?hd (xs := ([] : List Int)) (inner := []) (ok := fun _ => True) (okp := fun _ => True) ?hr ?hp (fun _ hk => hk) trivial (Below.refl _ _) (Nat.le_refl _) (by simp) ?_
 (case hd => rfl)
 (case hg => rfl)
 (case hr => first | (go_simp; done) | (go_simp; rfl))
 (case hp => exact (Reps.none _ _))
 intro u0 W_ ho_ hb_ _ _
 replace HS := HS.new (A := rA KI 3 u0 []) hb_ ho_
 clear ho_ hb_
 obtain ⟨z10, z11, z12, z13, z14, f10, f11, f12, f13, f14⟩ := box5 (HS.blk 2)
 refine hK.out _ _ ⟨z10, z11, z12, z13, z14⟩ (fun hHeld => ?_)
 clear hK K z10 z11 z12 z13 z14 f10 f11 f12 f13 f14
 refine norm_ (a' := ?_) ?_ ?_
 rotate_left
 ·show Act.put _ (some 3) _ = _
  simp only [Act.put, List.setIfInBounds_toArray, List.set_cons_zero, List.set_cons_succ, i64_w, i32_w]
  rfl
 refine oneA 3 (some 6) 17 28095 HT_ (fun K hK => ?_)
 clear hHeld
 refine Sep.append KI (by rfl) (.tmp 3) (.tmp 5) 22 3 (.int .i64 0) 8 rfl Tryz.underlying22 info3 rfl (by decide) (by omega) u0 [] ks A0 ks.length c0 rfl rfl HS (Kd.C_below X0.out HS.base) (fun _ _ _ _ h => h) ?aL ?_
 (case aL => have := HN.out; simp only [List.length_nil]; omega)
 clear HS
 intro u4 W_ HS
 rw [List.nil_append] at HS
 obtain ⟨B0, d0, rfl⟩ := HS.slR 0
 obtain ⟨z10, z11, z12, z13, z14, f10, f11, f12, f13, f14⟩ := box5 (HS.blk 2)
 refine hK.out _ _ ⟨z10, z11, z12, z13, z14⟩ (fun hHeld => ?_)
 clear hK K z10 z11 z12 z13 z14 f10 f11 f12 f13 f14
 refine norm_ (a' := ?_) ?_ ?_
 rotate_left
 ·show Act.put _ (some 6) _ = _
  simp only [Act.put, List.setIfInBounds_toArray, List.set_cons_zero, List.set_cons_succ, i64_w, i32_w]
  rfl
 refine oneA 6 (some 9) 17 28159 HT_ (fun K hK => ?_)
 refine goes_ Tryz.func87 (by kernel_rfl) rfl #[.slice A1 ps.length c1] (by rfl) rfl rfl (by (try simp only [List.map_toArray, List.map_cons, List.map_nil]); first | done | rfl) ?_
 have HC_ := spec_l17Rows.calls k _ _ ps t1 _ (Kd.C_below X1.out HS.base) Y1.out T1.out
 refine HC_.mono ?_
 clear HC_ hHeld
 rintro e W_ ⟨u1, rfl, ho_, hb_⟩
 refine ⟨_, rfl, ?_⟩
 replace HS := HS.new (A := sA KT 62 u1 t1) hb_ ho_
 obtain ⟨B1, d1, rfl⟩ := HS.slS 0
 clear ho_ hb_
 obtain ⟨z10, z11, z12, z13, z14, f10, f11, f12, f13, f14⟩ := box5 (HS.blk 3)
 refine hK.out _ _ ⟨z10, z11, z12, z13, z14⟩ (fun hHeld => ?_)
 clear hK K z10 z11 z12 z13 z14 f10 f11 f12 f13 f14
 refine norm_ (a' := ?_) ?_ ?_
 rotate_left
 ·show Act.put _ (some 9) _ = _
  simp only [Act.put, List.setIfInBounds_toArray, List.set_cons_zero, List.set_cons_succ, i64_w, i32_w]
  rfl
 refine oneA 9 (some 12) 17 28671 HT_ (fun K hK => ?_)
 refine goes_ Tryz.func87 (by kernel_rfl) rfl #[.slice A2 ss.length c2] (by rfl) rfl rfl (by (try simp only [List.map_toArray, List.map_cons, List.map_nil]); first | done | rfl) ?_
 have HC_ := spec_l17Rows.calls k _ _ ss t2 _ (Kd.C_below X2.out HS.base) Y2.out T2.out
 refine HC_.mono ?_
 clear HC_ hHeld
 rintro e W_ ⟨u2, rfl, ho_, hb_⟩
 refine ⟨_, rfl, ?_⟩
 replace HS := HS.new (A := sA KT 62 u2 t2) hb_ ho_
 obtain ⟨B2, d2, rfl⟩ := HS.slS 0
 clear ho_ hb_
 obtain ⟨z10, z11, z12, z13, z14, f10, f11, f12, f13, f14⟩ := box5 (HS.blk 4)
 refine hK.out _ _ ⟨z10, z11, z12, z13, z14⟩ (fun hHeld => ?_)
 clear hK K z10 z11 z12 z13 z14 f10 f11 f12 f13 f14
 refine norm_ (a' := ?_) ?_ ?_
 rotate_left
 ·show Act.put _ (some 12) _ = _
  simp only [Act.put, List.setIfInBounds_toArray, List.set_cons_zero, List.set_cons_succ, i64_w, i32_w]
  rfl
 refine oneA 12 (some 15) 17 32767 HT_ (fun K hK => ?_)
 refine goes_ Tryz.func87 (by kernel_rfl) rfl #[.slice A3 ib.length c3] (by rfl) rfl rfl (by (try simp only [List.map_toArray, List.map_cons, List.map_nil]); first | done | rfl) ?_
 have HC_ := spec_l17Rows.calls k _ _ ib t3 _ (Kd.C_below X3.out HS.base) Y3.out T3.out
 refine HC_.mono ?_
 clear HC_ hHeld
 rintro e W_ ⟨u3, rfl, ho_, hb_⟩
 refine ⟨_, rfl, ?_⟩
 replace HS := HS.new (A := sA KT 62 u3 t3) hb_ ho_
 obtain ⟨B3, d3, rfl⟩ := HS.slS 0
 clear ho_ hb_
 obtain ⟨z10, z11, z12, z13, z14, f10, f11, f12, f13, f14⟩ := box5 (HS.blk 5)
 refine hK.out _ _ ⟨z10, z11, z12, z13, z14⟩ (fun hHeld => ?_)
 clear hK K z10 z11 z12 z13 z14 f10 f11 f12 f13 f14
 refine norm_ (a' := ?_) ?_ ?_
 rotate_left
 ·show Act.put _ (some 15) _ = _
  simp only [Act.put, List.setIfInBounds_toArray, List.set_cons_zero, List.set_cons_succ, i64_w, i32_w]
  rfl
 refine pureA 15 (some 18) 17 65535 HT_ ?_
 refine oneA 16 none 17 131071 HT_ (fun K hK => ?_)
 clear hHeld
 obtain ⟨z20, z21, z22, z23, z24, f20, f21, f22, f23, f24⟩ := box5 (HS.blk 4)
 refine skip_ (w1 := ?_) (by rfl) rfl ?_ ?_
 rotate_left
 ·go_simp
  rfl
 replace HS := (((((HS.putI 4 0 (.slice B0 ks.length d0) #[.slice B0 ks.length d0, .slice none 0 0, .slice none 0 0, .slice none 0 0, .int .i64 0]).putI 4 1 (.slice B1 t1.length d1) #[.slice B0 ks.length d0, .slice B1 t1.length d1, .slice none 0 0, .slice none 0 0, .int .i64 0]).putI 4 2 (.slice B2 t2.length d2) #[.slice B0 ks.length d0, .slice B1 t1.length d1, .slice B2 t2.length d2, .slice none 0 0, .int .i64 0]).putI 4 3 (.slice B3 t3.length d3) #[.slice B0 ks.length d0, .slice B1 t1.length d1, .slice B2 t2.length d2, .slice B3 t3.length d3, .int .i64 0]).putI 4 4 (.int .i64 sd) #[.slice B0 ks.length d0, .slice B1 t1.length d1, .slice B2 t2.length d2, .slice B3 t3.length d3, .int .i64 sd])
 clear z20 z21 z22 z23 z24 f20 f21 f22 f23 f24
 obtain ⟨z10, z11, z12, z13, z14, f10, f11, f12, f13, f14⟩ := box5 (HS.blk 5)
 refine hK.out _ _ ⟨z10, z11, z12, z13, z14⟩ (fun hHeld => ?_)
 clear hK K z10 z11 z12 z13 z14 f10 f11 f12 f13 f14
 refine done_ (done_of HT_.out (by kernel_rfl)) ?_
 clear HT_ HW_ hHeld
 go_wp2
 refine bodyPost_ret (results_cell_row rfl _ _ b2 27 #[.slice B0 ks.length d0, .slice B1 t1.length d1, .slice B2 t2.length d2, .slice B3 t3.length d3, .int .i64 sd] (0, 0) _ rfl (by exact (HS.blk 4).out) Tryz.underlying27 rfl (by kernel_rfl)) rfl ?_
 exact ⟨_, _, _, _, rfl, (HS.sel [3, 2, 1, 0]).cols, HS.base⟩

/-! ### spec_l4Key: function 109 -/
def spec_l4Key.f (a0 : Int) : Option (Bool) := (spec_l1In.f a0 0 65535).bind fun t186 => (some t186)
set_option maxHeartbeats 8000000 in
set_option maxRecDepth 100000 in
theorem spec_l4Key.calls (a0 : Int) (r : Bool) (w : World) (h : spec_l4Key.f a0 = some r) :
  Calls Tryz.prog 109 #[.int .i64 a0] w fun e w' => e = .returned (.bool r) ∧ Drawn0 w w' := by
 have H : ((spec_l1In.f a0 0 65535).bind fun t186 => (some t186)) = some r := h
 clear h; replace H := bS H; obtain ⟨t186, A2, H⟩ := H
 replace H : (some t186) = some r := H
 obtain rfl := Option.some.inj H
 go_enter Tryz.func109, Tryz.ntmps109
 go_wp2_with (first | ((with_reducible refine gate_callee (f := 79) rfl ?_); refine goesLa (some 4) rfl Tryz.func79 #[.int .i64 a0, .int .i64 0, .int .i64 65535] rfl ?_; (with_reducible refine (spec_l1In.calls a0 0 65535 t186 _ A2.out).mono ?_); rintro e w' ⟨rfl, ⟨nd, rfl⟩⟩; refine ⟨_, rfl, ?_⟩))
 go_ret
 exact ⟨er, drw⟩

/-! ### the words of xor: bytes of a conversion, written one by one -/
def xorT (a b : ByteArray) : ByteArray := strOfNums ((List.range a.size).map fun (i : Nat) => Go.bits .xor .u8 (bt a (i : Int)) (bt b (i : Int)))
/-- The row behind []byte(a), its first i bytes done. -/
def XorAt (a b : ByteArray) (g : Nat) (i : Int) (W : World) : Prop := ∃ cs e mk, W.heap[g]? = some (.cells cs e (cs.size, mk)) ∧ a.size ≤ cs.size ∧ ∀ j, j < a.size → cs[j]? = some (.int .u8 (if (j : Int) < i then Go.bits .xor .u8 (bt a (j : Int)) (bt b (j : Int)) else bt a (j : Int)))
theorem XorAt.start (a b : ByteArray) (W : World) (e : TypeId) : XorAt a b W.heap.size 0 (Lib.bytesWorld W e a) := by
 refine ⟨_, _, _, Lib.bytesWorld_at_new W e a, ?_, fun j hj => ?_⟩
 ·simp [Lib.bytesCells]
 ·have h := Lib.bytesWorld_cell W e a j hj
  have h' : j < a.data.toList.length := by rw [data_length]; exact hj
  simp only [World.cell?, Lib.bytesWorld_at_new] at h
  rw [if_neg (by omega)]
  refine Eq.trans (b := some (Value.int .u8 (a.data.toList.getD j 0).toNat)) h ?_
  have h2 : (a.data.toList.getD j 0).toNat = bt a (j : Int) := by
   have h3 : (j : Int).toNat < a.size := by omega
   simp only [bt, dif_pos h3, List.getD_eq_getElem?_getD, List.getElem?_eq_getElem h', Option.getD_some]
   rfl
  rw [h2]
theorem XorAt.cell {a b : ByteArray} {g : Nat} {i : Int} {W : World} (h : XorAt a b g i W) (h0 : 0 ≤ i) (h1 : i < (a.size : Int)) : W.cell? ⟨g, i.toNat, none⟩ = some (.int .u8 (bt a i)) ∧ W.frozen? ⟨g, i.toNat, none⟩ = false := by
 obtain ⟨cs, e, mk, hc, hs, hv⟩ := h
 have hi : i.toNat < a.size := by omega
 have hv' := hv i.toNat hi
 rw [if_neg (by omega), Int.toNat_of_nonneg h0] at hv'
 constructor
 ·simp only [World.cell?, hc]
  exact hv'
 ·simp only [World.frozen?, hc]
  simp
  omega
theorem XorAt.put {a b : ByteArray} {g : Nat} {i : Int} {W : World} (h : XorAt a b g i W) (h0 : 0 ≤ i) (h1 : i < (a.size : Int)) (hm : a.size ≤ 1048576) : XorAt a b g (wrap64 (i + 1)) (W.setCell ⟨g, i.toNat, none⟩ (.int .u8 (Go.bits .xor .u8 (bt a i) (bt b i)))) := by
 obtain ⟨cs, e, mk, hc, hs, hv⟩ := h
 refine ⟨cs.setIfInBounds i.toNat (.int .u8 (Go.bits .xor .u8 (bt a i) (bt b i))), e, mk, by simp [World.setCell, Array.getElem?_modify, hc], by simpa using hs, fun j hj => ?_⟩
 have hw : wrap64 (i + 1) = i + 1 := IntWalk.wrap64_in _ (by omega)
 rw [Array.getElem?_setIfInBounds, hw]
 by_cases e1 : i.toNat = j
 ·subst e1
  rw [if_pos rfl, if_pos (by omega), if_pos (by omega), Int.toNat_of_nonneg h0]
 ·rw [if_neg e1, hv j hj]
  by_cases e2 : (j : Int) < i
  ·rw [if_pos e2, if_pos (by omega)]
  ·rw [if_neg e2, if_neg (by omega)]
theorem XorAt.drew {a b : ByteArray} {g : Nat} {i : Int} {W : World} (h : XorAt a b g i W) (n : Nat) : XorAt a b g i (W.drewN n) := h
theorem XorAt.done {a b : ByteArray} {g : Nat} {i : Int} {W : World} (h : XorAt a b g i W) (h1 : ¬ i < (a.size : Int)) (hl : a.size ≤ 9223372036854775807) : ReadsInt W .u8 (some ⟨g, 0, none⟩) a.size ((List.range a.size).map fun (i : Nat) => Go.bits .xor .u8 (bt a (i : Int)) (bt b (i : Int))) := by
 obtain ⟨cs, e, mk, hc, hs, hv⟩ := h
 refine ⟨by simp, hl, fun _ => ⟨_, rfl, fun j hj => ?_⟩⟩
 have := hv j hj
 rw [if_pos (by omega)] at this
 rw [add_plain]
 simp only [World.cell?, hc]
 simpa [hj] using this
/-! ### spec_l7Xor: function 110 -/
def spec_l7Xor.f (k : Nat) (a0 a1 : ByteArray) : Option ByteArray := if a0.size ≤ a1.size then (if a0.size ≤ 1048576 then some (xorT a0 a1) else none) else none
theorem spec_l7Xor.mono : ∀ a0 a1 k, LeO (spec_l7Xor.f k a0 a1) (spec_l7Xor.f (k + 1) a0 a1) := fun _ _ _ => LeO.refl _
set_option maxHeartbeats 8000000 in
set_option maxRecDepth 100000 in
theorem spec_l7Xor.calls (k : Nat) (a0 a1 : ByteArray) (r : ByteArray) (w : World) (h : spec_l7Xor.f k a0 a1 = some r) :
 Calls Tryz.prog 110 #[.string a0, .string a1] w fun e w' => e = .returned (.string r) ∧ Below w.heap.size w w' := by
 unfold spec_l7Xor.f at h
 replace h := ifS h; obtain ⟨hl, h⟩ := h
 replace h := ifS h; obtain ⟨hm, h⟩ := h
 obtain rfl := Option.some.inj h
 clear h
 have HL := ak hl; have HM := ak hm; clear hl hm
 have HCV := ak (fun W => print_bytes (P := Tryz.prog) 9 56 5 Tryz.underlying9 Tryz.underlying56 Tryz.underlying5 a0 W)
 go_enter Tryz.func110, Tryz.ntmps110
 have HX0 := ak (XorAt.start a0 a1 w 5)
 have HB0 := ak (bytes_below (Below.refl w.heap.size w) (Nat.le_refl _) 5 a0)
 have HCW := HCV.out w
 clear HCV
 generalize hg : w.heap.size = g at HX0 HB0 HCW
 generalize hW : Lib.bytesWorld w 5 a0 = W1 at HX0 HB0 HCW
 generalize hcap : grownCap w a0.size 0 5 = cp at HCW
 clear hW hcap
 go_wp2_with (simp only [HCW, Result.andThen])
 clear HCW
 go_loopg [11] a0.size (fun kq v11 w' => ∃ (i : Int), v11 = .int .i64 i ∧ 0 ≤ i ∧ i ≤ a0.size ∧ (a0.size - i.toNat : Nat) ≤ kq ∧ Aside0 (XorAt a0 a1 g i w') ∧ Aside0 (Below g w w'))
 case atStart => exact ⟨0, rfl, Int.le_refl _, by omega, by omega, HX0, HB0⟩
 case round =>
 clear HX0 HB0
 obtain ⟨i, rfl, hi0, hi1, hk, HX, HB⟩ := hrel
 by_cases hlt : i < (a0.size : Int)
 ·have c1 : decide (i < (a0.size : Int)) = true := decide_eq_true hlt
  have p4 : 0 ≤ i := hi0
  have q4 : i < (a1.size : Int) := by have := HL.out; omega
  have hx4 := bt_at a1 i
  obtain ⟨hz, hf⟩ := HX.out.cell hi0 hlt
  have HX2 := ak ((show XorAt a0 a1 g i wr.drew from HX.out).put hi0 hlt HM.out)
  have HB2 := ak (Below.setCell (below_drew HB.out) (show g ≤ (Addr.mk g i.toNat none).block from Nat.le_refl _) (.int .u8 (Go.bits .xor .u8 (bt a0 i) (bt a1 i))))
  replace p4 := eq_true p4; replace q4 := eq_true q4; go_wp2
  go_region
  go_wp2
  go_roundg (a0.size - (i + 1).toNat)
  case measure => have := HM.out; omega
  case rel => exact ⟨wrap64 (i + 1), er, by rw [IntWalk.wrap64_in _ (by have := HM.out; omega)]; omega, by rw [IntWalk.wrap64_in _ (by have := HM.out; omega)]; omega, by rw [IntWalk.wrap64_in _ (by have := HM.out; omega)]; exact Nat.le_refl _, HX2, HB2⟩
 ·have c1 : decide (i < (a0.size : Int)) = false := decide_eq_false hlt
  have hcs := string_of_reads (P := Tryz.prog) (c := cp) Tryz.underlying56 Tryz.underlying5 Tryz.underlying9 (HX.out.done hlt (by have := HM.out; omega))
  go_wp2
  go_ret
  subst hg
  exact ⟨er, HB.out⟩

/-! ### spec_l4Keys: function 154 -/
def spec_l4Keys.f (k : Nat) (l0 : List Int) : Option (Bool) := if (l0.length : Int) ≤ 8 then ((spec_l1All.f k l0 0 65535).bind fun t187 => (some t187)) else (some false)
theorem spec_l4Keys.mono : ∀ a0 k, LeO (spec_l4Keys.f k a0) (spec_l4Keys.f (k + 1) a0) := by
 intro a0 k
 unfold spec_l4Keys.f
 repeat' (first | (with_reducible first | exact spec_l1All.mono _ _ _ _ | exact LeO.refl _ | exact LeO.none _ | refine LeO.ite ?_ ?_ | refine LeO.bind ?_ (fun _ => ?_)) | exact spec_l1All.mono _ _ _ _ | exact LeO.none _ | refine LeO.ite ?_ ?_ | refine LeO.bind ?_ (fun _ => ?_))
set_option maxHeartbeats 8000000 in
set_option maxRecDepth 100000 in
theorem spec_l4Keys.calls (k : Nat) (A0 : Option Addr) (c0 : Nat) (l0 : List Int) (r : Bool) (w : World) (hr0 : Kd.C (Kd.int .i64) w A0 l0.length l0) (hc0 : l0.length ≤ c0) (h : spec_l4Keys.f k l0 = some r) :
  Calls Tryz.prog 154 #[.slice A0 l0.length c0] w fun e w' => e = .returned (.bool r) ∧ Drawn0 w w' := by
 have HR0 := Aside0.mk hr0; have HC0 := Aside0.mk hc0; clear hr0 hc0
 have H : (if (l0.length : Int) ≤ 8 then ((spec_l1All.f k l0 0 65535).bind fun t187 => (some t187)) else (some false)) = some r := h
 clear h
 by_cases c2 : (l0.length : Int) ≤ 8
 ·rw [if_pos c2] at H
  have c2b0 : decide ((l0.length : Int) ≤ 8) = true := decide_eq_true c2
  have c2b1 : decide (l0.length ≤ 8) = true := decide_eq_true (by omega)
  clear c2; replace H := bS H; obtain ⟨t187, A3, H⟩ := H
  replace H : (some t187) = some r := H
  obtain rfl := Option.some.inj H
  go_enter Tryz.func154, Tryz.ntmps154
  go_wp2_with (first | (go_at_call 81; (with_reducible refine (spec_l1All.calls k _ _ l0 0 65535 t187 _ ?side1 ?side2 A3.out).mono ?_); (case side1 => exact cd HR0.out); (case side2 => exact HC0.out); rintro e w' ⟨rfl, ⟨nd, rfl⟩⟩))
  go_ret
  exact ⟨er, drw⟩
 ·rw [if_neg c2] at H
  have c2b0 : decide ((l0.length : Int) ≤ 8) = false := decide_eq_false c2
  have c2b1 : decide (l0.length ≤ 8) = false := decide_eq_false (by omega)
  clear c2
  obtain rfl := Option.some.inj H
  go_enter Tryz.func154, Tryz.ntmps154
  go_wp2
  go_ret
  exact ⟨er, drw⟩

/-! ### spec_l4Text: function 137 -/
def spec_l4Text.f (k : Nat) (l0 : List Int) (a1 : Int) (a2 : ByteArray) : Option (Bool) := (spec_l4Keys.f k l0).bind fun t188 => (if t188 = true then ((spec_l4Key.f a1).bind fun t189 => (if t189 = true then (if (a2.size : Int) ≤ 40 then (some (((a2.size : Int) % 2) == 0)) else (some false)) else (some false))) else (some false))
theorem spec_l4Text.mono : ∀ a0 a1 a2 k, LeO (spec_l4Text.f k a0 a1 a2) (spec_l4Text.f (k + 1) a0 a1 a2) := by
 intro a0 a1 a2 k
 unfold spec_l4Text.f
 repeat' (first | (with_reducible first | exact spec_l4Keys.mono _ _ | exact LeO.refl _ | exact LeO.none _ | refine LeO.ite ?_ ?_ | refine LeO.bind ?_ (fun _ => ?_)) | exact spec_l4Keys.mono _ _ | exact LeO.none _ | refine LeO.ite ?_ ?_ | refine LeO.bind ?_ (fun _ => ?_))
set_option maxHeartbeats 8000000 in
set_option maxRecDepth 100000 in
theorem spec_l4Text.calls (k : Nat) (A0 : Option Addr) (c0 : Nat) (l0 : List Int) (a1 : Int) (a2 : ByteArray) (r : Bool) (w : World) (hr0 : Kd.C (Kd.int .i64) w A0 l0.length l0) (hc0 : l0.length ≤ c0) (h : spec_l4Text.f k l0 a1 a2 = some r) :
  Calls Tryz.prog 137 #[.slice A0 l0.length c0, .int .i64 a1, .string a2] w fun e w' => e = .returned (.bool r) ∧ Drawn0 w w' := by
 have HR0 := Aside0.mk hr0; have HC0 := Aside0.mk hc0; clear hr0 hc0
 have H : ((spec_l4Keys.f k l0).bind fun t188 => (if t188 = true then ((spec_l4Key.f a1).bind fun t189 => (if t189 = true then (if (a2.size : Int) ≤ 40 then (some (((a2.size : Int) % 2) == 0)) else (some false)) else (some false))) else (some false))) = some r := h
 clear h; replace H := bS H; obtain ⟨t188, A4, H⟩ := H
 replace H : (if t188 = true then ((spec_l4Key.f a1).bind fun t189 => (if t189 = true then (if (a2.size : Int) ≤ 40 then (some (((a2.size : Int) % 2) == 0)) else (some false)) else (some false))) else (some false)) = some r := H
 by_cases c5 : t188 = true
 ·subst c5
  have H1 : ((spec_l4Key.f a1).bind fun t189 => (if t189 = true then (if (a2.size : Int) ≤ 40 then (some (((a2.size : Int) % 2) == 0)) else (some false)) else (some false))) = some r := by rw [if_pos rfl] at H; exact H
  clear H
  have H := H1
  clear H1; replace H := bS H; obtain ⟨t189, A6, H⟩ := H
  replace H : (if t189 = true then (if (a2.size : Int) ≤ 40 then (some (((a2.size : Int) % 2) == 0)) else (some false)) else (some false)) = some r := H
  by_cases c7 : t189 = true
  ·subst c7
   have H1 : (if (a2.size : Int) ≤ 40 then (some (((a2.size : Int) % 2) == 0)) else (some false)) = some r := by rw [if_pos rfl] at H; exact H
   clear H
   have H := H1
   clear H1
   by_cases c8 : (a2.size : Int) ≤ 40
   ·rw [if_pos c8] at H
    have c8b0 : decide ((a2.size : Int) ≤ 40) = true := decide_eq_true c8
    have c8b1 : decide (a2.size ≤ 40) = true := decide_eq_true (by omega)
    clear c8
    obtain rfl := Option.some.inj H
    go_enter Tryz.func137, Tryz.ntmps137
    go_wp2_with (first | ((with_reducible refine gate_callee (f := 154) rfl ?_); refine goesLa (some 8) rfl Tryz.func154 #[.slice A0 l0.length c0] rfl ?_; (with_reducible refine (spec_l4Keys.calls k _ _ l0 true _ ?side1 ?side2 A4.out).mono ?_); (case side1 => exact cd HR0.out); (case side2 => exact HC0.out); rintro e w' ⟨rfl, ⟨nd, rfl⟩⟩; refine ⟨_, rfl, ?_⟩) | (go_at_call 109; (with_reducible refine (spec_l4Key.calls a1 true _ A6.out).mono ?_); rintro e w' ⟨rfl, ⟨nd, rfl⟩⟩))
    go_ret
    exact ⟨er, drw⟩
   ·rw [if_neg c8] at H
    have c8b0 : decide ((a2.size : Int) ≤ 40) = false := decide_eq_false c8
    have c8b1 : decide (a2.size ≤ 40) = false := decide_eq_false (by omega)
    clear c8
    obtain rfl := Option.some.inj H
    go_enter Tryz.func137, Tryz.ntmps137
    go_wp2_with (first | ((with_reducible refine gate_callee (f := 154) rfl ?_); refine goesLa (some 8) rfl Tryz.func154 #[.slice A0 l0.length c0] rfl ?_; (with_reducible refine (spec_l4Keys.calls k _ _ l0 true _ ?side1 ?side2 A4.out).mono ?_); (case side1 => exact cd HR0.out); (case side2 => exact HC0.out); rintro e w' ⟨rfl, ⟨nd, rfl⟩⟩; refine ⟨_, rfl, ?_⟩) | (go_at_call 109; (with_reducible refine (spec_l4Key.calls a1 true _ A6.out).mono ?_); rintro e w' ⟨rfl, ⟨nd, rfl⟩⟩))
    go_ret
    exact ⟨er, drw⟩
  ·replace c7 := Bool.eq_false_iff.mpr c7
   subst c7
   have H1 : (some false) = some r := by rw [if_neg (show ¬ (false = true) by decide)] at H; exact H
   clear H
   have H := H1
   clear H1
   obtain rfl := Option.some.inj H
   go_enter Tryz.func137, Tryz.ntmps137
   go_wp2_with (first | ((with_reducible refine gate_callee (f := 154) rfl ?_); refine goesLa (some 8) rfl Tryz.func154 #[.slice A0 l0.length c0] rfl ?_; (with_reducible refine (spec_l4Keys.calls k _ _ l0 true _ ?side1 ?side2 A4.out).mono ?_); (case side1 => exact cd HR0.out); (case side2 => exact HC0.out); rintro e w' ⟨rfl, ⟨nd, rfl⟩⟩; refine ⟨_, rfl, ?_⟩) | (go_at_call 109; (with_reducible refine (spec_l4Key.calls a1 false _ A6.out).mono ?_); rintro e w' ⟨rfl, ⟨nd, rfl⟩⟩))
   go_ret
   exact ⟨er, drw⟩
 ·replace c5 := Bool.eq_false_iff.mpr c5
  subst c5
  have H1 : (some false) = some r := by rw [if_neg (show ¬ (false = true) by decide)] at H; exact H
  clear H
  have H := H1
  clear H1
  obtain rfl := Option.some.inj H
  go_enter Tryz.func137, Tryz.ntmps137
  go_wp2_with (first | ((with_reducible refine gate_callee (f := 154) rfl ?_); refine goesLa (some 8) rfl Tryz.func154 #[.slice A0 l0.length c0] rfl ?_; (with_reducible refine (spec_l4Keys.calls k _ _ l0 false _ ?side1 ?side2 A4.out).mono ?_); (case side1 => exact cd HR0.out); (case side2 => exact HC0.out); rintro e w' ⟨rfl, ⟨nd, rfl⟩⟩; refine ⟨_, rfl, ?_⟩))
  go_ret
  exact ⟨er, drw⟩

/-! ### spec_l4Round: function 155 -/
def spec_l4Round.f (a0 : Int) (a1 : Int) : Option (Int) := some (Int.tmod (Int.tmod (wrap64 ((wrap64 ((wrap64 ((Int.tmod (wrap64 (a1 + (Int.tmod a0 256))) 256) * (Int.tmod (wrap64 (a1 + (Int.tmod a0 256))) 256))) + (wrap64 ((Int.tmod (wrap64 (a1 + (Int.tmod a0 256))) 256) * (wrap64 (Int.tdiv a0 256)))))) + 29)) 65521) 256)
set_option maxHeartbeats 8000000 in
set_option maxRecDepth 100000 in
theorem spec_l4Round.calls (a0 : Int) (a1 : Int) (r : Int) (w : World) (h : spec_l4Round.f a0 a1 = some r) :
  Calls Tryz.prog 155 #[.int .i64 a0, .int .i64 a1] w fun e w' => e = .returned (.int .i64 r) ∧ Drawn0 w w' := by
 have H : (some (Int.tmod (Int.tmod (wrap64 ((wrap64 ((wrap64 ((Int.tmod (wrap64 (a1 + (Int.tmod a0 256))) 256) * (Int.tmod (wrap64 (a1 + (Int.tmod a0 256))) 256))) + (wrap64 ((Int.tmod (wrap64 (a1 + (Int.tmod a0 256))) 256) * (wrap64 (Int.tdiv a0 256)))))) + 29)) 65521) 256)) = some r := h
 clear h
 obtain rfl := Option.some.inj H
 go_enter Tryz.func155, Tryz.ntmps155
 go_wp2
 go_ret
 exact ⟨er, drw⟩

end Go.Proofs.YtihekdlcfohkkaaGreatDoor.QFnExactStepNet
