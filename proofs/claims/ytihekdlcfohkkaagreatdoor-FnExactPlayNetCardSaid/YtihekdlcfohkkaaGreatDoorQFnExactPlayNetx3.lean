-- printed by this session's own program (wip/tools/pp.py: the kit's print.py with changes); Lean checks it
import Derived.Test.YtihekdlcfohkkaaGreatDoorQFnExactPlayNetx0
import Derived.Test.YtihekdlcfohkkaaGreatDoorQFnExactPlayNetx2
namespace Go.Proofs.YtihekdlcfohkkaaGreatDoor.QFnExactPlayNet
open Go.RowKit Go.Proofs.YtihekdlcfohkkaaGreatDoorW.PrintWords Go.Proofs.YtihekdlcfohkkaaGreatDoorW.PrintLast Go.Proofs.YtihekdlcfohkkaaGreatDoorW.PrintMore
attribute [local go_sem] max2_int min2_int max_two min_two max_three min_three max_four min_four strLss strGtr strLeq strGeq   -- for this text's walks alone
set_option linter.unusedVariables false
set_option linter.unusedSimpArgs false

/-! ### spec_GoodNet: function 42 -/
mutual
def spec_GoodNet.j0 : Nat → Bool → List Int → List (List ByteArray) → List (List ByteArray) → List (List ByteArray) → Int → Option (Bool)
  | 0, _, _, _, _, _, _ => none
  | k + 1, x49, x139000, x139001, x139002, x139003, x139004 => if x49 = true then (some false) else (spec_GoodNet.l0 k x139001 (x139001.length : Int) 0 x139000 x139001 x139002 x139003 x139004)
def spec_GoodNet.l0 : Nat → List (List ByteArray) → Int → Int → List Int → List (List ByteArray) → List (List ByteArray) → List (List ByteArray) → Int → Option (Bool)
  | 0, _, _, _, _, _, _, _, _ => none
  | k + 1, x51, x52, x53, x139000, x139001, x139002, x139003, x139004 => if x53 < x52 then (if 0 ≤ x53 then (if x53 < (x51.length : Int) then ((spec_l17Onions.f k (rd_L2 x51 x53)).bind fun t143 => (if t143 = true then (if x53 < (x139002.length : Int) then ((spec_l17Onions.f k (rd_L2 x139002 x53)).bind fun t145 => (spec_GoodNet.j2 k x53 (rd_L2 x51 x53) x51 x52 x53 (!t145) x139000 x139001 x139002 x139003 x139004)) else (none)) else (spec_GoodNet.j2 k x53 (rd_L2 x51 x53) x51 x52 x53 true x139000 x139001 x139002 x139003 x139004))) else (none)) else (none)) else (spec_GoodNet.l2 k x139003 (x139003.length : Int) 0)
def spec_GoodNet.j2 : Nat → Int → List ByteArray → List (List ByteArray) → Int → Int → Bool → List Int → List (List ByteArray) → List (List ByteArray) → List (List ByteArray) → Int → Option (Bool)
  | 0, _, _, _, _, _, _, _, _, _, _, _ => none
  | k + 1, x4, x5, x51, x52, x53, x69, x139000, x139001, x139002, x139003, x139004 => if x69 = true then (some false) else (spec_GoodNet.l1 k x4 x51 x52 x53 x5 (x5.length : Int) 0 x139000 x139001 x139002 x139003 x139004)
def spec_GoodNet.l1 : Nat → Int → List (List ByteArray) → Int → Int → List ByteArray → Int → Int → List Int → List (List ByteArray) → List (List ByteArray) → List (List ByteArray) → Int → Option (Bool)
  | 0, _, _, _, _, _, _, _, _, _, _, _, _ => none
  | k + 1, x4, x51, x52, x53, x70, x71, x72, x139000, x139001, x139002, x139003, x139004 => if x72 < x71 then (if 0 ≤ x72 then (if x72 < (x70.length : Int) then (if 0 ≤ x4 then (if x4 < (x139002.length : Int) then ((spec_l17Has.f k (rd_L2 x139002 x4) (rdOf ByteArray.empty x70 x72)).bind fun t148 => (if t148 = true then (spec_GoodNet.l1 k x4 x51 x52 x53 x70 x71 (wrap64 (x72 + 1)) x139000 x139001 x139002 x139003 x139004) else (some false))) else (none)) else (none)) else (none)) else (none)) else (spec_GoodNet.l0 k x51 x52 (wrap64 (x53 + 1)) x139000 x139001 x139002 x139003 x139004)
def spec_GoodNet.l2 : Nat → List (List ByteArray) → Int → Int → Option (Bool)
  | 0, _, _, _ => none
  | k + 1, x87, x88, x89 => if x89 < x88 then (if 0 ≤ x89 then (if x89 < (x87.length : Int) then (spec_GoodNet.l3 k (rd_L2 x87 x89) x87 x88 x89 (rd_L2 x87 x89) ((rd_L2 x87 x89).length : Int) 0) else (none)) else (none)) else (some true)
def spec_GoodNet.l3 : Nat → List ByteArray → List (List ByteArray) → Int → Int → List ByteArray → Int → Int → Option (Bool)
  | 0, _, _, _, _, _, _, _ => none
  | k + 1, x9, x87, x88, x89, x93, x94, x95 => if x95 < x94 then (if 0 ≤ x95 then (if x95 < (x93.length : Int) then ((spec_l1In.f ((rdOf ByteArray.empty x93 x95).size : Int) 1 15).bind fun t151 => (if t151 = true then (spec_GoodNet.l3 k x9 x87 x88 x89 x93 x94 (wrap64 (x95 + 1))) else (some false))) else (none)) else (none)) else (if (x9.length : Int) > 60 then (some false) else (spec_GoodNet.l2 k x87 x88 (wrap64 (x89 + 1))))
end
def spec_GoodNet.f (k : Nat) (l0_0 : List Int) (l0_1 : List (List ByteArray)) (l0_2 : List (List ByteArray)) (l0_3 : List (List ByteArray)) (a0_4 : Int) : Option (Bool) := (spec_l1In.f (l0_0.length : Int) 1 4).bind fun t139 => (if t139 = true then ((spec_l1All.f k l0_0 0 65535).bind fun t140 => (if t140 = true then (if (l0_1.length : Int) = (l0_0.length : Int) then (if (l0_2.length : Int) = (l0_0.length : Int) then (if (l0_3.length : Int) = 4 then ((spec_l1In.f a0_4 0 60).bind fun t141 => (spec_GoodNet.j0 k (!t141) l0_0 l0_1 l0_2 l0_3 a0_4)) else (spec_GoodNet.j0 k true l0_0 l0_1 l0_2 l0_3 a0_4)) else (spec_GoodNet.j0 k true l0_0 l0_1 l0_2 l0_3 a0_4)) else (spec_GoodNet.j0 k true l0_0 l0_1 l0_2 l0_3 a0_4)) else (spec_GoodNet.j0 k true l0_0 l0_1 l0_2 l0_3 a0_4))) else (spec_GoodNet.j0 k true l0_0 l0_1 l0_2 l0_3 a0_4))
theorem spec_GoodNet.mono_l : ∀ k, (∀ y0 y1 y2 y3 y4 y5, LeO (spec_GoodNet.j0 k y0 y1 y2 y3 y4 y5) (spec_GoodNet.j0 (k + 1) y0 y1 y2 y3 y4 y5)) ∧ (∀ y0 y1 y2 y3 y4 y5 y6 y7, LeO (spec_GoodNet.l0 k y0 y1 y2 y3 y4 y5 y6 y7) (spec_GoodNet.l0 (k + 1) y0 y1 y2 y3 y4 y5 y6 y7)) ∧ (∀ y0 y1 y2 y3 y4 y5 y6 y7 y8 y9 y10, LeO (spec_GoodNet.j2 k y0 y1 y2 y3 y4 y5 y6 y7 y8 y9 y10) (spec_GoodNet.j2 (k + 1) y0 y1 y2 y3 y4 y5 y6 y7 y8 y9 y10)) ∧ (∀ y0 y1 y2 y3 y4 y5 y6 y7 y8 y9 y10 y11, LeO (spec_GoodNet.l1 k y0 y1 y2 y3 y4 y5 y6 y7 y8 y9 y10 y11) (spec_GoodNet.l1 (k + 1) y0 y1 y2 y3 y4 y5 y6 y7 y8 y9 y10 y11)) ∧ (∀ y0 y1 y2, LeO (spec_GoodNet.l2 k y0 y1 y2) (spec_GoodNet.l2 (k + 1) y0 y1 y2)) ∧ (∀ y0 y1 y2 y3 y4 y5 y6, LeO (spec_GoodNet.l3 k y0 y1 y2 y3 y4 y5 y6) (spec_GoodNet.l3 (k + 1) y0 y1 y2 y3 y4 y5 y6))
 | 0 => ⟨fun _ _ _ _ _ _ r h => by simp [spec_GoodNet.j0] at h, fun _ _ _ _ _ _ _ _ r h => by simp [spec_GoodNet.l0] at h, fun _ _ _ _ _ _ _ _ _ _ _ r h => by simp [spec_GoodNet.j2] at h, fun _ _ _ _ _ _ _ _ _ _ _ _ r h => by simp [spec_GoodNet.l1] at h, fun _ _ _ r h => by simp [spec_GoodNet.l2] at h, fun _ _ _ _ _ _ _ r h => by simp [spec_GoodNet.l3] at h⟩
 | k + 1 => by
  obtain ⟨ih0, ih1, ih2, ih3, ih4, ih5⟩ := spec_GoodNet.mono_l k
  refine ⟨?_, ?_, ?_, ?_, ?_, ?_⟩
  ·intro y0 y1 y2 y3 y4 y5
   unfold spec_GoodNet.j0
   repeat' (first | (with_reducible first | exact ih0 _ _ _ _ _ _ | exact ih1 _ _ _ _ _ _ _ _ | exact ih2 _ _ _ _ _ _ _ _ _ _ _ | exact ih3 _ _ _ _ _ _ _ _ _ _ _ _ | exact ih4 _ _ _ | exact ih5 _ _ _ _ _ _ _ | exact spec_l17Has.mono _ _ _ | exact spec_l17Onions.mono _ _ | exact spec_l1All.mono _ _ _ _ | exact LeO.refl _ | exact LeO.none _ | refine LeO.ite ?_ ?_ | refine LeO.bind ?_ (fun _ => ?_)) | exact ih0 _ _ _ _ _ _ | exact ih1 _ _ _ _ _ _ _ _ | exact ih2 _ _ _ _ _ _ _ _ _ _ _ | exact ih3 _ _ _ _ _ _ _ _ _ _ _ _ | exact ih4 _ _ _ | exact ih5 _ _ _ _ _ _ _ | exact spec_l17Has.mono _ _ _ | exact spec_l17Onions.mono _ _ | exact spec_l1All.mono _ _ _ _ | exact LeO.none _ | refine LeO.ite ?_ ?_ | refine LeO.bind ?_ (fun _ => ?_))
  ·intro y0 y1 y2 y3 y4 y5 y6 y7
   unfold spec_GoodNet.l0
   repeat' (first | (with_reducible first | exact ih0 _ _ _ _ _ _ | exact ih1 _ _ _ _ _ _ _ _ | exact ih2 _ _ _ _ _ _ _ _ _ _ _ | exact ih3 _ _ _ _ _ _ _ _ _ _ _ _ | exact ih4 _ _ _ | exact ih5 _ _ _ _ _ _ _ | exact spec_l17Has.mono _ _ _ | exact spec_l17Onions.mono _ _ | exact spec_l1All.mono _ _ _ _ | exact LeO.refl _ | exact LeO.none _ | refine LeO.ite ?_ ?_ | refine LeO.bind ?_ (fun _ => ?_)) | exact ih0 _ _ _ _ _ _ | exact ih1 _ _ _ _ _ _ _ _ | exact ih2 _ _ _ _ _ _ _ _ _ _ _ | exact ih3 _ _ _ _ _ _ _ _ _ _ _ _ | exact ih4 _ _ _ | exact ih5 _ _ _ _ _ _ _ | exact spec_l17Has.mono _ _ _ | exact spec_l17Onions.mono _ _ | exact spec_l1All.mono _ _ _ _ | exact LeO.none _ | refine LeO.ite ?_ ?_ | refine LeO.bind ?_ (fun _ => ?_))
  ·intro y0 y1 y2 y3 y4 y5 y6 y7 y8 y9 y10
   unfold spec_GoodNet.j2
   repeat' (first | (with_reducible first | exact ih0 _ _ _ _ _ _ | exact ih1 _ _ _ _ _ _ _ _ | exact ih2 _ _ _ _ _ _ _ _ _ _ _ | exact ih3 _ _ _ _ _ _ _ _ _ _ _ _ | exact ih4 _ _ _ | exact ih5 _ _ _ _ _ _ _ | exact spec_l17Has.mono _ _ _ | exact spec_l17Onions.mono _ _ | exact spec_l1All.mono _ _ _ _ | exact LeO.refl _ | exact LeO.none _ | refine LeO.ite ?_ ?_ | refine LeO.bind ?_ (fun _ => ?_)) | exact ih0 _ _ _ _ _ _ | exact ih1 _ _ _ _ _ _ _ _ | exact ih2 _ _ _ _ _ _ _ _ _ _ _ | exact ih3 _ _ _ _ _ _ _ _ _ _ _ _ | exact ih4 _ _ _ | exact ih5 _ _ _ _ _ _ _ | exact spec_l17Has.mono _ _ _ | exact spec_l17Onions.mono _ _ | exact spec_l1All.mono _ _ _ _ | exact LeO.none _ | refine LeO.ite ?_ ?_ | refine LeO.bind ?_ (fun _ => ?_))
  ·intro y0 y1 y2 y3 y4 y5 y6 y7 y8 y9 y10 y11
   unfold spec_GoodNet.l1
   repeat' (first | (with_reducible first | exact ih0 _ _ _ _ _ _ | exact ih1 _ _ _ _ _ _ _ _ | exact ih2 _ _ _ _ _ _ _ _ _ _ _ | exact ih3 _ _ _ _ _ _ _ _ _ _ _ _ | exact ih4 _ _ _ | exact ih5 _ _ _ _ _ _ _ | exact spec_l17Has.mono _ _ _ | exact spec_l17Onions.mono _ _ | exact spec_l1All.mono _ _ _ _ | exact LeO.refl _ | exact LeO.none _ | refine LeO.ite ?_ ?_ | refine LeO.bind ?_ (fun _ => ?_)) | exact ih0 _ _ _ _ _ _ | exact ih1 _ _ _ _ _ _ _ _ | exact ih2 _ _ _ _ _ _ _ _ _ _ _ | exact ih3 _ _ _ _ _ _ _ _ _ _ _ _ | exact ih4 _ _ _ | exact ih5 _ _ _ _ _ _ _ | exact spec_l17Has.mono _ _ _ | exact spec_l17Onions.mono _ _ | exact spec_l1All.mono _ _ _ _ | exact LeO.none _ | refine LeO.ite ?_ ?_ | refine LeO.bind ?_ (fun _ => ?_))
  ·intro y0 y1 y2
   unfold spec_GoodNet.l2
   repeat' (first | (with_reducible first | exact ih0 _ _ _ _ _ _ | exact ih1 _ _ _ _ _ _ _ _ | exact ih2 _ _ _ _ _ _ _ _ _ _ _ | exact ih3 _ _ _ _ _ _ _ _ _ _ _ _ | exact ih4 _ _ _ | exact ih5 _ _ _ _ _ _ _ | exact spec_l17Has.mono _ _ _ | exact spec_l17Onions.mono _ _ | exact spec_l1All.mono _ _ _ _ | exact LeO.refl _ | exact LeO.none _ | refine LeO.ite ?_ ?_ | refine LeO.bind ?_ (fun _ => ?_)) | exact ih0 _ _ _ _ _ _ | exact ih1 _ _ _ _ _ _ _ _ | exact ih2 _ _ _ _ _ _ _ _ _ _ _ | exact ih3 _ _ _ _ _ _ _ _ _ _ _ _ | exact ih4 _ _ _ | exact ih5 _ _ _ _ _ _ _ | exact spec_l17Has.mono _ _ _ | exact spec_l17Onions.mono _ _ | exact spec_l1All.mono _ _ _ _ | exact LeO.none _ | refine LeO.ite ?_ ?_ | refine LeO.bind ?_ (fun _ => ?_))
  ·intro y0 y1 y2 y3 y4 y5 y6
   unfold spec_GoodNet.l3
   repeat' (first | (with_reducible first | exact ih0 _ _ _ _ _ _ | exact ih1 _ _ _ _ _ _ _ _ | exact ih2 _ _ _ _ _ _ _ _ _ _ _ | exact ih3 _ _ _ _ _ _ _ _ _ _ _ _ | exact ih4 _ _ _ | exact ih5 _ _ _ _ _ _ _ | exact spec_l17Has.mono _ _ _ | exact spec_l17Onions.mono _ _ | exact spec_l1All.mono _ _ _ _ | exact LeO.refl _ | exact LeO.none _ | refine LeO.ite ?_ ?_ | refine LeO.bind ?_ (fun _ => ?_)) | exact ih0 _ _ _ _ _ _ | exact ih1 _ _ _ _ _ _ _ _ | exact ih2 _ _ _ _ _ _ _ _ _ _ _ | exact ih3 _ _ _ _ _ _ _ _ _ _ _ _ | exact ih4 _ _ _ | exact ih5 _ _ _ _ _ _ _ | exact spec_l17Has.mono _ _ _ | exact spec_l17Onions.mono _ _ | exact spec_l1All.mono _ _ _ _ | exact LeO.none _ | refine LeO.ite ?_ ?_ | refine LeO.bind ?_ (fun _ => ?_))
theorem spec_GoodNet.mono : ∀ a0 a1 a2 a3 a4 k, LeO (spec_GoodNet.f k a0 a1 a2 a3 a4) (spec_GoodNet.f (k + 1) a0 a1 a2 a3 a4) := by
 intro a0 a1 a2 a3 a4 k
 obtain ⟨ih0, ih1, ih2, ih3, ih4, ih5⟩ := spec_GoodNet.mono_l k
 unfold spec_GoodNet.f
 repeat' (first | (with_reducible first | exact ih0 _ _ _ _ _ _ | exact ih1 _ _ _ _ _ _ _ _ | exact ih2 _ _ _ _ _ _ _ _ _ _ _ | exact ih3 _ _ _ _ _ _ _ _ _ _ _ _ | exact ih4 _ _ _ | exact ih5 _ _ _ _ _ _ _ | exact spec_l17Has.mono _ _ _ | exact spec_l17Onions.mono _ _ | exact spec_l1All.mono _ _ _ _ | exact LeO.refl _ | exact LeO.none _ | refine LeO.ite ?_ ?_ | refine LeO.bind ?_ (fun _ => ?_)) | exact ih0 _ _ _ _ _ _ | exact ih1 _ _ _ _ _ _ _ _ | exact ih2 _ _ _ _ _ _ _ _ _ _ _ | exact ih3 _ _ _ _ _ _ _ _ _ _ _ _ | exact ih4 _ _ _ | exact ih5 _ _ _ _ _ _ _ | exact spec_l17Has.mono _ _ _ | exact spec_l17Onions.mono _ _ | exact spec_l1All.mono _ _ _ _ | exact LeO.none _ | refine LeO.ite ?_ ?_ | refine LeO.bind ?_ (fun _ => ?_))
set_option maxHeartbeats 8000000 in
set_option maxRecDepth 100000 in
theorem spec_GoodNet.calls (k : Nat) (A0_0 : Option Addr) (c0_0 : Nat) (l0_0 : List Int) (A0_1 : Option Addr) (c0_1 : Nat) (l0_1 : List (List ByteArray)) (A0_2 : Option Addr) (c0_2 : Nat) (l0_2 : List (List ByteArray)) (A0_3 : Option Addr) (c0_3 : Nat) (l0_3 : List (List ByteArray)) (a0_4 : Int) (r : Bool) (w : World) (hr0_0 : Kd.C (Kd.int .i64) w A0_0 l0_0.length l0_0) (hc0_0 : l0_0.length ≤ c0_0) (hr0_1 : Kd.C (Kd.slice 9 Kd.string) w A0_1 l0_1.length l0_1) (hc0_1 : l0_1.length ≤ c0_1) (hr0_2 : Kd.C (Kd.slice 9 Kd.string) w A0_2 l0_2.length l0_2) (hc0_2 : l0_2.length ≤ c0_2) (hr0_3 : Kd.C (Kd.slice 9 Kd.string) w A0_3 l0_3.length l0_3) (hc0_3 : l0_3.length ≤ c0_3) (h : spec_GoodNet.f k l0_0 l0_1 l0_2 l0_3 a0_4 = some r) :
  Calls Tryz.prog 42 #[.agg #[.slice A0_0 l0_0.length c0_0, .slice A0_1 l0_1.length c0_1, .slice A0_2 l0_2.length c0_2, .slice A0_3 l0_3.length c0_3, .int .i64 a0_4]] w fun e w' => e = .returned (.bool r) ∧ Below w.heap.size w w' := by
 have hu27 := Tryz.underlying27
 have HR0_0 := Aside0.mk hr0_0; have HC0_0 := Aside0.mk hc0_0; clear hr0_0 hc0_0; have HR0_1 := Aside0.mk hr0_1; have HC0_1 := Aside0.mk hc0_1; clear hr0_1 hc0_1; have HR0_2 := Aside0.mk hr0_2; have HC0_2 := Aside0.mk hc0_2; clear hr0_2 hc0_2; have HR0_3 := Aside0.mk hr0_3; have HC0_3 := Aside0.mk hc0_3; clear hr0_3 hc0_3
 have HB := Aside0.mk (Below.refl w.heap.size w)
 have H : ((spec_l1In.f (l0_0.length : Int) 1 4).bind fun t139 => (if t139 = true then ((spec_l1All.f k l0_0 0 65535).bind fun t140 => (if t140 = true then (if (l0_1.length : Int) = (l0_0.length : Int) then (if (l0_2.length : Int) = (l0_0.length : Int) then (if (l0_3.length : Int) = 4 then ((spec_l1In.f a0_4 0 60).bind fun t141 => (spec_GoodNet.j0 k (!t141) l0_0 l0_1 l0_2 l0_3 a0_4)) else (spec_GoodNet.j0 k true l0_0 l0_1 l0_2 l0_3 a0_4)) else (spec_GoodNet.j0 k true l0_0 l0_1 l0_2 l0_3 a0_4)) else (spec_GoodNet.j0 k true l0_0 l0_1 l0_2 l0_3 a0_4)) else (spec_GoodNet.j0 k true l0_0 l0_1 l0_2 l0_3 a0_4))) else (spec_GoodNet.j0 k true l0_0 l0_1 l0_2 l0_3 a0_4))) = some r := h
 clear h; have HC2 := Aside0.mk H; clear H
 go_enter Tryz.func42, Tryz.ntmps42
 go_upto_region 2 with (first | ((with_reducible refine gate_dst (N := 1) rfl ?_); (try (refine gate_guard (by rfl) ?_; dsimp only)); refine boxev 1 #[.slice A0_0 l0_0.length c0_0, .slice A0_1 l0_1.length c0_1, .slice A0_2 l0_2.length c0_2, .slice A0_3 l0_3.length c0_3, .int .i64 a0_4] 27 ?_; intro gb138 hg w3 hbox hb; have BK138 := ak (hbox); have GW138 := ak (hgl hg (belowd HB)); have GE138 := ak (hgl hg (belowd HB)); replace HB := ak (below_step (belowd HB) hb); clear hb hbox hg; obtain ⟨hcz4_0, hcz4_1, hcz4_2, hcz4_3, hcz4_4, hfz4_0, hfz4_1, hfz4_2, hfz4_3, hfz4_4⟩ := box5 BK138))
 (try simp only [Act.put, List.setIfInBounds_toArray, List.set_cons_zero, List.set_cons_succ])
 go_cut [49] (fun v49 wc => ∃ (kq : Nat) (x49_1 : Bool), v49 = .bool x49_1 ∧ Aside0 (spec_GoodNet.j0 kq x49_1 l0_0 l0_1 l0_2 l0_3 a0_4 = some r) ∧ Aside0 (kq ≤ k) ∧ Aside0 (wc.heap[gb138]? = some (.cells #[(.slice A0_0 l0_0.length c0_0), (.slice A0_1 l0_1.length c0_1), (.slice A0_2 l0_2.length c0_2), (.slice A0_3 l0_3.length c0_3), .int .i64 a0_4] 27 (0, 0))) ∧ Aside0 (Below w.heap.size w wc))
 case first =>
  have H := HC2.out; clear HC2; replace H := bS H; obtain ⟨t139, A5, H⟩ := H
  replace H : (if t139 = true then ((spec_l1All.f k l0_0 0 65535).bind fun t140 => (if t140 = true then (if (l0_1.length : Int) = (l0_0.length : Int) then (if (l0_2.length : Int) = (l0_0.length : Int) then (if (l0_3.length : Int) = 4 then ((spec_l1In.f a0_4 0 60).bind fun t141 => (spec_GoodNet.j0 k (!t141) l0_0 l0_1 l0_2 l0_3 a0_4)) else (spec_GoodNet.j0 k true l0_0 l0_1 l0_2 l0_3 a0_4)) else (spec_GoodNet.j0 k true l0_0 l0_1 l0_2 l0_3 a0_4)) else (spec_GoodNet.j0 k true l0_0 l0_1 l0_2 l0_3 a0_4)) else (spec_GoodNet.j0 k true l0_0 l0_1 l0_2 l0_3 a0_4))) else (spec_GoodNet.j0 k true l0_0 l0_1 l0_2 l0_3 a0_4)) = some r := H
  by_cases c6 : t139 = true
  ·subst c6
   have H1 : ((spec_l1All.f k l0_0 0 65535).bind fun t140 => (if t140 = true then (if (l0_1.length : Int) = (l0_0.length : Int) then (if (l0_2.length : Int) = (l0_0.length : Int) then (if (l0_3.length : Int) = 4 then ((spec_l1In.f a0_4 0 60).bind fun t141 => (spec_GoodNet.j0 k (!t141) l0_0 l0_1 l0_2 l0_3 a0_4)) else (spec_GoodNet.j0 k true l0_0 l0_1 l0_2 l0_3 a0_4)) else (spec_GoodNet.j0 k true l0_0 l0_1 l0_2 l0_3 a0_4)) else (spec_GoodNet.j0 k true l0_0 l0_1 l0_2 l0_3 a0_4)) else (spec_GoodNet.j0 k true l0_0 l0_1 l0_2 l0_3 a0_4))) = some r := by rw [if_pos rfl] at H; exact H
   clear H
   have H := H1
   clear H1; replace H := bS H; obtain ⟨t140, A7, H⟩ := H
   replace H : (if t140 = true then (if (l0_1.length : Int) = (l0_0.length : Int) then (if (l0_2.length : Int) = (l0_0.length : Int) then (if (l0_3.length : Int) = 4 then ((spec_l1In.f a0_4 0 60).bind fun t141 => (spec_GoodNet.j0 k (!t141) l0_0 l0_1 l0_2 l0_3 a0_4)) else (spec_GoodNet.j0 k true l0_0 l0_1 l0_2 l0_3 a0_4)) else (spec_GoodNet.j0 k true l0_0 l0_1 l0_2 l0_3 a0_4)) else (spec_GoodNet.j0 k true l0_0 l0_1 l0_2 l0_3 a0_4)) else (spec_GoodNet.j0 k true l0_0 l0_1 l0_2 l0_3 a0_4)) = some r := H
   by_cases c8 : t140 = true
   ·subst c8
    have H1 : (if (l0_1.length : Int) = (l0_0.length : Int) then (if (l0_2.length : Int) = (l0_0.length : Int) then (if (l0_3.length : Int) = 4 then ((spec_l1In.f a0_4 0 60).bind fun t141 => (spec_GoodNet.j0 k (!t141) l0_0 l0_1 l0_2 l0_3 a0_4)) else (spec_GoodNet.j0 k true l0_0 l0_1 l0_2 l0_3 a0_4)) else (spec_GoodNet.j0 k true l0_0 l0_1 l0_2 l0_3 a0_4)) else (spec_GoodNet.j0 k true l0_0 l0_1 l0_2 l0_3 a0_4)) = some r := by rw [if_pos rfl] at H; exact H
    clear H
    have H := H1
    clear H1
    by_cases c9 : (l0_1.length : Int) = (l0_0.length : Int)
    ·rw [if_pos c9] at H
     have c9b0 : ((l0_1.length : Int) == (l0_0.length : Int)) = true := beq_iff_eq.mpr c9
     have c9b1 : ((l0_1.length : Int) != (l0_0.length : Int)) = false := bne_eq_false_iff_eq.mpr c9
     have c9b2 : (l0_1.length == l0_0.length) = true := by first | simpa using c9 | (simp at c9 ⊢; omega)
     clear c9
     (first | rw [c9b0] | (simp only [i64_w, i32_w]; rw [c9b0]) | skip)
     by_cases c10 : (l0_2.length : Int) = (l0_0.length : Int)
     ·rw [if_pos c10] at H
      have c10b0 : ((l0_2.length : Int) == (l0_0.length : Int)) = true := beq_iff_eq.mpr c10
      have c10b1 : ((l0_2.length : Int) != (l0_0.length : Int)) = false := bne_eq_false_iff_eq.mpr c10
      have c10b2 : (l0_2.length == l0_0.length) = true := by first | simpa using c10 | (simp at c10 ⊢; omega)
      clear c10
      by_cases c11 : (l0_3.length : Int) = 4
      ·rw [if_pos c11] at H
       have c11b0 : ((l0_3.length : Int) == 4) = true := beq_iff_eq.mpr c11
       have c11b1 : ((l0_3.length : Int) != 4) = false := bne_eq_false_iff_eq.mpr c11
       clear c11; replace H := bS H; obtain ⟨t141, A12, H⟩ := H
       replace H : (spec_GoodNet.j0 k (!t141) l0_0 l0_1 l0_2 l0_3 a0_4) = some r := H
       have H' := Aside0.mk H
       clear H
       go_wp2_with (first | ((with_reducible refine gate_callee (f := 79) rfl ?_); refine goesLa (some 16) rfl Tryz.func79 #[.int .i64 (l0_0.length : Int), .int .i64 1, .int .i64 4] rfl ?_; (with_reducible refine (spec_l1In.calls (l0_0.length : Int) 1 4 true _ A5.out).mono ?_); rintro e w' ⟨rfl, ⟨nd, rfl⟩⟩; refine ⟨_, rfl, ?_⟩; obtain ⟨hcz13_0, hcz13_1, hcz13_2, hcz13_3, hcz13_4, hfz13_0, hfz13_1, hfz13_2, hfz13_3, hfz13_4⟩ := box5 BK138) | (go_at_call 81; (with_reducible refine (spec_l1All.calls k _ _ l0_0 0 65535 true _ ?side1 ?side2 A7.out).mono ?_); (case side1 => exact cd (Kd.C_below HR0_0.out (belowg1 HB GE138))); (case side2 => exact HC0_0.out); rintro e w' ⟨rfl, ⟨nd, rfl⟩⟩) | (go_at_call 79; (with_reducible refine (spec_l1In.calls a0_4 0 60 t141 _ A12.out).mono ?_); rintro e w' ⟨rfl, ⟨nd, rfl⟩⟩))
       go_meet
       case rel => exact ⟨_, (!t141), er, H', ⟨by first | omega | exact Nat.le_refl _⟩, ⟨blkd BK138⟩, ⟨belowg1 HB GE138⟩⟩
      ·rw [if_neg c11] at H
       have c11b0 : ((l0_3.length : Int) == 4) = false := beq_eq_false_iff_ne.mpr c11
       have c11b1 : ((l0_3.length : Int) != 4) = true := bne_iff_ne.mpr c11
       have H' := Aside0.mk H
       clear H
       go_wp2_with (first | ((with_reducible refine gate_callee (f := 79) rfl ?_); refine goesLa (some 16) rfl Tryz.func79 #[.int .i64 (l0_0.length : Int), .int .i64 1, .int .i64 4] rfl ?_; (with_reducible refine (spec_l1In.calls (l0_0.length : Int) 1 4 true _ A5.out).mono ?_); rintro e w' ⟨rfl, ⟨nd, rfl⟩⟩; refine ⟨_, rfl, ?_⟩; obtain ⟨hcz14_0, hcz14_1, hcz14_2, hcz14_3, hcz14_4, hfz14_0, hfz14_1, hfz14_2, hfz14_3, hfz14_4⟩ := box5 BK138) | (go_at_call 81; (with_reducible refine (spec_l1All.calls k _ _ l0_0 0 65535 true _ ?side1 ?side2 A7.out).mono ?_); (case side1 => exact cd (Kd.C_below HR0_0.out (belowg1 HB GE138))); (case side2 => exact HC0_0.out); rintro e w' ⟨rfl, ⟨nd, rfl⟩⟩))
       go_meet
       case rel => exact ⟨_, (true), er, H', ⟨by first | omega | exact Nat.le_refl _⟩, ⟨blkd BK138⟩, ⟨belowg1 HB GE138⟩⟩
     ·rw [if_neg c10] at H
      have c10b0 : ((l0_2.length : Int) == (l0_0.length : Int)) = false := beq_eq_false_iff_ne.mpr c10
      have c10b1 : ((l0_2.length : Int) != (l0_0.length : Int)) = true := bne_iff_ne.mpr c10
      have c10b2 : (l0_2.length == l0_0.length) = false := by first | simpa using c10 | (simp at c10 ⊢; omega)
      have H' := Aside0.mk H
      clear H
      go_wp2_with (first | ((with_reducible refine gate_callee (f := 79) rfl ?_); refine goesLa (some 16) rfl Tryz.func79 #[.int .i64 (l0_0.length : Int), .int .i64 1, .int .i64 4] rfl ?_; (with_reducible refine (spec_l1In.calls (l0_0.length : Int) 1 4 true _ A5.out).mono ?_); rintro e w' ⟨rfl, ⟨nd, rfl⟩⟩; refine ⟨_, rfl, ?_⟩; obtain ⟨hcz15_0, hcz15_1, hcz15_2, hcz15_3, hcz15_4, hfz15_0, hfz15_1, hfz15_2, hfz15_3, hfz15_4⟩ := box5 BK138) | (go_at_call 81; (with_reducible refine (spec_l1All.calls k _ _ l0_0 0 65535 true _ ?side1 ?side2 A7.out).mono ?_); (case side1 => exact cd (Kd.C_below HR0_0.out (belowg1 HB GE138))); (case side2 => exact HC0_0.out); rintro e w' ⟨rfl, ⟨nd, rfl⟩⟩))
      go_meet
      case rel => exact ⟨_, (true), er, H', ⟨by first | omega | exact Nat.le_refl _⟩, ⟨blkd BK138⟩, ⟨belowg1 HB GE138⟩⟩
    ·rw [if_neg c9] at H
     have c9b0 : ((l0_1.length : Int) == (l0_0.length : Int)) = false := beq_eq_false_iff_ne.mpr c9
     have c9b1 : ((l0_1.length : Int) != (l0_0.length : Int)) = true := bne_iff_ne.mpr c9
     have c9b2 : (l0_1.length == l0_0.length) = false := by first | simpa using c9 | (simp at c9 ⊢; omega)
     (first | rw [c9b0] | (simp only [i64_w, i32_w]; rw [c9b0]) | skip)
     have H' := Aside0.mk H
     clear H
     go_wp2_with (first | ((with_reducible refine gate_callee (f := 79) rfl ?_); refine goesLa (some 16) rfl Tryz.func79 #[.int .i64 (l0_0.length : Int), .int .i64 1, .int .i64 4] rfl ?_; (with_reducible refine (spec_l1In.calls (l0_0.length : Int) 1 4 true _ A5.out).mono ?_); rintro e w' ⟨rfl, ⟨nd, rfl⟩⟩; refine ⟨_, rfl, ?_⟩; obtain ⟨hcz16_0, hcz16_1, hcz16_2, hcz16_3, hcz16_4, hfz16_0, hfz16_1, hfz16_2, hfz16_3, hfz16_4⟩ := box5 BK138) | (go_at_call 81; (with_reducible refine (spec_l1All.calls k _ _ l0_0 0 65535 true _ ?side1 ?side2 A7.out).mono ?_); (case side1 => exact cd (Kd.C_below HR0_0.out (belowg1 HB GE138))); (case side2 => exact HC0_0.out); rintro e w' ⟨rfl, ⟨nd, rfl⟩⟩))
     go_meet
     case rel => exact ⟨_, (true), er, H', ⟨by first | omega | exact Nat.le_refl _⟩, ⟨blkd BK138⟩, ⟨belowg1 HB GE138⟩⟩
   ·replace c8 := Bool.eq_false_iff.mpr c8
    subst c8
    have H1 : (spec_GoodNet.j0 k true l0_0 l0_1 l0_2 l0_3 a0_4) = some r := by rw [if_neg (show ¬ (false = true) by decide)] at H; exact H
    clear H
    have H := H1
    clear H1
    have H' := Aside0.mk H
    clear H
    go_wp2_with (first | ((with_reducible refine gate_callee (f := 79) rfl ?_); refine goesLa (some 16) rfl Tryz.func79 #[.int .i64 (l0_0.length : Int), .int .i64 1, .int .i64 4] rfl ?_; (with_reducible refine (spec_l1In.calls (l0_0.length : Int) 1 4 true _ A5.out).mono ?_); rintro e w' ⟨rfl, ⟨nd, rfl⟩⟩; refine ⟨_, rfl, ?_⟩; obtain ⟨hcz17_0, hcz17_1, hcz17_2, hcz17_3, hcz17_4, hfz17_0, hfz17_1, hfz17_2, hfz17_3, hfz17_4⟩ := box5 BK138) | (go_at_call 81; (with_reducible refine (spec_l1All.calls k _ _ l0_0 0 65535 false _ ?side1 ?side2 A7.out).mono ?_); (case side1 => exact cd (Kd.C_below HR0_0.out (belowg1 HB GE138))); (case side2 => exact HC0_0.out); rintro e w' ⟨rfl, ⟨nd, rfl⟩⟩))
    go_meet
    case rel => exact ⟨_, (true), er, H', ⟨by first | omega | exact Nat.le_refl _⟩, ⟨blkd BK138⟩, ⟨belowg1 HB GE138⟩⟩
  ·replace c6 := Bool.eq_false_iff.mpr c6
   subst c6
   have H1 : (spec_GoodNet.j0 k true l0_0 l0_1 l0_2 l0_3 a0_4) = some r := by rw [if_neg (show ¬ (false = true) by decide)] at H; exact H
   clear H
   have H := H1
   clear H1
   have H' := Aside0.mk H
   clear H
   go_wp2_with (first | ((with_reducible refine gate_callee (f := 79) rfl ?_); refine goesLa (some 16) rfl Tryz.func79 #[.int .i64 (l0_0.length : Int), .int .i64 1, .int .i64 4] rfl ?_; (with_reducible refine (spec_l1In.calls (l0_0.length : Int) 1 4 false _ A5.out).mono ?_); rintro e w' ⟨rfl, ⟨nd, rfl⟩⟩; refine ⟨_, rfl, ?_⟩))
   go_meet
   case rel => exact ⟨_, (true), er, H', ⟨by first | omega | exact Nat.le_refl _⟩, ⟨blkd BK138⟩, ⟨belowg1 HB GE138⟩⟩
 case rest =>
  clear HC2; (try clear hcz4_0); (try clear hcz4_1); (try clear hcz4_2); (try clear hcz4_3); (try clear hcz4_4); (try clear hfz4_0); (try clear hfz4_1); (try clear hfz4_2); (try clear hfz4_3); (try clear hfz4_4)
  obtain ⟨kq, x49_1, rfl, HA, HJ1, BK138, HB⟩ := hcut
  cases kq with
  | zero => exact absurd HA.out (by simp [spec_GoodNet.j0])
  | succ kj1 =>
   have H := HA.out; clear HA
   simp only [spec_GoodNet.j0] at H
   by_cases c18 : x49_1 = true
   ·subst c18
    have H1 : (some false) = some r := by rw [if_pos rfl] at H; exact H
    clear H
    have H := H1
    clear H1
    obtain rfl := Option.some.inj H
    go_wp2
    go_ret
    exact ⟨er2, belowg1 HB GE138⟩
   ·replace c18 := Bool.eq_false_iff.mpr c18
    subst c18
    have H1 : (spec_GoodNet.l0 kj1 l0_1 (l0_1.length : Int) 0 l0_0 l0_1 l0_2 l0_3 a0_4) = some r := by rw [if_neg (show ¬ (false = true) by decide)] at H; exact H
    clear H
    have H := H1
    clear H1
    have H' := Aside0.mk H
    clear H; obtain ⟨hcz19_0, hcz19_1, hcz19_2, hcz19_3, hcz19_4, hfz19_0, hfz19_1, hfz19_2, hfz19_3, hfz19_4⟩ := box5 BK138; go_wp2
    go_loopg [53] kj1 (fun kq v53 w' => ∃ (x53_2 : Int), v53 = .int .i64 x53_2 ∧ Aside0 (spec_GoodNet.l0 kq l0_1 (l0_1.length : Int) x53_2 l0_0 l0_1 l0_2 l0_3 a0_4 = some r) ∧ Aside0 (kq ≤ kj1) ∧ Aside0 (w'.heap[gb138]? = some (.cells #[(.slice A0_0 l0_0.length c0_0), (.slice A0_1 l0_1.length c0_1), (.slice A0_2 l0_2.length c0_2), (.slice A0_3 l0_3.length c0_3), .int .i64 a0_4] 27 (0, 0))) ∧ Aside0 (Below w.heap.size w w'))
    case atStart => exact ⟨(0), er, H', ⟨Nat.le_refl _⟩, ⟨blkd BK138⟩, ⟨belowg1 HB GE138⟩⟩
    case round =>
     clear H'
     (try clear c18); (try clear hcz19_0); (try clear hcz19_1); (try clear hcz19_2); (try clear hcz19_3); (try clear hcz19_4); (try clear hfz19_0); (try clear hfz19_1); (try clear hfz19_2); (try clear hfz19_3); (try clear hfz19_4)
     obtain ⟨x53_2, rfl, HA, HK2, BK138, HB⟩ := hrel
     cases gk with
     | zero => exact absurd HA.out (by simp [spec_GoodNet.l0])
     | succ k2 =>
      have H := HA.out; clear HA
      simp only [spec_GoodNet.l0] at H
      by_cases c20 : x53_2 < (l0_1.length : Int)
      ·rw [if_pos c20] at H
       have c20b0 : decide (x53_2 < (l0_1.length : Int)) = true := decide_eq_true c20
       clear c20; replace H := ifS H; obtain ⟨c21, H⟩ := H; have c21b0 := decide_eq_true c21; clear c21; replace H := ifS H; obtain ⟨c22, H⟩ := H; have c22b0 := decide_eq_true c22; clear c22; have HC23 := Aside0.mk H; clear H
       have p142 : 0 ≤ (x53_2 : Int) := da
       have q142 : x53_2 < (l0_1.length : Int) := da
       obtain ⟨ad142, A142_0, c142_0, e142, hx142_0, hl142_0, hi142_0⟩ := at_L2 HR0_1.out x53_2 p142 q142
       cases e142
       replace hx142_0 := (HB.out.cell (World.block_lt_of_cell? w _ hx142_0)).trans hx142_0
       have HR142_0 := Aside0.mk hi142_0; have HC142_0 := Aside0.mk hl142_0; clear hi142_0 hl142_0; replace p142 := eq_true p142; replace q142 := eq_true q142
       go_upto_region 7 with (fail)
       go_cut [69] (fun v69 wc => ∃ (kq : Nat) (x69_22 : Bool), v69 = .bool x69_22 ∧ Aside0 (spec_GoodNet.j2 kq x53_2 (rd_L2 l0_1 x53_2) l0_1 (l0_1.length : Int) x53_2 x69_22 l0_0 l0_1 l0_2 l0_3 a0_4 = some r) ∧ Aside0 (kq ≤ k2) ∧ Aside0 (wc.heap[gb138]? = some (.cells #[(.slice A0_0 l0_0.length c0_0), (.slice (some ad142) l0_1.length c0_1), (.slice A0_2 l0_2.length c0_2), (.slice A0_3 l0_3.length c0_3), .int .i64 a0_4] 27 (0, 0))) ∧ Aside0 (Below w.heap.size w wc))
       case first =>
        have H := HC23.out; clear HC23; replace H := bS H; obtain ⟨t143, A24, H⟩ := H
        replace H : (if t143 = true then (if x53_2 < (l0_2.length : Int) then ((spec_l17Onions.f k2 (rd_L2 l0_2 x53_2)).bind fun t145 => (spec_GoodNet.j2 k2 x53_2 (rd_L2 l0_1 x53_2) l0_1 (l0_1.length : Int) x53_2 (!t145) l0_0 l0_1 l0_2 l0_3 a0_4)) else (none)) else (spec_GoodNet.j2 k2 x53_2 (rd_L2 l0_1 x53_2) l0_1 (l0_1.length : Int) x53_2 true l0_0 l0_1 l0_2 l0_3 a0_4)) = some r := H
        by_cases c25 : t143 = true
        ·subst c25
         have H1 : (if x53_2 < (l0_2.length : Int) then ((spec_l17Onions.f k2 (rd_L2 l0_2 x53_2)).bind fun t145 => (spec_GoodNet.j2 k2 x53_2 (rd_L2 l0_1 x53_2) l0_1 (l0_1.length : Int) x53_2 (!t145) l0_0 l0_1 l0_2 l0_3 a0_4)) else (none)) = some r := by rw [if_pos rfl] at H; exact H
         clear H
         have H := H1
         clear H1; replace H := ifS H; obtain ⟨c26, H⟩ := H; have c26b0 := decide_eq_true c26; clear c26
         (first | rw [c26b0] | (simp only [i64_w, i32_w]; rw [c26b0]) | skip)
         replace H := bS H; obtain ⟨t145, A27, H⟩ := H
         replace H : (spec_GoodNet.j2 k2 x53_2 (rd_L2 l0_1 x53_2) l0_1 (l0_1.length : Int) x53_2 (!t145) l0_0 l0_1 l0_2 l0_3 a0_4) = some r := H
         have H' := Aside0.mk H
         clear H
         go_wp2_with (first | ((with_reducible refine gate_callee (f := 82) rfl ?_); refine goesLa (some 59) rfl Tryz.func82 #[.slice A142_0 (rd_L2 l0_1 x53_2).length c142_0] rfl ?_; (with_reducible refine (spec_l17Onions.calls k2 _ _ (rd_L2 l0_1 x53_2) true _ ?side1 ?side2 A24.out).mono ?_); (case side1 => exact cd (Kd.C_below HR142_0.out HB.out)); (case side2 => exact HC142_0.out); rintro e w' ⟨rfl, ⟨nd, rfl⟩⟩; refine ⟨_, rfl, ?_⟩; obtain ⟨hcz28_0, hcz28_1, hcz28_2, hcz28_3, hcz28_4, hfz28_0, hfz28_1, hfz28_2, hfz28_3, hfz28_4⟩ := box5 BK138; have p144 : 0 ≤ (x53_2 : Int) := da; have q144 : x53_2 < (l0_2.length : Int) := da; obtain ⟨ad144, A144_0, c144_0, e144, hx144_0, hl144_0, hi144_0⟩ := at_L2 HR0_2.out x53_2 p144 q144; cases e144; replace hx144_0 := (HB.out.cell (World.block_lt_of_cell? w _ hx144_0)).trans hx144_0; have HR144_0 := Aside0.mk hi144_0; have HC144_0 := Aside0.mk hl144_0; clear hi144_0 hl144_0; replace p144 := eq_true p144; replace q144 := eq_true q144) | (go_at_call 82; (with_reducible refine (spec_l17Onions.calls k2 _ _ (rd_L2 l0_2 x53_2) t145 _ ?side1 ?side2 A27.out).mono ?_); (case side1 => exact cd (Kd.C_below HR144_0.out (belowg1 HB GE138))); (case side2 => exact HC144_0.out); rintro e w' ⟨rfl, ⟨nd, rfl⟩⟩))
         go_meet
         case rel => exact ⟨_, (!t145), er, H', ⟨by have := HJ1.out; have := HK2.out; first | omega | exact Nat.le_refl _⟩, ⟨blkd BK138⟩, ⟨belowg1 HB GE138⟩⟩
        ·replace c25 := Bool.eq_false_iff.mpr c25
         subst c25
         have H1 : (spec_GoodNet.j2 k2 x53_2 (rd_L2 l0_1 x53_2) l0_1 (l0_1.length : Int) x53_2 true l0_0 l0_1 l0_2 l0_3 a0_4) = some r := by rw [if_neg (show ¬ (false = true) by decide)] at H; exact H
         clear H
         have H := H1
         clear H1
         have H' := Aside0.mk H
         clear H
         go_wp2_with (first | ((with_reducible refine gate_callee (f := 82) rfl ?_); refine goesLa (some 59) rfl Tryz.func82 #[.slice A142_0 (rd_L2 l0_1 x53_2).length c142_0] rfl ?_; (with_reducible refine (spec_l17Onions.calls k2 _ _ (rd_L2 l0_1 x53_2) false _ ?side1 ?side2 A24.out).mono ?_); (case side1 => exact cd (Kd.C_below HR142_0.out HB.out)); (case side2 => exact HC142_0.out); rintro e w' ⟨rfl, ⟨nd, rfl⟩⟩; refine ⟨_, rfl, ?_⟩))
         go_meet
         case rel => exact ⟨_, (true), er, H', ⟨by have := HJ1.out; have := HK2.out; first | omega | exact Nat.le_refl _⟩, ⟨blkd BK138⟩, ⟨belowg1 HB GE138⟩⟩
       case rest =>
        clear HC23; (try clear c20b0); (try clear c21b0); (try clear c22b0); (try clear hx142_0); (try clear p142); (try clear q142)
        obtain ⟨kq, x69_22, rfl, HA, HJ22, BK138, HB⟩ := hcut
        cases kq with
        | zero => exact absurd HA.out (by simp [spec_GoodNet.j2])
        | succ kj22 =>
         have H := HA.out; clear HA
         simp only [spec_GoodNet.j2] at H
         by_cases c29 : x69_22 = true
         ·subst c29
          have H1 : (some false) = some r := by rw [if_pos rfl] at H; exact H
          clear H
          have H := H1
          clear H1
          obtain rfl := Option.some.inj H
          go_wp2
          go_ret
          exact ⟨er2, belowg1 HB GE138⟩
         ·replace c29 := Bool.eq_false_iff.mpr c29
          subst c29
          have H1 : (spec_GoodNet.l1 kj22 x53_2 l0_1 (l0_1.length : Int) x53_2 (rd_L2 l0_1 x53_2) ((rd_L2 l0_1 x53_2).length : Int) 0 l0_0 l0_1 l0_2 l0_3 a0_4) = some r := by rw [if_neg (show ¬ (false = true) by decide)] at H; exact H
          clear H
          have H := H1
          clear H1
          have H' := Aside0.mk H
          clear H; go_wp2
          go_loopg [72] kj22 (fun kq v72 w' => ∃ (x72_4 : Int), v72 = .int .i64 x72_4 ∧ Aside0 (spec_GoodNet.l1 kq x53_2 l0_1 (l0_1.length : Int) x53_2 (rd_L2 l0_1 x53_2) ((rd_L2 l0_1 x53_2).length : Int) x72_4 l0_0 l0_1 l0_2 l0_3 a0_4 = some r) ∧ Aside0 (kq ≤ kj22) ∧ Aside0 (w'.heap[gb138]? = some (.cells #[(.slice A0_0 l0_0.length c0_0), (.slice (some ad142) l0_1.length c0_1), (.slice A0_2 l0_2.length c0_2), (.slice A0_3 l0_3.length c0_3), .int .i64 a0_4] 27 (0, 0))) ∧ Aside0 (Below w.heap.size w w'))
          case atStart => exact ⟨(0), er, H', ⟨Nat.le_refl _⟩, ⟨blkd BK138⟩, ⟨belowg1 HB GE138⟩⟩
          case round =>
           clear H'
           (try clear c29)
           obtain ⟨x72_4, rfl, HA, HK4, BK138, HB⟩ := hrel
           cases gk with
           | zero => exact absurd HA.out (by simp [spec_GoodNet.l1])
           | succ k4 =>
            have H := HA.out; clear HA
            simp only [spec_GoodNet.l1] at H
            by_cases c30 : x72_4 < ((rd_L2 l0_1 x53_2).length : Int)
            ·rw [if_pos c30] at H
             have c30b0 : decide (x72_4 < ((rd_L2 l0_1 x53_2).length : Int)) = true := decide_eq_true c30
             clear c30; replace H := ifS H; obtain ⟨c31, H⟩ := H; have c31b0 := decide_eq_true c31; clear c31; replace H := ifS H; obtain ⟨c32, H⟩ := H; have c32b0 := decide_eq_true c32; clear c32; replace H := ifS H; obtain ⟨c33, H⟩ := H; have c33b0 := decide_eq_true c33; clear c33; replace H := ifS H; obtain ⟨c34, H⟩ := H; have c34b0 := decide_eq_true c34; clear c34; replace H := bS H; obtain ⟨t148, A35, H⟩ := H
             replace H : (if t148 = true then (spec_GoodNet.l1 k4 x53_2 l0_1 (l0_1.length : Int) x53_2 (rd_L2 l0_1 x53_2) ((rd_L2 l0_1 x53_2).length : Int) (wrap64 (x72_4 + 1)) l0_0 l0_1 l0_2 l0_3 a0_4) else (some false)) = some r := H
             by_cases c36 : t148 = true
             ·subst c36
              have H1 : (spec_GoodNet.l1 k4 x53_2 l0_1 (l0_1.length : Int) x53_2 (rd_L2 l0_1 x53_2) ((rd_L2 l0_1 x53_2).length : Int) (wrap64 (x72_4 + 1)) l0_0 l0_1 l0_2 l0_3 a0_4) = some r := by rw [if_pos rfl] at H; exact H
              clear H
              have H := H1
              clear H1
              have H' := Aside0.mk H
              clear H
              have p146 : 0 ≤ (x72_4 : Int) := da
              have q146 : x72_4 < ((rd_L2 l0_1 x53_2).length : Int) := da
              obtain ⟨ad146, e146, hx146_0⟩ := Kd.at_string HR142_0.out x72_4 p146 q146
              cases e146
              replace hx146_0 := (HB.out.cell (World.block_lt_of_cell? w _ hx146_0)).trans hx146_0
              replace p146 := eq_true p146; replace q146 := eq_true q146; obtain ⟨hcz37_0, hcz37_1, hcz37_2, hcz37_3, hcz37_4, hfz37_0, hfz37_1, hfz37_2, hfz37_3, hfz37_4⟩ := box5 BK138
              have p147 : 0 ≤ (x53_2 : Int) := da
              have q147 : x53_2 < (l0_2.length : Int) := da
              obtain ⟨ad147, A147_0, c147_0, e147, hx147_0, hl147_0, hi147_0⟩ := at_L2 HR0_2.out x53_2 p147 q147
              cases e147
              replace hx147_0 := (HB.out.cell (World.block_lt_of_cell? w _ hx147_0)).trans hx147_0
              have HR147_0 := Aside0.mk hi147_0; have HC147_0 := Aside0.mk hl147_0; clear hi147_0 hl147_0; replace p147 := eq_true p147; replace q147 := eq_true q147
              go_wp2_with (first | ((with_reducible refine gate_callee (f := 83) rfl ?_); refine goesLa (some 82) rfl Tryz.func83 #[.slice A147_0 (rd_L2 l0_2 x53_2).length c147_0, .string (rdOf ByteArray.empty (rd_L2 l0_1 x53_2) x72_4)] rfl ?_; (with_reducible refine (spec_l17Has.calls k4 _ _ (rd_L2 l0_2 x53_2) (rdOf ByteArray.empty (rd_L2 l0_1 x53_2) x72_4) true _ ?side1 ?side2 A35.out).mono ?_); (case side1 => exact cd (Kd.C_below HR147_0.out HB.out)); (case side2 => exact HC147_0.out); rintro e w' ⟨rfl, ⟨nd, rfl⟩⟩; refine ⟨_, rfl, ?_⟩))
              go_roundg k4
              case measure => have := HJ1.out; have := HK2.out; have := HJ22.out; have := HK4.out; omega
              case rel => exact ⟨(wrap64 (x72_4 + 1)), er, H', ⟨by have := HJ1.out; have := HK2.out; have := HJ22.out; have := HK4.out; omega⟩, ⟨blkd BK138⟩, ⟨belowg1 HB GE138⟩⟩
             ·replace c36 := Bool.eq_false_iff.mpr c36
              subst c36
              have H1 : (some false) = some r := by rw [if_neg (show ¬ (false = true) by decide)] at H; exact H
              clear H
              have H := H1
              clear H1
              obtain rfl := Option.some.inj H
              have p146 : 0 ≤ (x72_4 : Int) := da
              have q146 : x72_4 < ((rd_L2 l0_1 x53_2).length : Int) := da
              obtain ⟨ad146, e146, hx146_0⟩ := Kd.at_string HR142_0.out x72_4 p146 q146
              cases e146
              replace hx146_0 := (HB.out.cell (World.block_lt_of_cell? w _ hx146_0)).trans hx146_0
              replace p146 := eq_true p146; replace q146 := eq_true q146; obtain ⟨hcz38_0, hcz38_1, hcz38_2, hcz38_3, hcz38_4, hfz38_0, hfz38_1, hfz38_2, hfz38_3, hfz38_4⟩ := box5 BK138
              have p147 : 0 ≤ (x53_2 : Int) := da
              have q147 : x53_2 < (l0_2.length : Int) := da
              obtain ⟨ad147, A147_0, c147_0, e147, hx147_0, hl147_0, hi147_0⟩ := at_L2 HR0_2.out x53_2 p147 q147
              cases e147
              replace hx147_0 := (HB.out.cell (World.block_lt_of_cell? w _ hx147_0)).trans hx147_0
              have HR147_0 := Aside0.mk hi147_0; have HC147_0 := Aside0.mk hl147_0; clear hi147_0 hl147_0; replace p147 := eq_true p147; replace q147 := eq_true q147
              go_wp2_with (first | ((with_reducible refine gate_callee (f := 83) rfl ?_); refine goesLa (some 82) rfl Tryz.func83 #[.slice A147_0 (rd_L2 l0_2 x53_2).length c147_0, .string (rdOf ByteArray.empty (rd_L2 l0_1 x53_2) x72_4)] rfl ?_; (with_reducible refine (spec_l17Has.calls k4 _ _ (rd_L2 l0_2 x53_2) (rdOf ByteArray.empty (rd_L2 l0_1 x53_2) x72_4) false _ ?side1 ?side2 A35.out).mono ?_); (case side1 => exact cd (Kd.C_below HR147_0.out HB.out)); (case side2 => exact HC147_0.out); rintro e w' ⟨rfl, ⟨nd, rfl⟩⟩; refine ⟨_, rfl, ?_⟩))
              go_ret
              exact ⟨er2, belowg1 HB GE138⟩
            ·rw [if_neg c30] at H
             have c30b0 : decide (x72_4 < ((rd_L2 l0_1 x53_2).length : Int)) = false := decide_eq_false c30
             clear c30
             have H' := Aside0.mk H
             clear H; go_wp2
             go_roundg k4
             case measure => have := HJ1.out; have := HK2.out; have := HJ22.out; have := HK4.out; omega
             case rel => exact ⟨(wrap64 (x53_2 + 1)), er, H', ⟨by have := HJ1.out; have := HK2.out; have := HJ22.out; have := HK4.out; omega⟩, ⟨blkd BK138⟩, ⟨belowg1 HB GE138⟩⟩
      ·rw [if_neg c20] at H
       have c20b0 : decide (x53_2 < (l0_1.length : Int)) = false := decide_eq_false c20
       clear c20
       have H' := Aside0.mk H
       clear H; obtain ⟨hcz39_0, hcz39_1, hcz39_2, hcz39_3, hcz39_4, hfz39_0, hfz39_1, hfz39_2, hfz39_3, hfz39_4⟩ := box5 BK138; go_wp2
       go_loopg [89] k2 (fun kq v89 w' => ∃ (x89_3 : Int), v89 = .int .i64 x89_3 ∧ Aside0 (spec_GoodNet.l2 kq l0_3 (l0_3.length : Int) x89_3 = some r) ∧ Aside0 (kq ≤ k2) ∧ Aside0 (w'.heap[gb138]? = some (.cells #[(.slice A0_0 l0_0.length c0_0), (.slice A0_1 l0_1.length c0_1), (.slice A0_2 l0_2.length c0_2), (.slice A0_3 l0_3.length c0_3), .int .i64 a0_4] 27 (0, 0))) ∧ Aside0 (Below w.heap.size w w'))
       case atStart => exact ⟨(0), er, H', ⟨Nat.le_refl _⟩, ⟨blkd BK138⟩, ⟨belowg1 HB GE138⟩⟩
       case round =>
        clear H'
        (try clear c20b0); (try clear hcz39_0); (try clear hcz39_1); (try clear hcz39_2); (try clear hcz39_3); (try clear hcz39_4); (try clear hfz39_0); (try clear hfz39_1); (try clear hfz39_2); (try clear hfz39_3); (try clear hfz39_4)
        obtain ⟨x89_3, rfl, HA, HK3, BK138, HB⟩ := hrel
        cases gk with
        | zero => exact absurd HA.out (by simp [spec_GoodNet.l2])
        | succ k3 =>
         have H := HA.out; clear HA
         simp only [spec_GoodNet.l2] at H
         by_cases c40 : x89_3 < (l0_3.length : Int)
         ·rw [if_pos c40] at H
          have c40b0 : decide (x89_3 < (l0_3.length : Int)) = true := decide_eq_true c40
          clear c40; replace H := ifS H; obtain ⟨c41, H⟩ := H; have c41b0 := decide_eq_true c41; clear c41; replace H := ifS H; obtain ⟨c42, H⟩ := H; have c42b0 := decide_eq_true c42; clear c42
          have H' := Aside0.mk H
          clear H
          have p149 : 0 ≤ (x89_3 : Int) := da
          have q149 : x89_3 < (l0_3.length : Int) := da
          obtain ⟨ad149, A149_0, c149_0, e149, hx149_0, hl149_0, hi149_0⟩ := at_L2 HR0_3.out x89_3 p149 q149
          cases e149
          replace hx149_0 := (HB.out.cell (World.block_lt_of_cell? w _ hx149_0)).trans hx149_0
          have HR149_0 := Aside0.mk hi149_0; have HC149_0 := Aside0.mk hl149_0; clear hi149_0 hl149_0; replace p149 := eq_true p149; replace q149 := eq_true q149; go_wp2
          go_loopg [95] k3 (fun kq v95 w' => ∃ (x95_4 : Int), v95 = .int .i64 x95_4 ∧ Aside0 (spec_GoodNet.l3 kq (rd_L2 l0_3 x89_3) l0_3 (l0_3.length : Int) x89_3 (rd_L2 l0_3 x89_3) ((rd_L2 l0_3 x89_3).length : Int) x95_4 = some r) ∧ Aside0 (kq ≤ k3) ∧ Aside0 (w'.heap[gb138]? = some (.cells #[(.slice A0_0 l0_0.length c0_0), (.slice A0_1 l0_1.length c0_1), (.slice A0_2 l0_2.length c0_2), (.slice (some ad149) l0_3.length c0_3), .int .i64 a0_4] 27 (0, 0))) ∧ Aside0 (Below w.heap.size w w'))
          case atStart => exact ⟨(0), er, H', ⟨Nat.le_refl _⟩, ⟨blkd BK138⟩, ⟨belowg1 HB GE138⟩⟩
          case round =>
           clear H'
           (try clear c40b0); (try clear c41b0); (try clear c42b0); (try clear hx149_0); (try clear p149); (try clear q149)
           obtain ⟨x95_4, rfl, HA, HK4, BK138, HB⟩ := hrel
           cases gk with
           | zero => exact absurd HA.out (by simp [spec_GoodNet.l3])
           | succ k4 =>
            have H := HA.out; clear HA
            simp only [spec_GoodNet.l3] at H
            by_cases c43 : x95_4 < ((rd_L2 l0_3 x89_3).length : Int)
            ·rw [if_pos c43] at H
             have c43b0 : decide (x95_4 < ((rd_L2 l0_3 x89_3).length : Int)) = true := decide_eq_true c43
             clear c43; replace H := ifS H; obtain ⟨c44, H⟩ := H; have c44b0 := decide_eq_true c44; clear c44; replace H := ifS H; obtain ⟨c45, H⟩ := H; have c45b0 := decide_eq_true c45; clear c45; replace H := bS H; obtain ⟨t151, A46, H⟩ := H
             replace H : (if t151 = true then (spec_GoodNet.l3 k4 (rd_L2 l0_3 x89_3) l0_3 (l0_3.length : Int) x89_3 (rd_L2 l0_3 x89_3) ((rd_L2 l0_3 x89_3).length : Int) (wrap64 (x95_4 + 1))) else (some false)) = some r := H
             by_cases c47 : t151 = true
             ·subst c47
              have H1 : (spec_GoodNet.l3 k4 (rd_L2 l0_3 x89_3) l0_3 (l0_3.length : Int) x89_3 (rd_L2 l0_3 x89_3) ((rd_L2 l0_3 x89_3).length : Int) (wrap64 (x95_4 + 1))) = some r := by rw [if_pos rfl] at H; exact H
              clear H
              have H := H1
              clear H1
              have H' := Aside0.mk H
              clear H
              have p150 : 0 ≤ (x95_4 : Int) := da
              have q150 : x95_4 < ((rd_L2 l0_3 x89_3).length : Int) := da
              obtain ⟨ad150, e150, hx150_0⟩ := Kd.at_string HR149_0.out x95_4 p150 q150
              cases e150
              replace hx150_0 := (HB.out.cell (World.block_lt_of_cell? w _ hx150_0)).trans hx150_0
              replace p150 := eq_true p150; replace q150 := eq_true q150
              go_wp2_with (first | ((with_reducible refine gate_callee (f := 79) rfl ?_); refine goesLa (some 101) rfl Tryz.func79 #[.int .i64 ((rdOf ByteArray.empty (rd_L2 l0_3 x89_3) x95_4).size : Int), .int .i64 1, .int .i64 15] rfl ?_; (with_reducible refine (spec_l1In.calls ((rdOf ByteArray.empty (rd_L2 l0_3 x89_3) x95_4).size : Int) 1 15 true _ A46.out).mono ?_); rintro e w' ⟨rfl, ⟨nd, rfl⟩⟩; refine ⟨_, rfl, ?_⟩))
              go_roundg k4
              case measure => have := HJ1.out; have := HK2.out; have := HK3.out; have := HK4.out; omega
              case rel => exact ⟨(wrap64 (x95_4 + 1)), er, H', ⟨by have := HJ1.out; have := HK2.out; have := HK3.out; have := HK4.out; omega⟩, ⟨blkd BK138⟩, ⟨belowg1 HB GE138⟩⟩
             ·replace c47 := Bool.eq_false_iff.mpr c47
              subst c47
              have H1 : (some false) = some r := by rw [if_neg (show ¬ (false = true) by decide)] at H; exact H
              clear H
              have H := H1
              clear H1
              obtain rfl := Option.some.inj H
              have p150 : 0 ≤ (x95_4 : Int) := da
              have q150 : x95_4 < ((rd_L2 l0_3 x89_3).length : Int) := da
              obtain ⟨ad150, e150, hx150_0⟩ := Kd.at_string HR149_0.out x95_4 p150 q150
              cases e150
              replace hx150_0 := (HB.out.cell (World.block_lt_of_cell? w _ hx150_0)).trans hx150_0
              replace p150 := eq_true p150; replace q150 := eq_true q150
              go_wp2_with (first | ((with_reducible refine gate_callee (f := 79) rfl ?_); refine goesLa (some 101) rfl Tryz.func79 #[.int .i64 ((rdOf ByteArray.empty (rd_L2 l0_3 x89_3) x95_4).size : Int), .int .i64 1, .int .i64 15] rfl ?_; (with_reducible refine (spec_l1In.calls ((rdOf ByteArray.empty (rd_L2 l0_3 x89_3) x95_4).size : Int) 1 15 false _ A46.out).mono ?_); rintro e w' ⟨rfl, ⟨nd, rfl⟩⟩; refine ⟨_, rfl, ?_⟩))
              go_ret
              exact ⟨er2, belowg1 HB GE138⟩
            ·rw [if_neg c43] at H
             have c43b0 : decide (x95_4 < ((rd_L2 l0_3 x89_3).length : Int)) = false := decide_eq_false c43
             clear c43
             by_cases c48 : ((rd_L2 l0_3 x89_3).length : Int) > 60
             ·rw [if_pos c48] at H
              have c48b0 : decide (60 < ((rd_L2 l0_3 x89_3).length : Int)) = true := decide_eq_true c48
              have c48b1 : decide (60 < (rd_L2 l0_3 x89_3).length) = true := decide_eq_true (by omega)
              clear c48
              obtain rfl := Option.some.inj H
              go_wp2
              go_ret
              exact ⟨er2, belowg1 HB GE138⟩
             ·rw [if_neg c48] at H
              have c48b0 : decide (60 < ((rd_L2 l0_3 x89_3).length : Int)) = false := decide_eq_false c48
              have c48b1 : decide (60 < (rd_L2 l0_3 x89_3).length) = false := decide_eq_false (by omega)
              clear c48
              have H' := Aside0.mk H
              clear H; go_wp2
              go_roundg k4
              case measure => have := HJ1.out; have := HK2.out; have := HK3.out; have := HK4.out; omega
              case rel => exact ⟨(wrap64 (x89_3 + 1)), er, H', ⟨by have := HJ1.out; have := HK2.out; have := HK3.out; have := HK4.out; omega⟩, ⟨blkd BK138⟩, ⟨belowg1 HB GE138⟩⟩
         ·rw [if_neg c40] at H
          have c40b0 : decide (x89_3 < (l0_3.length : Int)) = false := decide_eq_false c40
          clear c40
          obtain rfl := Option.some.inj H
          go_wp2
          go_ret
          exact ⟨er2, belowg1 HB GE138⟩

/-! ### rows that are all nil: spec.NewNet (49), impl.NewNet (48) -/
/-- A made row of rows: nothing but its own block. -/
def NnS (W : World) (B g : Nat) (x : Value) (n : Nat) : Prop := Kd.S (Kd.slice 9 Kd.string) 62 W B (fun k_ => k_ = g) x (List.replicate n []) ∧ g < W.heap.size
theorem NnS.step {W W1 : World} {B g : Nat} {x : Value} {n : Nat} (h : NnS W B g x n) (hb : Below W.heap.size W W1) : NnS W1 B g x n := ⟨Kd.S_below h.1 hb, Nat.lt_of_lt_of_le h.2 hb.size⟩
/-- What has come up (the Bools) is as it should be. -/
structure NnF (w0 W : World) (gr : Nat) (l0 : List Int) (b0 b2 b5 b8 b9 b10 b11 : Bool) (x4 x5 x7 x10 x13 x14 x15 : Value) (g5 g8 g9 gx : Nat) : Prop where
  below : Below w0.heap.size w0 W
  hgr : W.heap[gr]? = some (.cells #[.slice none 0 0, .slice none 0 0, .slice none 0 0, .slice none 0 0, .int .i64 0] 27 (0, 0))
  h0 : b0 = true → b2 = false → Kd.R (Kd.int .i64) 3 W w0.heap.size (fun _ => True) x5 []
  h2 : b2 = true → Kd.R (Kd.int .i64) 3 W w0.heap.size (fun _ => True) x7 l0
  h5 : b5 = true → NnS W w0.heap.size g5 x10 l0.length
  h8 : b8 = true → NnS W w0.heap.size g8 x13 l0.length
  h9 : b9 = true → NnS W w0.heap.size g9 x14 4
  h10 : b10 = true → (b2 = true ∧ b5 = true ∧ b8 = true ∧ b9 = true) ∧ x15 = .agg #[x7, x10, x13, x14, .int .i64 0]
  h11 : b11 = true → x4 = .pointer (some ⟨gx, 0, none⟩) ∧ W.heap[gx]? = some (.cells #[.slice none 0 0, .slice none 0 0, .slice none 0 0, .slice none 0 0, .int .i64 0] 27 (0, 0)) ∧ w0.heap.size ≤ gx ∧ gx ≠ gr
  n58 : b5 = true → b8 = true → g5 ≠ g8
  n59 : b5 = true → b9 = true → g5 ≠ g9
  n89 : b8 = true → b9 = true → g8 ≠ g9
section
variable {w0 W W1 : World} {gr : Nat} {l0 : List Int} {b0 b2 b5 b8 b9 b10 b11 : Bool} {x4 x5 x7 x10 x13 x14 x15 v : Value} {g5 g8 g9 gx : Nat}
theorem NnF.step (h : NnF w0 W gr l0 b0 b2 b5 b8 b9 b10 b11 x4 x5 x7 x10 x13 x14 x15 g5 g8 g9 gx) (hb : Below W.heap.size W W1) : NnF w0 W1 gr l0 b0 b2 b5 b8 b9 b10 b11 x4 x5 x7 x10 x13 x14 x15 g5 g8 g9 gx :=
  ⟨below_step h.below hb, blk_below h.hgr hb, fun a b => Kd.R_below (h.h0 a b) hb, fun a => Kd.R_below (h.h2 a) hb, fun a => (h.h5 a).step hb, fun a => (h.h8 a).step hb, fun a => (h.h9 a).step hb, h.h10, fun a => ⟨(h.h11 a).1, blk_below (h.h11 a).2.1 hb, (h.h11 a).2.2⟩, h.n58, h.n59, h.n89⟩
theorem NnF.set0 (h : NnF w0 W gr l0 false b2 b5 b8 b9 b10 b11 x4 x5 x7 x10 x13 x14 x15 g5 g8 g9 gx) (hu : Kd.R (Kd.int .i64) 3 W1 W.heap.size (fun _ => True) v []) (hb : Below W.heap.size W W1) : NnF w0 W1 gr l0 true b2 b5 b8 b9 b10 b11 x4 v x7 x10 x13 x14 x15 g5 g8 g9 gx :=
  have h' := h.step hb
  ⟨h'.below, h'.hgr, fun _ _ => Kd.R_lower hu h.below.size, h'.h2, h'.h5, h'.h8, h'.h9, h'.h10, h'.h11, h'.n58, h'.n59, h'.n89⟩
theorem NnF.set2 (h : NnF w0 W gr l0 true false b5 b8 b9 b10 b11 x4 x5 x7 x10 x13 x14 x15 g5 g8 g9 gx) (hu : Kd.R (Kd.int .i64) 3 W1 w0.heap.size (fun _ => True) v l0) (hb : Below w0.heap.size w0 W1) (hg : W.grownBy W1 x5.ownBlock) : NnF w0 W1 gr l0 true true b5 b8 b9 b10 b11 x4 x5 v x10 x13 x14 x15 g5 g8 g9 gx :=
  have hx := h.h0 rfl rfl
  have hS : ∀ {g : Nat} {x : Value} {n : Nat}, NnS W w0.heap.size g x n → NnS W1 w0.heap.size g x n := fun q => ⟨Kd.S_mono (Kd.S_over' q.1 (Kd.R_typed hx) (by decide) hg) (fun _ a => a), Nat.lt_of_lt_of_le q.2 hg.size⟩
  ⟨hb, blk_grown h.hgr hg (Kd.R_ne hx h.hgr (by decide)), fun _ a => (by cases a), fun _ => hu, fun a => hS (h.h5 a), fun a => hS (h.h8 a), fun a => hS (h.h9 a), fun a => absurd (h.h10 a).1.1 (by decide), fun a => ⟨(h.h11 a).1, blk_grown (h.h11 a).2.1 hg (Kd.R_ne hx (h.h11 a).2.1 (by decide)), (h.h11 a).2.2⟩, h.n58, h.n59, h.n89⟩
theorem NnF.setK (h : NnF w0 W gr l0 b0 false b5 b8 b9 b10 b11 x4 x5 x7 x10 x13 x14 x15 g5 g8 g9 gx) (hu : Kd.R (Kd.int .i64) 3 W1 W.heap.size (fun _ => True) v l0) (hb : Below W.heap.size W W1) : NnF w0 W1 gr l0 b0 true b5 b8 b9 b10 b11 x4 x5 v x10 x13 x14 x15 g5 g8 g9 gx :=
  have h' := h.step hb
  ⟨h'.below, h'.hgr, fun _ a => (by cases a), fun _ => Kd.R_lower hu h.below.size, h'.h5, h'.h8, h'.h9, fun a => absurd (h.h10 a).1.1 (by decide), h'.h11, h'.n58, h'.n59, h'.n89⟩
theorem NnS.fresh {n : Nat} (hu : Kd.S (Kd.slice 9 Kd.string) 62 W1 W.heap.size (fun k_ => k_ = W.heap.size) v (List.replicate n [])) (h : Below w0.heap.size w0 W) (hb : Below W.heap.size W W1) (ho : ∃ b, v.ownBlock = some b ∧ W.heap.size ≤ b) : NnS W1 w0.heap.size W.heap.size v n := by
  refine ⟨Kd.S_lower hu h.size, ?_⟩
  obtain ⟨b, h1, h2⟩ := ho
  have := Kd.S_lt hu b h1
  omega
theorem NnF.set5 (h : NnF w0 W gr l0 b0 b2 false b8 b9 b10 b11 x4 x5 x7 x10 x13 x14 x15 g5 g8 g9 gx) (hu : Kd.S (Kd.slice 9 Kd.string) 62 W1 W.heap.size (fun k_ => k_ = W.heap.size) v (List.replicate l0.length [])) (hb : Below W.heap.size W W1) (ho : ∃ b, v.ownBlock = some b ∧ W.heap.size ≤ b) : NnF w0 W1 gr l0 b0 b2 true b8 b9 b10 b11 x4 x5 x7 v x13 x14 x15 W.heap.size g8 g9 gx :=
  have h' := h.step hb
  ⟨h'.below, h'.hgr, h'.h0, h'.h2, fun _ => NnS.fresh hu h.below hb ho, h'.h8, h'.h9, fun a => absurd (h.h10 a).1.2.1 (by decide), h'.h11, fun _ a => Nat.ne_of_gt (h.h8 a).2, fun _ a => Nat.ne_of_gt (h.h9 a).2, h'.n89⟩
theorem NnF.set8 (h : NnF w0 W gr l0 b0 b2 b5 false b9 b10 b11 x4 x5 x7 x10 x13 x14 x15 g5 g8 g9 gx) (hu : Kd.S (Kd.slice 9 Kd.string) 62 W1 W.heap.size (fun k_ => k_ = W.heap.size) v (List.replicate l0.length [])) (hb : Below W.heap.size W W1) (ho : ∃ b, v.ownBlock = some b ∧ W.heap.size ≤ b) : NnF w0 W1 gr l0 b0 b2 b5 true b9 b10 b11 x4 x5 x7 x10 v x14 x15 g5 W.heap.size g9 gx :=
  have h' := h.step hb
  ⟨h'.below, h'.hgr, h'.h0, h'.h2, h'.h5, fun _ => NnS.fresh hu h.below hb ho, h'.h9, fun a => absurd (h.h10 a).1.2.2.1 (by decide), h'.h11, fun a _ => Nat.ne_of_lt (h.h5 a).2, h'.n59, fun _ a => Nat.ne_of_gt (h.h9 a).2⟩
theorem NnF.set9 (h : NnF w0 W gr l0 b0 b2 b5 b8 false b10 b11 x4 x5 x7 x10 x13 x14 x15 g5 g8 g9 gx) (hu : Kd.S (Kd.slice 9 Kd.string) 62 W1 W.heap.size (fun k_ => k_ = W.heap.size) v (List.replicate 4 [])) (hb : Below W.heap.size W W1) (ho : ∃ b, v.ownBlock = some b ∧ W.heap.size ≤ b) : NnF w0 W1 gr l0 b0 b2 b5 b8 true b10 b11 x4 x5 x7 x10 x13 v x15 g5 g8 W.heap.size gx :=
  have h' := h.step hb
  ⟨h'.below, h'.hgr, h'.h0, h'.h2, h'.h5, h'.h8, fun _ => NnS.fresh hu h.below hb ho, fun a => absurd (h.h10 a).1.2.2.2 (by decide), h'.h11, h'.n58, fun a _ => Nat.ne_of_lt (h.h5 a).2, fun a _ => Nat.ne_of_lt (h.h8 a).2⟩
theorem NnF.set10 (h : NnF w0 W gr l0 b0 true true true true false b11 x4 x5 x7 x10 x13 x14 x15 g5 g8 g9 gx) : NnF w0 W gr l0 b0 true true true true true b11 x4 x5 x7 x10 x13 x14 (.agg #[x7, x10, x13, x14, .int .i64 0]) g5 g8 g9 gx :=
  ⟨h.below, h.hgr, h.h0, h.h2, h.h5, h.h8, h.h9, fun _ => ⟨⟨rfl, rfl, rfl, rfl⟩, rfl⟩, h.h11, h.n58, h.n59, h.n89⟩
theorem NnF.set11 (h : NnF w0 W gr l0 b0 b2 b5 b8 b9 b10 false x4 x5 x7 x10 x13 x14 x15 g5 g8 g9 gx) {g : Nat} (hg : g = W.heap.size) (hu : W1.heap[g]? = some (.cells #[.slice none 0 0, .slice none 0 0, .slice none 0 0, .slice none 0 0, .int .i64 0] 27 (0, 0))) (hb : Below W.heap.size W W1) : NnF w0 W1 gr l0 b0 b2 b5 b8 b9 b10 true (.pointer (some ⟨g, 0, none⟩)) x5 x7 x10 x13 x14 x15 g5 g8 g9 g :=
  have h' := h.step hb
  ⟨h'.below, h'.hgr, h'.h0, h'.h2, h'.h5, h'.h8, h'.h9, h'.h10, fun _ => ⟨rfl, hu, hg ▸ h.below.size, by rw [hg]; exact Nat.ne_of_gt (blk_lt h.hgr)⟩, h'.n58, h'.n59, h'.n89⟩
end
section
variable {ops : Array Oper} {Q : Exit → Act → World → Prop} {oi : Oper} {a : Act} {W : World} {K : Act → World → Prop}
theorem nn_make {N : Tmp} (hw : Region.wanted oi (yielded ops a.tmps) = true) (hd : oi.dst = some N) (x : Operand) (ho : oi.op = .makeSlice 23 x x) (n : Nat) (hn : n ≤ 1048576) (hx : a.eval x = .int .i64 (n : Int))
    (h : ∀ v W1, Kd.S (Kd.slice 9 Kd.string) 62 W1 W.heap.size (fun k_ => k_ = W.heap.size) v (List.replicate n []) → Below W.heap.size W W1 → (∃ b, v.ownBlock = some b ∧ W.heap.size ≤ b) → K (a.put (some N) v) W1) :
    if Region.wanted oi (yielded ops a.tmps) = true then Oper.wp Tryz.prog oi a W K Q else K (a.put (some N) undef) W := by
  rw [← hd] at h ⊢
  exact Kd.S_make_step (Kd.slice 9 Kd.string) _ 62 hw hd 23 x x ho (n : Int) hx hx Tryz.underlying23 (.slice none 0 0) 24 info62 rfl (by decide) (by omega) [] (ok := fun k_ => k_ = W.heap.size) (okp := fun k_ => k_ = W.heap.size) ⟨_, rfl, Kd.R_nil _ _ _ _ _⟩ (fun _ hk => hk) rfl (Int.natCast_nonneg n) (by rw [Int.toNat_natCast]; omega) (Below.refl _ _) (Nat.le_refl _) (fun v W1 h1 h2 _ h4 => h v W1 (by rw [Int.toNat_natCast] at h1; exact h1) h2 h4)
end
abbrev nst5 (W : World) (g : Nat) (a0 a1 a2 a3 a4 : Value) : World := ((((W.setCell ⟨g, 0, none⟩ a0).setCell ⟨g, 1, none⟩ a1).setCell ⟨g, 2, none⟩ a2).setCell ⟨g, 3, none⟩ a3).setCell ⟨g, 4, none⟩ a4
theorem nst5_blk {W : World} {g : Nat} {t : TypeId} {z0 z1 z2 z3 z4 : Value} (h : W.heap[g]? = some (.cells #[z0, z1, z2, z3, z4] t (0, 0))) (a0 a1 a2 a3 a4 : Value) : (nst5 W g a0 a1 a2 a3 a4).heap[g]? = some (.cells #[a0, a1, a2, a3, a4] t (0, 0)) :=
  blk_put (blk_put (blk_put (blk_put (blk_put h 0 a0 rfl) 1 a1 rfl) 2 a2 rfl) 3 a3 rfl) 4 a4 rfl
theorem nst5_far (W : World) (g : Nat) (a0 a1 a2 a3 a4 : Value) (k : Nat) (hk : k ≠ g) : (nst5 W g a0 a1 a2 a3 a4).heap[k]? = W.heap[k]? :=
  (Below.heap_setCell _ ⟨g, 4, none⟩ _ k hk).trans ((Below.heap_setCell _ ⟨g, 3, none⟩ _ k hk).trans ((Below.heap_setCell _ ⟨g, 2, none⟩ _ k hk).trans ((Below.heap_setCell _ ⟨g, 1, none⟩ _ k hk).trans (Below.heap_setCell _ ⟨g, 0, none⟩ _ k hk))))
theorem nst5_below {w W : World} {g : Nat} (h : Below w.heap.size w W) (hg : w.heap.size ≤ g) (a0 a1 a2 a3 a4 : Value) : Below w.heap.size w (nst5 W g a0 a1 a2 a3 a4) := below_set (below_set (below_set (below_set (below_set h hg) hg) hg) hg) hg
theorem nst5_size (W : World) (g : Nat) (a0 a1 a2 a3 a4 : Value) : (nst5 W g a0 a1 a2 a3 a4).heap.size = W.heap.size := by simp only [nst5, World.size_setCell]
/-- A made row of rows behind a store into a net's block. -/
theorem NnS.far {W : World} {B g gx : Nat} {x : Value} {n : Nat} {cs : Array Value} (h : NnS W B g x n) (hb : W.heap[gx]? = some (.cells cs 27 (0, 0))) (a0 a1 a2 a3 a4 : Value) : NnS (nst5 W gx a0 a1 a2 a3 a4) B g x n :=
  ⟨Kd.S_mono (Kd.S_step (Kd.S_types h.1 hb (by decide)) (fun k hk _ => nst5_far W gx _ _ _ _ _ k hk.2)) (fun _ hk => hk.1), by rw [nst5_size]; exact h.2⟩
theorem nn_rfar {W : World} {B gx : Nat} {x : Value} {l : List Int} {cs : Array Value} (h : Kd.R (Kd.int .i64) 3 W B (fun _ => True) x l) (hb : W.heap[gx]? = some (.cells cs 27 (0, 0))) (a0 a1 a2 a3 a4 : Value) : Kd.R (Kd.int .i64) 3 (nst5 W gx a0 a1 a2 a3 a4) B (fun _ => True) x l :=
  Kd.R_mono (Kd.R_step (Kd.R_types h hb (by decide)) (fun k hk _ => nst5_far W gx _ _ _ _ _ k hk.2)) (fun _ _ => trivial)
theorem nn_pure {P : Program} {ops : Array Oper} {Q : Exit → Act → World → Prop} {oi : Oper} {a : Act} {W : World} {K : Act → World → Prop} {N : Option Tmp} {v : Value} (hw : Region.wanted oi (yielded ops a.tmps) = true) (hy : ∀ w, (execOp a.eval oi).run P w = .ok (.value v) w) (h : K (a.put oi.dst v) W) : if Region.wanted oi (yielded ops a.tmps) = true then Oper.wp P oi a W K Q else K (a.put N undef) W := by
  rw [if_pos hw]
  unfold Oper.wp
  rw [hy]
  exact h
/-- A net that has just been made: nothing is shared. -/
def NnPost (w : World) (r1 : List Int) (r2 r3 r4 : List (List ByteArray)) (b : Bool) (e : Ending) (w' : World) : Prop := ∃ (v0_ v1_ v2_ v3_ : Value) (g1 g2 g3 : Nat), e = .returned (.tuple #[.agg #[v0_, v1_, v2_, v3_, .int .i64 0], .bool b]) ∧ Kd.R (Kd.int .i64) 3 w' w.heap.size (fun _ => True) v0_ r1 ∧ Kd.S (Kd.slice 9 Kd.string) 62 w' w.heap.size (fun k_ => k_ = g1) v1_ r2 ∧ Kd.S (Kd.slice 9 Kd.string) 62 w' w.heap.size (fun k_ => k_ = g2) v2_ r3 ∧ Kd.S (Kd.slice 9 Kd.string) 62 w' w.heap.size (fun k_ => k_ = g3) v3_ r4 ∧ (g1 ≠ g2 ∧ g1 ≠ g3 ∧ g2 ≠ g3) ∧ Below w.heap.size w w'
theorem nn_ne {d : Kd (List ByteArray)} {e : Nat} {w : World} {base g1 g2 : Nat} {v : Value} {xs : List (List ByteArray)} (h : Kd.S d e w base (fun k_ => k_ = g2) v xs) (hn : g1 ≠ g2) : some g1 ≠ v.ownBlock := fun e => hn (by obtain ⟨f, h0, _⟩ := h; exact (h0 _ e.symm))
theorem nn_post {w : World} {r1 : List Int} {r2 r3 r4 : List (List ByteArray)} {b : Bool} {e : Ending} {w' : World} (h : NnPost w r1 r2 r3 r4 b e w') : ∃ v0_ v1_ v2_ v3_ : Value, e = .returned (.tuple #[.agg #[v0_, v1_, v2_, v3_, .int .i64 0], .bool b]) ∧ Kd.R (Kd.int .i64) 3 w' w.heap.size (fun _ => True) v0_ r1 ∧ Kd.S (Kd.slice 9 Kd.string) 62 w' w.heap.size (fun k_ => some k_ ≠ (v2_ : Value).ownBlock ∧ some k_ ≠ (v3_ : Value).ownBlock) v1_ r2 ∧ Kd.S (Kd.slice 9 Kd.string) 62 w' w.heap.size (fun k_ => some k_ ≠ (v1_ : Value).ownBlock ∧ some k_ ≠ (v3_ : Value).ownBlock) v2_ r3 ∧ Kd.S (Kd.slice 9 Kd.string) 62 w' w.heap.size (fun k_ => some k_ ≠ (v1_ : Value).ownBlock ∧ some k_ ≠ (v2_ : Value).ownBlock) v3_ r4 ∧ Below w.heap.size w w' := by
 obtain ⟨v0, v1, v2, v3, g1, g2, g3, he, h0, h1, h2, h3, ⟨n1, n2, n3⟩, hb⟩ := h
 exact ⟨v0, v1, v2, v3, he, h0, Kd.S_mono h1 (fun k hk => by subst hk; exact ⟨nn_ne h2 n1, nn_ne h3 n2⟩), Kd.S_mono h2 (fun k hk => by subst hk; exact ⟨nn_ne h1 (Ne.symm n1), nn_ne h3 n3⟩), Kd.S_mono h3 (fun k hk => by subst hk; exact ⟨nn_ne h1 (Ne.symm n2), nn_ne h2 (Ne.symm n3)⟩), hb⟩
/-! ### spec_NewNet: function 49 -/
def nnA4 (A0 : Option Addr) (c0 : Nat) (l0 : List Int) (gr : Nat) (x4 x5 x7 x10 x13 x14 x15 : Value) : Act := { tmps := #[.slice A0 l0.length c0, undef, .pointer (some ⟨gr, 0, none⟩), .bool false, x4, x5, .slice A0 l0.length c0, x7, .slice A0 l0.length c0, .int .i64 (l0.length : Int), x10, .slice A0 l0.length c0, .int .i64 (l0.length : Int), x13, x14, x15, undef, undef, undef, undef, undef], defers := [] }
def spec_NewNet.T1 : Bool × List (List Nat × List Nat) := (true, [([], []), ([], []), ([0, 1], [0, 1]), ([], []), ([3], [3]), ([4, 4], [4]), ([], []), ([6], [6]), ([7, 7], [7]), ([], []), ([2, 5, 8, 9], [2, 5, 8, 9]), ([], []), ([11, 10, 2, 0, 1, 2, 3, 4, 5, 6, 7, 8, 9, 10, 11], [10, 11])])
def spec_NewNet.B1 : List Nat := [0, 0, 3, 0, 8, 24, 0, 64, 192, 0, 1023, 0, 4095]
theorem spec_NewNet.tab1 : rtab .any (opsOf Tryz.f49 1) = spec_NewNet.T1 := by kernel_rfl
theorem spec_NewNet.bits1 : waitsOk spec_NewNet.T1.2 spec_NewNet.B1 = true := by kernel_rfl
def spec_NewNet.f (k : Nat) (l0 : List Int) : Option (List Int × List (List ByteArray) × List (List ByteArray) × List (List ByteArray) × Int × Bool) := if l0.length ≤ 1048576 then (spec_GoodNet.f k l0 (List.replicate l0.length []) (List.replicate l0.length []) (List.replicate 4 []) 0).bind fun r => some (if r = true then (l0, List.replicate l0.length [], List.replicate l0.length [], List.replicate 4 [], 0, true) else ([], [], [], [], 0, false)) else none
theorem nn_good (k : Nat) (A7 : Option Addr) (c7 : Nat) (l0 : List Int) (A10 : Option Addr) (c10 : Nat) (A13 : Option Addr) (c13 : Nat) (A14 : Option Addr) (c14 : Nat) (r : Bool) (W : World) (h0 : Kd.C (Kd.int .i64) W A7 l0.length l0) (k0 : l0.length ≤ c7) (h1 : Kd.C (Kd.slice 9 Kd.string) W A10 l0.length (List.replicate l0.length [])) (k1 : l0.length ≤ c10) (h2 : Kd.C (Kd.slice 9 Kd.string) W A13 l0.length (List.replicate l0.length [])) (k2 : l0.length ≤ c13) (h3 : Kd.C (Kd.slice 9 Kd.string) W A14 4 (List.replicate 4 [])) (k3 : 4 ≤ c14) (h : spec_GoodNet.f k l0 (List.replicate l0.length []) (List.replicate l0.length []) (List.replicate 4 []) 0 = some r) :
  Calls Tryz.prog 42 #[.agg #[.slice A7 l0.length c7, .slice A10 l0.length c10, .slice A13 l0.length c13, .slice A14 4 c14, .int .i64 0]] W fun e w' => e = .returned (.bool r) ∧ Below W.heap.size W w' := by
 have h' := spec_GoodNet.calls k A7 c7 l0 A10 c10 (List.replicate l0.length []) A13 c13 (List.replicate l0.length []) A14 c14 (List.replicate 4 []) 0 r W h0 k0 (by rw [List.length_replicate]; exact h1) (by rw [List.length_replicate]; exact k1) (by rw [List.length_replicate]; exact h2) (by rw [List.length_replicate]; exact k2) (by rw [List.length_replicate]; exact h3) (by rw [List.length_replicate]; exact k3) h
 rw [List.length_replicate, List.length_replicate] at h'
 exact h'
set_option maxHeartbeats 16000000 in
set_option maxRecDepth 100000 in
theorem spec_NewNet.calls0 (k : Nat) (A0 : Option Addr) (c0 : Nat) (l0 : List Int) (r : Bool) (w : World) (hr0 : Kd.C (Kd.int .i64) w A0 l0.length l0) (hc0 : l0.length ≤ c0) (hn : l0.length ≤ 1048576) (h : spec_GoodNet.f k l0 (List.replicate l0.length []) (List.replicate l0.length []) (List.replicate 4 []) 0 = some r) :
  Calls Tryz.prog 49 #[.slice A0 l0.length c0] w (NnPost w (if r = true then l0 else []) (if r = true then List.replicate l0.length [] else []) (if r = true then List.replicate l0.length [] else []) (if r = true then List.replicate 4 [] else []) r) := by
 have hu27 := Tryz.underlying27
 have HR0 := Aside0.mk hr0; have HC0 := Aside0.mk hc0; have HN := Aside0.mk hn; have HG := Aside0.mk h; clear hr0 hc0 hn h
 obtain ⟨q1, hq1⟩ : ∃ q, q = (if r = true then l0 else []) := ⟨_, rfl⟩
 obtain ⟨q2, hq2⟩ : ∃ q, q = (if r = true then List.replicate l0.length ([] : List ByteArray) else []) := ⟨_, rfl⟩
 obtain ⟨q3, hq3⟩ : ∃ q, q = (if r = true then List.replicate 4 ([] : List ByteArray) else []) := ⟨_, rfl⟩
 rw [← hq1, ← hq2, ← hq3]; have Q1 := ak hq1; have Q2 := ak hq2; have Q3 := ak hq3; clear hq1 hq2 hq3
 have HB := Aside0.mk (Below.refl w.heap.size w)
 go_enter Tryz.func49, Tryz.ntmps49
 try go_wp2_with (first | ((with_reducible refine gate_dst (N := 2) rfl ?_); refine boxev 2 #[.slice none 0 0, .slice none 0 0, .slice none 0 0, .slice none 0 0, .int .i64 0] 27 ?_; intro gr hg w8 hbox hb; have BR := ak hbox; have GR := ak (hgl hg (belowd HB)); replace HB := ak (below_step (belowd HB) hb); clear hb hbox hg))
 replace BR := ak (blk_drew BR.out)
 replace HB := ak (below_drew1 HB.out)
 refine start_ (n := 13) (S := fun w' => True) (ds := []) (bl 13 0) (by kernel_rfl) rfl rfl trivial (fun hHeld => ?_); refine with_tabW spec_NewNet.tab1 spec_NewNet.bits1 (fun HT_ HW_ => ?_)
 generalize w8.drew = w9 at BR HB hHeld ⊢
 refine pureA 1 (some 6) 13 2 HT_ ?_
 refine pureA 3 (some 8) 13 10 HT_ ?_
 refine pureA 4 (some 9) 13 26 HT_ ?_
 refine pureA 6 (some 11) 13 90 HT_ ?_
 refine pureA 7 (some 12) 13 218 HT_ ?_
 clear hHeld HW_
 refine makers_ [0, 2, 5, 8, 9, 10, 11] (bl 13 4095) (fuel := 1) (fun s a W => ∃ x4 x5 x7 x10 x13 x14 x15 : Value, ∃ g5 g8 g9 gx : Nat, a = nnA4 A0 c0 l0 gr x4 x5 x7 x10 x13 x14 x15 ∧ NnF w W gr l0 (s 0) (s 2) (s 5) (s 8) (s 9) (s 10) (s 11) x4 x5 x7 x10 x13 x14 x15 g5 g8 g9 gx) ⟨undef, undef, undef, undef, undef, undef, undef, 0, 0, 0, 0, by simp only [nnA4], HB.out, BR.out, fun a => (by cases a), fun a => (by cases a), fun a => (by cases a), fun a => (by cases a), fun a => (by cases a), fun a => (by cases a), fun a => (by cases a), fun a => (by cases a), fun a => (by cases a), fun a => (by cases a)⟩ trivial ⟨?_, ?_, ?_, ?_, ?_, ?_, ?_, trivial⟩ ?_
 ·refine mk1 (some 5) (fun s a W hI hs hd K hK => ?_)
  obtain ⟨x4, x5, x7, x10, x13, x14, x15, g5, g8, g9, gx, rfl, F⟩ := hI
  rw [hs] at F
  unfold nnA4
  refine Kd.R_lit_step (Kd.int .i64) _ 3 ?hg (N := 5) ?hd (xs := ([] : List Int)) (inner := []) (ok := fun _ => True) (okp := fun _ => True) ?hr ?hp (fun _ hk => hk) trivial (Below.refl _ _) (Nat.le_refl _) (by simp) ?_; (case hd => rfl); (case hg => rfl); (case hr => first | (go_simp; done) | (go_simp; rfl)); (case hp => exact (Reps.none _ _))
  intro v W1 ho hb _ _
  exact hK.out _ _ trivial ⟨x4, v, x7, x10, x13, x14, x15, g5, g8, g9, gx, by show Act.put _ (some 5) _ = _; simp only [nnA4, Act.put, List.setIfInBounds_toArray, List.set_cons_zero, List.set_cons_succ], by simpa only [hs, hs, beq_self_eq_true, Bool.true_or, Bool.false_or, Nat.reduceBEq] using F.set0 ho hb⟩
 ·refine mk1 (some 7) (fun s a W hI hs hd K hK => ?_)
  obtain ⟨x4, x5, x7, x10, x13, x14, x15, g5, g8, g9, gx, rfl, F⟩ := hI
  rw [hs] at F
  have q0 : s 0 = true := hd ⟨0, .data⟩ (by simp) rfl
  rw [q0] at F
  unfold nnA4
  refine Kd.R_append_rows_step (Kd.int .i64) (w0 := w) w.heap.size (by rfl) (.tmp 5) (.tmp 6) 22 3 (.int .i64 0) 8 rfl Tryz.underlying22 info3 rfl (by decide) (by omega) x5 [] l0 _ _ _ (fun _ => True) (fun _ => False) rfl rfl (F.h0 rfl rfl) ?aR (fun _ _ h => h) (fun _ h => h.elim) (fun _ _ => trivial) F.below F.below.size ?aL ?_
  (case aR => exact cd (Kd.C_below HR0.out F.below))
  (case aL => have := HN.out; simp only [List.length_nil]; omega)
  intro v W1 ho hb hg _
  rw [List.nil_append] at ho
  exact hK.out _ _ trivial ⟨x4, x5, v, x10, x13, x14, x15, g5, g8, g9, gx, by show Act.put _ (some 7) _ = _; simp only [nnA4, Act.put, List.setIfInBounds_toArray, List.set_cons_zero, List.set_cons_succ], by simpa only [q0, hs, beq_self_eq_true, Bool.true_or, Bool.false_or, Nat.reduceBEq] using F.set2 ho hb hg⟩
 ·refine mk1 (some 10) (fun s a W hI hs hd K hK => ?_)
  obtain ⟨x4, x5, x7, x10, x13, x14, x15, g5, g8, g9, gx, rfl, F⟩ := hI
  rw [hs] at F
  unfold nnA4
  refine nn_make (by rfl) rfl _ rfl l0.length HN.out rfl (fun v W1 ho hb hn => ?_)
  exact hK.out _ _ trivial ⟨x4, x5, x7, v, x13, x14, x15, W.heap.size, g8, g9, gx, by show Act.put _ (some 10) _ = _; simp only [nnA4, Act.put, List.setIfInBounds_toArray, List.set_cons_zero, List.set_cons_succ], by simpa only [hs, hs, beq_self_eq_true, Bool.true_or, Bool.false_or, Nat.reduceBEq] using F.set5 ho hb hn⟩
 ·refine mk1 (some 13) (fun s a W hI hs hd K hK => ?_)
  obtain ⟨x4, x5, x7, x10, x13, x14, x15, g5, g8, g9, gx, rfl, F⟩ := hI
  rw [hs] at F
  unfold nnA4
  refine nn_make (by rfl) rfl _ rfl l0.length HN.out rfl (fun v W1 ho hb hn => ?_)
  exact hK.out _ _ trivial ⟨x4, x5, x7, x10, v, x14, x15, g5, W.heap.size, g9, gx, by show Act.put _ (some 13) _ = _; simp only [nnA4, Act.put, List.setIfInBounds_toArray, List.set_cons_zero, List.set_cons_succ], by simpa only [hs, hs, beq_self_eq_true, Bool.true_or, Bool.false_or, Nat.reduceBEq] using F.set8 ho hb hn⟩
 ·refine mk1 (some 14) (fun s a W hI hs hd K hK => ?_)
  obtain ⟨x4, x5, x7, x10, x13, x14, x15, g5, g8, g9, gx, rfl, F⟩ := hI
  rw [hs] at F
  unfold nnA4
  refine nn_make (by rfl) rfl _ rfl 4 (by omega) rfl (fun v W1 ho hb hn => ?_)
  exact hK.out _ _ trivial ⟨x4, x5, x7, x10, x13, v, x15, g5, g8, W.heap.size, gx, by show Act.put _ (some 14) _ = _; simp only [nnA4, Act.put, List.setIfInBounds_toArray, List.set_cons_zero, List.set_cons_succ], by simpa only [hs, hs, beq_self_eq_true, Bool.true_or, Bool.false_or, Nat.reduceBEq] using F.set9 ho hb hn⟩
 ·refine mk1 (some 15) (fun s a W hI hs hd K hK => ?_)
  obtain ⟨x4, x5, x7, x10, x13, x14, x15, g5, g8, g9, gx, rfl, F⟩ := hI
  rw [hs] at F
  have q2 : s 2 = true := hd ⟨2, .data⟩ (by simp) rfl
  have q5 : s 5 = true := hd ⟨5, .data⟩ (by simp) rfl
  have q8 : s 8 = true := hd ⟨8, .data⟩ (by simp) rfl
  have q9 : s 9 = true := hd ⟨9, .data⟩ (by simp) rfl
  rw [q2, q5, q8, q9] at F
  unfold nnA4
  obtain ⟨A7, c7, e7⟩ := Kd.R_slice (F.h2 rfl); subst e7; obtain ⟨A10, c10, e10⟩ := Kd.S_slice (F.h5 rfl).1; subst e10; obtain ⟨A13, c13, e13⟩ := Kd.S_slice (F.h8 rfl).1; subst e13; obtain ⟨A14, c14, e14⟩ := Kd.S_slice (F.h9 rfl).1; subst e14
  refine nn_pure (by rfl) (by intro w'; go_simp; with_reducible rfl) ?_
  exact hK.out _ _ trivial ⟨x4, x5, _, _, _, _, _, g5, g8, g9, gx, by show Act.put _ (some 15) _ = _; simp only [nnA4, Act.put, List.setIfInBounds_toArray, List.set_cons_zero, List.set_cons_succ]; rfl, by simpa only [List.length_replicate, q2, q5, q8, q9, hs, beq_self_eq_true, Bool.true_or, Bool.false_or, Nat.reduceBEq] using F.set10⟩
 ·refine mk1 (some 4) (fun s a W hI hs hd K hK => ?_)
  obtain ⟨x4, x5, x7, x10, x13, x14, x15, g5, g8, g9, gx, rfl, F⟩ := hI
  rw [hs] at F
  unfold nnA4
  refine box_step ?hg (N := 4) ?hd (cs := #[.slice none 0 0, .slice none 0 0, .slice none 0 0, .slice none 0 0, .int .i64 0]) (t := 27) ?hr ?_; (case hd => rfl); (case hg => rfl); (case hr => first | (go_simp; done) | (go_simp; rfl))
  intro g hg W1 ho hb
  exact hK.out _ _ trivial ⟨.pointer (some ⟨g, 0, none⟩), x5, x7, x10, x13, x14, x15, g5, g8, g9, g, by show Act.put _ (some 4) _ = _; simp only [nnA4, Act.put, List.setIfInBounds_toArray, List.set_cons_zero, List.set_cons_succ], by simpa only [hs, hs, beq_self_eq_true, Bool.true_or, Bool.false_or, Nat.reduceBEq] using F.set11 hg ho hb⟩
 clear BR HB
 rintro a W - ⟨x4, x5, x7, x10, x13, x14, x15, g5, g8, g9, gx, rfl, F⟩
 obtain ⟨-, e15⟩ := F.h10 rfl
 obtain ⟨e4, hx, hgx, hxr⟩ := F.h11 rfl
 subst e15; subst e4
 have HX := ak hx; have HE := ak hgx; have HF := ak F
 have K0 := ak (F.h2 rfl); have K1 := ak (F.h5 rfl); have K2 := ak (F.h8 rfl); have K3 := ak (F.h9 rfl)
 have HNE := ak (⟨F.n58 rfl rfl, F.n59 rfl rfl, F.n89 rfl rfl⟩ : g5 ≠ g8 ∧ g5 ≠ g9 ∧ g8 ≠ g9)
 clear F hx hgx
 unfold nnA4
 obtain ⟨A7, c7, e7⟩ := Kd.R_slice K0.out; subst e7; obtain ⟨A10, c10, e10⟩ := Kd.S_slice K1.out.1; subst e10; obtain ⟨A13, c13, e13⟩ := Kd.S_slice K2.out.1; subst e13; obtain ⟨A14, c14, e14⟩ := Kd.S_slice K3.out.1; subst e14
 refine oneA 12 none 13 8191 HT_ (fun K hK => ?_)
 obtain ⟨hz0, hz1, hz2, hz3, hz4, hq0, hq1, hq2, hq3, hq4⟩ := box5 HX
 refine skip_ (w1 := ?_) (by rfl) rfl ?_ ?_
 rotate_left
 ·go_simp
  rfl
 refine hK.out _ _ trivial (fun _ => ?_)
 clear hK K hz0 hz1 hz2 hz3 hz4 hq0 hq1 hq2 hq3 hq4
 refine done_ (done_of HT_.out (by kernel_rfl)) ?_
 clear HT_
 rw [List.length_replicate] at K1 K2; rw [show (List.replicate 4 ([] : List ByteArray)).length = 4 from rfl] at K3
 try simp only [List.length_replicate]
 have HBR := ak ((nst5_far W gx (.slice A7 l0.length c7) (.slice A10 l0.length c10) (.slice A13 l0.length c13) (.slice A14 4 c14) (.int .i64 0) gr (Ne.symm hxr)).trans HF.out.hgr)
 replace HB := ak (nst5_below HF.out.below HE.out (.slice A7 l0.length c7) (.slice A10 l0.length c10) (.slice A13 l0.length c13) (.slice A14 4 c14) (.int .i64 0))
 replace K0 := ak (nn_rfar K0.out HX.out (.slice A7 l0.length c7) (.slice A10 l0.length c10) (.slice A13 l0.length c13) (.slice A14 4 c14) (.int .i64 0))
 replace K1 := ak (NnS.far K1.out HX.out (.slice A7 l0.length c7) (.slice A10 l0.length c10) (.slice A13 l0.length c13) (.slice A14 4 c14) (.int .i64 0))
 replace K2 := ak (NnS.far K2.out HX.out (.slice A7 l0.length c7) (.slice A10 l0.length c10) (.slice A13 l0.length c13) (.slice A14 4 c14) (.int .i64 0))
 replace K3 := ak (NnS.far K3.out HX.out (.slice A7 l0.length c7) (.slice A10 l0.length c10) (.slice A13 l0.length c13) (.slice A14 4 c14) (.int .i64 0))
 replace HX := ak (nst5_blk HX.out (.slice A7 l0.length c7) (.slice A10 l0.length c10) (.slice A13 l0.length c13) (.slice A14 4 c14) (.int .i64 0))
 clear HF
 unfold nst5 at HBR HB K0 K1 K2 K3 HX
 generalize (((((W.setCell ⟨gx, 0, none⟩ (.slice A7 l0.length c7)).setCell ⟨gx, 1, none⟩ (.slice A10 l0.length c10)).setCell ⟨gx, 2, none⟩ (.slice A13 l0.length c13)).setCell ⟨gx, 3, none⟩ (.slice A14 4 c14)).setCell ⟨gx, 4, none⟩ (.int .i64 0)) = W2 at HBR HB K0 K1 K2 K3 HX ⊢
 obtain ⟨hz0, hz1, hz2, hz3, hz4, hq0, hq1, hq2, hq3, hq4⟩ := box5 HX
 have S1 := ak (Kd.S_reads' K1.out.1); have S2 := ak (Kd.S_reads' K2.out.1); have S3 := ak (Kd.S_reads' K3.out.1); have S0 := ak (Kd.R_reads' K0.out)
 rw [List.length_replicate] at S1 S2; rw [show (List.replicate 4 ([] : List ByteArray)).length = 4 from rfl] at S3
 cases r with
 | false =>
  obtain rfl := Q1.out; obtain rfl := Q2.out; obtain rfl := Q3.out; clear Q1 Q2 Q3; rw [if_neg (by decide), if_neg (by decide), if_neg (by decide)]
  go_wp2_with (first | ((with_reducible refine gate_callee (f := 42) rfl ?_); refine goesLa (some 17) rfl Tryz.func42 #[.agg #[.slice A7 l0.length c7, .slice A10 l0.length c10, .slice A13 l0.length c13, .slice A14 4 c14, .int .i64 0]] rfl ?_; have HC_ := nn_good k A7 c7 l0 A10 c10 A13 c13 A14 c14 _ W2 S0.out.2.2 S0.out.2.1 S1.out.2.2 S1.out.2.1 S2.out.2.2 S2.out.2.1 S3.out.2.2 S3.out.2.1 HG.out; (with_reducible refine (HC_).mono ?_); clear HC_; rintro e W3 ⟨rfl, hb⟩; refine ⟨_, rfl, ?_⟩; replace HBR := ak (blk_below HBR.out hb); replace HX := ak (blk_below HX.out hb); replace K0 := ak (Kd.R_below K0.out hb); replace K1 := ak (K1.out.step hb); replace K2 := ak (K2.out.step hb); replace K3 := ak (K3.out.step hb); replace HB := ak (below_step HB.out hb); clear hb hz0 hz1 hz2 hz3 hz4 hq0 hq1 hq2 hq3 hq4; obtain ⟨hcz0, hcz1, hcz2, hcz3, hcz4, hfz0, hfz1, hfz2, hfz3, hfz4⟩ := box5 HBR; obtain ⟨hdz0, hdz1, hdz2, hdz3, hdz4, hgz0, hgz1, hgz2, hgz3, hgz4⟩ := box5 HX))
  refine bodyPost_ret (results_ct rfl _ _ gr 27 #[.slice none 0 0, .slice none 0 0, .slice none 0 0, .slice none 0 0, .int .i64 0] (0, 0) _ rfl (by exact nst5_blk HBR.out _ _ _ _ _) Tryz.underlying27 rfl (by kernel_rfl)) rfl ?_
  exact ⟨_, _, _, _, 0, 1, 2, rfl, Kd.R_nil _ _ _ _ _, Kd.S_nil _ _ _ _ _, Kd.S_nil _ _ _ _ _, Kd.S_nil _ _ _ _ _, ⟨by decide, by decide, by decide⟩, nst5_below HB.out GR.out _ _ _ _ _⟩
 | true =>
  have e1 : l0 = q1 := Q1.out.symm; subst e1; have e2 : List.replicate l0.length [] = q2 := Q2.out.symm; subst e2; have e3 : List.replicate 4 [] = q3 := Q3.out.symm; subst e3; clear Q1 Q2 Q3
  go_wp2_with (first | ((with_reducible refine gate_callee (f := 42) rfl ?_); refine goesLa (some 17) rfl Tryz.func42 #[.agg #[.slice A7 l0.length c7, .slice A10 l0.length c10, .slice A13 l0.length c13, .slice A14 4 c14, .int .i64 0]] rfl ?_; have HC_ := nn_good k A7 c7 l0 A10 c10 A13 c13 A14 c14 _ W2 S0.out.2.2 S0.out.2.1 S1.out.2.2 S1.out.2.1 S2.out.2.2 S2.out.2.1 S3.out.2.2 S3.out.2.1 HG.out; (with_reducible refine (HC_).mono ?_); clear HC_; rintro e W3 ⟨rfl, hb⟩; refine ⟨_, rfl, ?_⟩; replace HBR := ak (blk_below HBR.out hb); replace HX := ak (blk_below HX.out hb); replace K0 := ak (Kd.R_below K0.out hb); replace K1 := ak (K1.out.step hb); replace K2 := ak (K2.out.step hb); replace K3 := ak (K3.out.step hb); replace HB := ak (below_step HB.out hb); clear hb hz0 hz1 hz2 hz3 hz4 hq0 hq1 hq2 hq3 hq4; obtain ⟨hcz0, hcz1, hcz2, hcz3, hcz4, hfz0, hfz1, hfz2, hfz3, hfz4⟩ := box5 HBR; obtain ⟨hdz0, hdz1, hdz2, hdz3, hdz4, hgz0, hgz1, hgz2, hgz3, hgz4⟩ := box5 HX))
  refine bodyPost_ret (results_ct rfl _ _ gr 27 #[.slice A7 l0.length c7, .slice A10 l0.length c10, .slice A13 l0.length c13, .slice A14 4 c14, .int .i64 0] (0, 0) _ rfl (by exact nst5_blk HBR.out _ _ _ _ _) Tryz.underlying27 rfl (by kernel_rfl)) rfl ?_
  exact ⟨_, _, _, _, g5, g8, g9, rfl, nn_rfar K0.out HBR.out _ _ _ _ _, (NnS.far K1.out HBR.out _ _ _ _ _).1, (NnS.far K2.out HBR.out _ _ _ _ _).1, (NnS.far K3.out HBR.out _ _ _ _ _).1, HNE.out, nst5_below HB.out GR.out _ _ _ _ _⟩
theorem spec_NewNet.mono : ∀ a0 k, LeO (spec_NewNet.f k a0) (spec_NewNet.f (k + 1) a0) := by
 intro a0 k
 unfold spec_NewNet.f
 exact LeO.ite (LeO.bind (spec_GoodNet.mono _ _ _ _ _ _) (fun _ => LeO.refl _)) (LeO.refl _)
theorem spec_NewNet.calls (k : Nat) (A0 : Option Addr) (c0 : Nat) (l0 : List Int) (r1 : List Int) (r2 : List (List ByteArray)) (r3 : List (List ByteArray)) (r4 : List (List ByteArray)) (r5 : Int) (r6 : Bool) (w : World) (hr0 : Kd.C (Kd.int .i64) w A0 l0.length l0) (hc0 : l0.length ≤ c0) (h : spec_NewNet.f k l0 = some (r1, r2, r3, r4, r5, r6)) :
  Calls Tryz.prog 49 #[.slice A0 l0.length c0] w fun e w' => ∃ v0_ v1_ v2_ v3_ : Value, e = .returned (.tuple #[.agg #[v0_, v1_, v2_, v3_, .int .i64 r5], .bool r6]) ∧ Kd.R (Kd.int .i64) 3 w' w.heap.size (fun _ => True) v0_ r1 ∧ Kd.S (Kd.slice 9 Kd.string) 62 w' w.heap.size (fun k_ => some k_ ≠ (v2_ : Value).ownBlock ∧ some k_ ≠ (v3_ : Value).ownBlock) v1_ r2 ∧ Kd.S (Kd.slice 9 Kd.string) 62 w' w.heap.size (fun k_ => some k_ ≠ (v1_ : Value).ownBlock ∧ some k_ ≠ (v3_ : Value).ownBlock) v2_ r3 ∧ Kd.S (Kd.slice 9 Kd.string) 62 w' w.heap.size (fun k_ => some k_ ≠ (v1_ : Value).ownBlock ∧ some k_ ≠ (v2_ : Value).ownBlock) v3_ r4 ∧ Below w.heap.size w w' := by
 unfold spec_NewNet.f at h
 obtain ⟨hn, h⟩ := ifS h
 obtain ⟨r, A1, h⟩ := bS h
 have hc := spec_NewNet.calls0 k A0 c0 l0 r w hr0 hc0 hn A1.out
 have h := Option.some.inj h
 cases r with
 | false =>
  obtain ⟨rfl, rfl, rfl, rfl, rfl, rfl⟩ : [] = r1 ∧ [] = r2 ∧ [] = r3 ∧ [] = r4 ∧ 0 = r5 ∧ false = r6 := by simpa using h
  exact hc.mono fun e w' he => nn_post he
 | true =>
  obtain ⟨rfl, rfl, rfl, rfl, rfl, rfl⟩ : l0 = r1 ∧ List.replicate l0.length [] = r2 ∧ List.replicate l0.length [] = r3 ∧ List.replicate 4 [] = r4 ∧ 0 = r5 ∧ true = r6 := by simpa using h
  exact hc.mono fun e w' he => nn_post he

/-! ### spec_l17Rows: function 87 -/
def spec_l17Rows.l0 : Nat → List (List ByteArray) → List (List ByteArray) → Int → Int → Option ((List (List ByteArray)))
  | 0, _, _, _, _ => none
  | k + 1, x3, x6, x7, x8 => if x8 < x7 then (if 0 ≤ x8 then (if x8 < (x6.length : Int) then ((some (([] : List ByteArray) : List ByteArray)).bind fun y153 => (if y153.length + (rd_L2 x6 x8).length < 8796093022208 then (if x3.length < 5864062014805 then (spec_l17Rows.l0 k (x3 ++ [(y153 ++ (rd_L2 x6 x8))]) x6 x7 (wrap64 (x8 + 1))) else (none)) else (none))) else (none)) else (none)) else (some x3)
def spec_l17Rows.f (k : Nat) (l0 : List (List ByteArray)) : Option ((List (List ByteArray))) := spec_l17Rows.l0 k ([] : List (List ByteArray)) l0 (l0.length : Int) 0
theorem spec_l17Rows.mono_l : ∀ k, (∀ y0 y1 y2 y3, LeO (spec_l17Rows.l0 k y0 y1 y2 y3) (spec_l17Rows.l0 (k + 1) y0 y1 y2 y3))
 | 0 => fun _ _ _ _ r h => by simp [spec_l17Rows.l0] at h
 | k + 1 => by
  have ih0 := spec_l17Rows.mono_l k
  ·intro y0 y1 y2 y3
   unfold spec_l17Rows.l0
   repeat' (first | (with_reducible first | exact ih0 _ _ _ _ | exact LeO.refl _ | exact LeO.none _ | refine LeO.ite ?_ ?_ | refine LeO.bind ?_ (fun _ => ?_)) | exact ih0 _ _ _ _ | exact LeO.none _ | refine LeO.ite ?_ ?_ | refine LeO.bind ?_ (fun _ => ?_))
theorem spec_l17Rows.mono : ∀ a0 k, LeO (spec_l17Rows.f k a0) (spec_l17Rows.f (k + 1) a0) := by
 intro a0 k
 have ih0 := spec_l17Rows.mono_l k
 unfold spec_l17Rows.f
 repeat' (first | (with_reducible first | exact ih0 _ _ _ _ | exact LeO.refl _ | exact LeO.none _ | refine LeO.ite ?_ ?_ | refine LeO.bind ?_ (fun _ => ?_)) | exact ih0 _ _ _ _ | exact LeO.none _ | refine LeO.ite ?_ ?_ | refine LeO.bind ?_ (fun _ => ?_))
set_option maxHeartbeats 8000000 in
set_option maxRecDepth 100000 in
theorem spec_l17Rows.calls (k : Nat) (A0 : Option Addr) (c0 : Nat) (l0 : List (List ByteArray)) (r : List (List ByteArray)) (w : World) (hr0 : Kd.C (Kd.slice 9 Kd.string) w A0 l0.length l0) (hc0 : l0.length ≤ c0) (h : spec_l17Rows.f k l0 = some r) :
  Calls Tryz.prog 87 #[.slice A0 l0.length c0] w fun e w' => ∃ v0_ : Value, e = .returned (v0_) ∧ Kd.S (Kd.slice 9 Kd.string) 62 w' w.heap.size (fun _ => True) v0_ r ∧ Below w.heap.size w w' := by
 have HR0 := Aside0.mk hr0; have HC0 := Aside0.mk hc0; clear hr0 hc0
 have HB := Aside0.mk (Below.refl w.heap.size w)
 have H : (spec_l17Rows.l0 k ([] : List (List ByteArray)) l0 (l0.length : Int) 0) = some r := h
 clear h
 have H' := Aside0.mk H
 clear H
 go_enter Tryz.func87, Tryz.ntmps87
 go_wp2
 go_loopg [3, 8] k (fun kq v3 v8 w' => ∃ (x3_1 : List (List ByteArray)) (x8_1 : Int), v8 = .int .i64 x8_1 ∧ Aside0 (spec_l17Rows.l0 kq x3_1 l0 (l0.length : Int) x8_1 = some r) ∧ Aside0 (kq ≤ k) ∧ Aside0 (Kd.S (Kd.slice 9 Kd.string) 62 w' w.heap.size (fun _ => True) v3 x3_1) ∧ Aside0 (Below w.heap.size w w'))
 case atStart => exact ⟨(([] : List (List ByteArray))), (0), er, H', ⟨Nat.le_refl _⟩, ⟨by first | exact Kd.S_nil _ _ _ _ _ | exact Kd.N_nil _ _ _ _ _ | exact Kd.V_nil _ _ _ _ _ | exact Kd.Q_nil _ _ _ _ _ | exact Kd.R_nil _ _ _ _ _⟩, ⟨belowd HB⟩⟩
 case round =>
  clear H'
  obtain ⟨x3_1, x8_1, rfl, HA, HK1, HO_3, HB⟩ := hrel
  cases gk with
  | zero => exact absurd HA.out (by simp [spec_l17Rows.l0])
  | succ k1 =>
   have H := HA.out; clear HA
   simp only [spec_l17Rows.l0] at H
   by_cases c2 : x8_1 < (l0.length : Int)
   ·rw [if_pos c2] at H
    have c2b0 : decide (x8_1 < (l0.length : Int)) = true := decide_eq_true c2
    clear c2; replace H := ifS H; obtain ⟨c3, H⟩ := H; have c3b0 := decide_eq_true c3; clear c3; replace H := ifS H; obtain ⟨c4, H⟩ := H; have c4b0 := decide_eq_true c4; clear c4
    obtain ⟨y153, hy_⟩ : ∃ y_ : List ByteArray, y_ = (([] : List ByteArray)) := ⟨_, rfl⟩
    replace H : (if y153.length + (rd_L2 l0 x8_1).length < 8796093022208 then (if x3_1.length < 5864062014805 then (spec_l17Rows.l0 k1 (x3_1 ++ [(y153 ++ (rd_L2 l0 x8_1))]) l0 (l0.length : Int) (wrap64 (x8_1 + 1))) else (none)) else (none)) = some r := yH
    have Ny153 := ak hy_; clear hy_; replace H := ifS H; obtain ⟨c5, H⟩ := H; have LMc5 := Aside0.mk c5; clear c5
    obtain ⟨y156, hy_⟩ : ∃ y_ : List ByteArray, y_ = (y153 ++ (rd_L2 l0 x8_1)) := ⟨_, rfl⟩
    replace H : (if x3_1.length < 5864062014805 then (spec_l17Rows.l0 k1 (x3_1 ++ [y156]) l0 (l0.length : Int) (wrap64 (x8_1 + 1))) else (none)) = some r := yH
    have Ny156 := ak hy_; clear hy_; replace H := ifS H; obtain ⟨c6, H⟩ := H; have LMc6 := Aside0.mk c6; clear c6
    obtain ⟨y159, hy_⟩ : ∃ y_ : List (List ByteArray), y_ = (x3_1 ++ [y156]) := ⟨_, rfl⟩
    replace H : (spec_l17Rows.l0 k1 y159 l0 (l0.length : Int) (wrap64 (x8_1 + 1))) = some r := yH
    have Ny159 := ak hy_; clear hy_
    have H' := Aside0.mk H
    clear H
    have p152 : 0 ≤ (x8_1 : Int) := da
    have q152 : x8_1 < (l0.length : Int) := da
    obtain ⟨ad152, A152_0, c152_0, e152, hx152_0, hl152_0, hi152_0⟩ := at_L2 HR0.out x8_1 p152 q152
    cases e152
    replace hx152_0 := (HB.out.cell (World.block_lt_of_cell? w _ hx152_0)).trans hx152_0
    have HR152_0 := Aside0.mk hi152_0; have HC152_0 := Aside0.mk hl152_0; clear hi152_0 hl152_0; replace p152 := eq_true p152; replace q152 := eq_true q152
    go_wp2_with (first | ((with_reducible refine gate_dst (N := 13) rfl ?_); refine Kd.R_lit Kd.string _ 9 ?hg (N := 13) ?hd (xs := ([] : List ByteArray)) (inner := []) (ok := fun _ => True) (okp := fun _ => True) ?hr ?hp (fun _ hk => hk) trivial (Below.refl _ _) (Nat.le_refl _) (by simp) ?_; (case hd => rfl); (case hg => rfl); (case hr => first | (go_simp; done) | (go_simp; rfl)); (case hp => exact (Reps.none _ _)); intro v154 w7 ho8 hb hg_ hnew_; clear hg_ hnew_; (first | rw [← Ny153.out] at ho8 | (simp only [Int.reduceToNat] at ho8; rw [← Ny153.out] at ho8)); replace HO_3 := ak (Kd.S_elder' (sd HO_3) (Kd.R_base ho8) hb); have HO155 := ak (Kd.R_lower ho8 (below_size (belowd HB))); replace HB := ak (below_step (belowd HB) hb); clear hb ho8) | ((with_reducible refine gate_builtin (b := .append) (xs := #[.tmp 13, .tmp 14]) rfl ?_); at_builtin; refine Kd.R_append_rows Kd.string (w0 := w) w.heap.size rfl (.tmp 13) (.tmp 14) 62 9 (.string ⟨#[]⟩) 16 rfl Tryz.underlying62 info9 rfl (by decide) (by omega) v154 y153 (rd_L2 l0 x8_1) _ _ _ (fun _ => True) (fun _ => False) rfl rfl ?aO ?aR (fun _ _ h => h) (fun _ h => h.elim) ?aF ?aB ?aS ?aL ?_; (case aR => exact cd (Kd.C_below HR152_0.out HB.out)); (case aB => exact (belowd HB)); (case aF => exact (fun _ _ => trivial)); (case aO => exact (rdl HO155)); (case aS => exact (below_size (belowd HB))); (case aL => have := LMc5.out; omega); intro v157 w9 ho hb hg hat; rw [← Ny156.out] at ho; replace HO_3 := ak (Kd.S_after (ok := (fun _ => True)) (sd HO_3) hg hat); replace HB := ak (hb); have HO158 := ak (ho); clear HO155; clear ho hb hg hat; obtain ⟨Ao11, co11, eo11⟩ := Kd.R_slice HO158.out; subst eo11) | ((with_reducible refine gate_builtin (b := .append) (xs := #[.tmp 12, .tmp 16]) rfl ?_); at_builtin; refine Kd.S_append (Kd.slice 9 Kd.string) (w0 := w) w.heap.size rfl (.tmp 12) (.tmp 16) 23 62 (.slice none 0 0) 24 rfl Tryz.underlying23 info62 rfl (by decide) (by omega) u3 x3_1 y156 [.slice Ao11 y156.length co11] (fun _ => True) (fun k_ => some k_ = (.slice Ao11 y156.length co11 : Value).ownBlock) rfl rfl ?aP (fun k_ hk_ => ((Kd.R_mono (ok' := fun k_ => ((fun _ => True)) k_ ∧ some k_ ≠ (u3 : Value).ownBlock) (Kd.R_apart' (HO158.out) (Kd.S_typed HO_3.out) (by decide)) (fun k_ hk => ⟨trivial, hk.2⟩))).1 k_ hk_.symm) ?aF ?aO ?aB ?aS ?aL ?_; (case aP => exact Kd.M_row (Kd.R_mono (Kd.R_tight rfl (Kd.R_mono (ok' := fun k_ => ((fun _ => True)) k_ ∧ some k_ ≠ (u3 : Value).ownBlock) (Kd.R_apart' (HO158.out) (Kd.S_typed HO_3.out) (by decide)) (fun k_ hk => ⟨trivial, hk.2⟩))) (fun _ h_ => h_))); (case aB => exact (belowd HB)); (case aF => exact (fun _ _ => trivial)); (case aO => exact (by (with_reducible repeat (first | apply Kd.S_alloc | apply Kd.S_drewN | apply Kd.S_drew)); exact Kd.S_mono HO_3.out (fun k_ hk => ⟨trivial, fun e_ => hk.2 e_⟩))); (case aS => exact (below_size (belowd HB))); (case aL => have := LMc6.out; omega); intro v160 w10 ho hb hg hat; rw [← Ny159.out] at ho; replace HB := ak (hb); have HO161 := ak (ho); clear HO_3 HO158; clear ho hb hg hat))
    go_roundg k1
    case measure => have := HK1.out; omega
    case rel => exact ⟨(y159), (wrap64 (x8_1 + 1)), er, H', ⟨by have := HK1.out; omega⟩, ⟨sd HO161⟩, ⟨belowd HB⟩⟩
   ·rw [if_neg c2] at H
    have c2b0 : decide (x8_1 < (l0.length : Int)) = false := decide_eq_false c2
    clear c2
    obtain rfl := Option.some.inj H
    go_wp2
    go_ret
    exact ⟨_, er2, by (with_reducible repeat (first | apply Kd.S_alloc | apply Kd.S_drewN | apply Kd.S_drew)); exact HO_3.out, belowd HB⟩

end Go.Proofs.YtihekdlcfohkkaaGreatDoor.QFnExactPlayNet
