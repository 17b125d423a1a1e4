-- printed by this session's own program (wip/tools/pp.py: the kit's print.py with changes); Lean checks it
import Derived.Test.YtmhdjkbfghfajaaQFnExactInboxOfx0
import Derived.Test.YtmhdjkbfghfajaaQFnExactInboxOfx1
namespace Go.Proofs.Ytmhdjkbfghfajaa.QFnExactInboxOf
open Go.RowKit Go.Proofs.YtmhdjkbfghfajaaW.PrintWords Go.Proofs.YtmhdjkbfghfajaaW.PrintLast Go.Proofs.YtmhdjkbfghfajaaW.PrintMore
attribute [local go_sem] max2_int min2_int max_two min_two max_three min_three max_four min_four strLss strGtr strLeq strGeq   -- for this text's walks alone
set_option linter.unusedVariables false
set_option linter.unusedSimpArgs false

/-! ### spec_GoodNet: function 15 -/
mutual
def spec_GoodNet.j0 : Nat → Bool → List Int → List (List ByteArray) → List (List ByteArray) → List (List ByteArray) → Int → Option (Bool)
  | 0, _, _, _, _, _, _ => none
  | k + 1, x49, x115000, x115001, x115002, x115003, x115004 => if x49 = true then (some false) else (spec_GoodNet.l0 k x115001 (x115001.length : Int) 0 x115000 x115001 x115002 x115003 x115004)
def spec_GoodNet.l0 : Nat → List (List ByteArray) → Int → Int → List Int → List (List ByteArray) → List (List ByteArray) → List (List ByteArray) → Int → Option (Bool)
  | 0, _, _, _, _, _, _, _, _ => none
  | k + 1, x51, x52, x53, x115000, x115001, x115002, x115003, x115004 => if x53 < x52 then (if 0 ≤ x53 then (if x53 < (x51.length : Int) then ((spec_l17Onions.f k (rd_L2 x51 x53)).bind fun t119 => (if t119 = true then (if x53 < (x115002.length : Int) then ((spec_l17Onions.f k (rd_L2 x115002 x53)).bind fun t121 => (spec_GoodNet.j2 k x53 (rd_L2 x51 x53) x51 x52 x53 (!t121) x115000 x115001 x115002 x115003 x115004)) else (none)) else (spec_GoodNet.j2 k x53 (rd_L2 x51 x53) x51 x52 x53 true x115000 x115001 x115002 x115003 x115004))) else (none)) else (none)) else (spec_GoodNet.l2 k x115003 (x115003.length : Int) 0)
def spec_GoodNet.j2 : Nat → Int → List ByteArray → List (List ByteArray) → Int → Int → Bool → List Int → List (List ByteArray) → List (List ByteArray) → List (List ByteArray) → Int → Option (Bool)
  | 0, _, _, _, _, _, _, _, _, _, _, _ => none
  | k + 1, x4, x5, x51, x52, x53, x69, x115000, x115001, x115002, x115003, x115004 => if x69 = true then (some false) else (spec_GoodNet.l1 k x4 x51 x52 x53 x5 (x5.length : Int) 0 x115000 x115001 x115002 x115003 x115004)
def spec_GoodNet.l1 : Nat → Int → List (List ByteArray) → Int → Int → List ByteArray → Int → Int → List Int → List (List ByteArray) → List (List ByteArray) → List (List ByteArray) → Int → Option (Bool)
  | 0, _, _, _, _, _, _, _, _, _, _, _, _ => none
  | k + 1, x4, x51, x52, x53, x70, x71, x72, x115000, x115001, x115002, x115003, x115004 => if x72 < x71 then (if 0 ≤ x72 then (if x72 < (x70.length : Int) then (if 0 ≤ x4 then (if x4 < (x115002.length : Int) then ((spec_l17Has.f k (rd_L2 x115002 x4) (rdOf ByteArray.empty x70 x72)).bind fun t124 => (if t124 = true then (spec_GoodNet.l1 k x4 x51 x52 x53 x70 x71 (wrap64 (x72 + 1)) x115000 x115001 x115002 x115003 x115004) else (some false))) else (none)) else (none)) else (none)) else (none)) else (spec_GoodNet.l0 k x51 x52 (wrap64 (x53 + 1)) x115000 x115001 x115002 x115003 x115004)
def spec_GoodNet.l2 : Nat → List (List ByteArray) → Int → Int → Option (Bool)
  | 0, _, _, _ => none
  | k + 1, x87, x88, x89 => if x89 < x88 then (if 0 ≤ x89 then (if x89 < (x87.length : Int) then (spec_GoodNet.l3 k (rd_L2 x87 x89) x87 x88 x89 (rd_L2 x87 x89) ((rd_L2 x87 x89).length : Int) 0) else (none)) else (none)) else (some true)
def spec_GoodNet.l3 : Nat → List ByteArray → List (List ByteArray) → Int → Int → List ByteArray → Int → Int → Option (Bool)
  | 0, _, _, _, _, _, _, _ => none
  | k + 1, x9, x87, x88, x89, x93, x94, x95 => if x95 < x94 then (if 0 ≤ x95 then (if x95 < (x93.length : Int) then ((spec_l1In.f ((rdOf ByteArray.empty x93 x95).size : Int) 1 15).bind fun t127 => (if t127 = true then (spec_GoodNet.l3 k x9 x87 x88 x89 x93 x94 (wrap64 (x95 + 1))) else (some false))) else (none)) else (none)) else (if (x9.length : Int) > 60 then (some false) else (spec_GoodNet.l2 k x87 x88 (wrap64 (x89 + 1))))
end
def spec_GoodNet.f (k : Nat) (l0_0 : List Int) (l0_1 : List (List ByteArray)) (l0_2 : List (List ByteArray)) (l0_3 : List (List ByteArray)) (a0_4 : Int) : Option (Bool) := (spec_l1In.f (l0_0.length : Int) 1 4).bind fun t115 => (if t115 = true then ((spec_l1All.f k l0_0 0 65535).bind fun t116 => (if t116 = true then (if (l0_1.length : Int) = (l0_0.length : Int) then (if (l0_2.length : Int) = (l0_0.length : Int) then (if (l0_3.length : Int) = 4 then ((spec_l1In.f a0_4 0 60).bind fun t117 => (spec_GoodNet.j0 k (!t117) l0_0 l0_1 l0_2 l0_3 a0_4)) else (spec_GoodNet.j0 k true l0_0 l0_1 l0_2 l0_3 a0_4)) else (spec_GoodNet.j0 k true l0_0 l0_1 l0_2 l0_3 a0_4)) else (spec_GoodNet.j0 k true l0_0 l0_1 l0_2 l0_3 a0_4)) else (spec_GoodNet.j0 k true l0_0 l0_1 l0_2 l0_3 a0_4))) else (spec_GoodNet.j0 k true l0_0 l0_1 l0_2 l0_3 a0_4))
theorem spec_GoodNet.mono_l : ∀ k, (∀ y0 y1 y2 y3 y4 y5, LeO (spec_GoodNet.j0 k y0 y1 y2 y3 y4 y5) (spec_GoodNet.j0 (k + 1) y0 y1 y2 y3 y4 y5)) ∧ (∀ y0 y1 y2 y3 y4 y5 y6 y7, LeO (spec_GoodNet.l0 k y0 y1 y2 y3 y4 y5 y6 y7) (spec_GoodNet.l0 (k + 1) y0 y1 y2 y3 y4 y5 y6 y7)) ∧ (∀ y0 y1 y2 y3 y4 y5 y6 y7 y8 y9 y10, LeO (spec_GoodNet.j2 k y0 y1 y2 y3 y4 y5 y6 y7 y8 y9 y10) (spec_GoodNet.j2 (k + 1) y0 y1 y2 y3 y4 y5 y6 y7 y8 y9 y10)) ∧ (∀ y0 y1 y2 y3 y4 y5 y6 y7 y8 y9 y10 y11, LeO (spec_GoodNet.l1 k y0 y1 y2 y3 y4 y5 y6 y7 y8 y9 y10 y11) (spec_GoodNet.l1 (k + 1) y0 y1 y2 y3 y4 y5 y6 y7 y8 y9 y10 y11)) ∧ (∀ y0 y1 y2, LeO (spec_GoodNet.l2 k y0 y1 y2) (spec_GoodNet.l2 (k + 1) y0 y1 y2)) ∧ (∀ y0 y1 y2 y3 y4 y5 y6, LeO (spec_GoodNet.l3 k y0 y1 y2 y3 y4 y5 y6) (spec_GoodNet.l3 (k + 1) y0 y1 y2 y3 y4 y5 y6))
 | 0 => ⟨fun _ _ _ _ _ _ r h => by simp [spec_GoodNet.j0] at h, fun _ _ _ _ _ _ _ _ r h => by simp [spec_GoodNet.l0] at h, fun _ _ _ _ _ _ _ _ _ _ _ r h => by simp [spec_GoodNet.j2] at h, fun _ _ _ _ _ _ _ _ _ _ _ _ r h => by simp [spec_GoodNet.l1] at h, fun _ _ _ r h => by simp [spec_GoodNet.l2] at h, fun _ _ _ _ _ _ _ r h => by simp [spec_GoodNet.l3] at h⟩
 | k + 1 => by
  obtain ⟨ih0, ih1, ih2, ih3, ih4, ih5⟩ := spec_GoodNet.mono_l k
  refine ⟨?_, ?_, ?_, ?_, ?_, ?_⟩
  ·intro y0 y1 y2 y3 y4 y5
   unfold spec_GoodNet.j0
   repeat' (first | (with_reducible first | exact ih0 _ _ _ _ _ _ | exact ih1 _ _ _ _ _ _ _ _ | exact ih2 _ _ _ _ _ _ _ _ _ _ _ | exact ih3 _ _ _ _ _ _ _ _ _ _ _ _ | exact ih4 _ _ _ | exact ih5 _ _ _ _ _ _ _ | exact spec_l17Has.mono _ _ _ | exact spec_l17Onions.mono _ _ | exact spec_l1All.mono _ _ _ _ | exact LeO.refl _ | exact LeO.none _ | refine LeO.ite ?_ ?_ | refine LeO.bind ?_ (fun _ => ?_)) | exact ih0 _ _ _ _ _ _ | exact ih1 _ _ _ _ _ _ _ _ | exact ih2 _ _ _ _ _ _ _ _ _ _ _ | exact ih3 _ _ _ _ _ _ _ _ _ _ _ _ | exact ih4 _ _ _ | exact ih5 _ _ _ _ _ _ _ | exact spec_l17Has.mono _ _ _ | exact spec_l17Onions.mono _ _ | exact spec_l1All.mono _ _ _ _ | exact LeO.none _ | refine LeO.ite ?_ ?_ | refine LeO.bind ?_ (fun _ => ?_))
  ·intro y0 y1 y2 y3 y4 y5 y6 y7
   unfold spec_GoodNet.l0
   repeat' (first | (with_reducible first | exact ih0 _ _ _ _ _ _ | exact ih1 _ _ _ _ _ _ _ _ | exact ih2 _ _ _ _ _ _ _ _ _ _ _ | exact ih3 _ _ _ _ _ _ _ _ _ _ _ _ | exact ih4 _ _ _ | exact ih5 _ _ _ _ _ _ _ | exact spec_l17Has.mono _ _ _ | exact spec_l17Onions.mono _ _ | exact spec_l1All.mono _ _ _ _ | exact LeO.refl _ | exact LeO.none _ | refine LeO.ite ?_ ?_ | refine LeO.bind ?_ (fun _ => ?_)) | exact ih0 _ _ _ _ _ _ | exact ih1 _ _ _ _ _ _ _ _ | exact ih2 _ _ _ _ _ _ _ _ _ _ _ | exact ih3 _ _ _ _ _ _ _ _ _ _ _ _ | exact ih4 _ _ _ | exact ih5 _ _ _ _ _ _ _ | exact spec_l17Has.mono _ _ _ | exact spec_l17Onions.mono _ _ | exact spec_l1All.mono _ _ _ _ | exact LeO.none _ | refine LeO.ite ?_ ?_ | refine LeO.bind ?_ (fun _ => ?_))
  ·intro y0 y1 y2 y3 y4 y5 y6 y7 y8 y9 y10
   unfold spec_GoodNet.j2
   repeat' (first | (with_reducible first | exact ih0 _ _ _ _ _ _ | exact ih1 _ _ _ _ _ _ _ _ | exact ih2 _ _ _ _ _ _ _ _ _ _ _ | exact ih3 _ _ _ _ _ _ _ _ _ _ _ _ | exact ih4 _ _ _ | exact ih5 _ _ _ _ _ _ _ | exact spec_l17Has.mono _ _ _ | exact spec_l17Onions.mono _ _ | exact spec_l1All.mono _ _ _ _ | exact LeO.refl _ | exact LeO.none _ | refine LeO.ite ?_ ?_ | refine LeO.bind ?_ (fun _ => ?_)) | exact ih0 _ _ _ _ _ _ | exact ih1 _ _ _ _ _ _ _ _ | exact ih2 _ _ _ _ _ _ _ _ _ _ _ | exact ih3 _ _ _ _ _ _ _ _ _ _ _ _ | exact ih4 _ _ _ | exact ih5 _ _ _ _ _ _ _ | exact spec_l17Has.mono _ _ _ | exact spec_l17Onions.mono _ _ | exact spec_l1All.mono _ _ _ _ | exact LeO.none _ | refine LeO.ite ?_ ?_ | refine LeO.bind ?_ (fun _ => ?_))
  ·intro y0 y1 y2 y3 y4 y5 y6 y7 y8 y9 y10 y11
   unfold spec_GoodNet.l1
   repeat' (first | (with_reducible first | exact ih0 _ _ _ _ _ _ | exact ih1 _ _ _ _ _ _ _ _ | exact ih2 _ _ _ _ _ _ _ _ _ _ _ | exact ih3 _ _ _ _ _ _ _ _ _ _ _ _ | exact ih4 _ _ _ | exact ih5 _ _ _ _ _ _ _ | exact spec_l17Has.mono _ _ _ | exact spec_l17Onions.mono _ _ | exact spec_l1All.mono _ _ _ _ | exact LeO.refl _ | exact LeO.none _ | refine LeO.ite ?_ ?_ | refine LeO.bind ?_ (fun _ => ?_)) | exact ih0 _ _ _ _ _ _ | exact ih1 _ _ _ _ _ _ _ _ | exact ih2 _ _ _ _ _ _ _ _ _ _ _ | exact ih3 _ _ _ _ _ _ _ _ _ _ _ _ | exact ih4 _ _ _ | exact ih5 _ _ _ _ _ _ _ | exact spec_l17Has.mono _ _ _ | exact spec_l17Onions.mono _ _ | exact spec_l1All.mono _ _ _ _ | exact LeO.none _ | refine LeO.ite ?_ ?_ | refine LeO.bind ?_ (fun _ => ?_))
  ·intro y0 y1 y2
   unfold spec_GoodNet.l2
   repeat' (first | (with_reducible first | exact ih0 _ _ _ _ _ _ | exact ih1 _ _ _ _ _ _ _ _ | exact ih2 _ _ _ _ _ _ _ _ _ _ _ | exact ih3 _ _ _ _ _ _ _ _ _ _ _ _ | exact ih4 _ _ _ | exact ih5 _ _ _ _ _ _ _ | exact spec_l17Has.mono _ _ _ | exact spec_l17Onions.mono _ _ | exact spec_l1All.mono _ _ _ _ | exact LeO.refl _ | exact LeO.none _ | refine LeO.ite ?_ ?_ | refine LeO.bind ?_ (fun _ => ?_)) | exact ih0 _ _ _ _ _ _ | exact ih1 _ _ _ _ _ _ _ _ | exact ih2 _ _ _ _ _ _ _ _ _ _ _ | exact ih3 _ _ _ _ _ _ _ _ _ _ _ _ | exact ih4 _ _ _ | exact ih5 _ _ _ _ _ _ _ | exact spec_l17Has.mono _ _ _ | exact spec_l17Onions.mono _ _ | exact spec_l1All.mono _ _ _ _ | exact LeO.none _ | refine LeO.ite ?_ ?_ | refine LeO.bind ?_ (fun _ => ?_))
  ·intro y0 y1 y2 y3 y4 y5 y6
   unfold spec_GoodNet.l3
   repeat' (first | (with_reducible first | exact ih0 _ _ _ _ _ _ | exact ih1 _ _ _ _ _ _ _ _ | exact ih2 _ _ _ _ _ _ _ _ _ _ _ | exact ih3 _ _ _ _ _ _ _ _ _ _ _ _ | exact ih4 _ _ _ | exact ih5 _ _ _ _ _ _ _ | exact spec_l17Has.mono _ _ _ | exact spec_l17Onions.mono _ _ | exact spec_l1All.mono _ _ _ _ | exact LeO.refl _ | exact LeO.none _ | refine LeO.ite ?_ ?_ | refine LeO.bind ?_ (fun _ => ?_)) | exact ih0 _ _ _ _ _ _ | exact ih1 _ _ _ _ _ _ _ _ | exact ih2 _ _ _ _ _ _ _ _ _ _ _ | exact ih3 _ _ _ _ _ _ _ _ _ _ _ _ | exact ih4 _ _ _ | exact ih5 _ _ _ _ _ _ _ | exact spec_l17Has.mono _ _ _ | exact spec_l17Onions.mono _ _ | exact spec_l1All.mono _ _ _ _ | exact LeO.none _ | refine LeO.ite ?_ ?_ | refine LeO.bind ?_ (fun _ => ?_))
theorem spec_GoodNet.mono : ∀ a0 a1 a2 a3 a4 k, LeO (spec_GoodNet.f k a0 a1 a2 a3 a4) (spec_GoodNet.f (k + 1) a0 a1 a2 a3 a4) := by
 intro a0 a1 a2 a3 a4 k
 obtain ⟨ih0, ih1, ih2, ih3, ih4, ih5⟩ := spec_GoodNet.mono_l k
 unfold spec_GoodNet.f
 repeat' (first | (with_reducible first | exact ih0 _ _ _ _ _ _ | exact ih1 _ _ _ _ _ _ _ _ | exact ih2 _ _ _ _ _ _ _ _ _ _ _ | exact ih3 _ _ _ _ _ _ _ _ _ _ _ _ | exact ih4 _ _ _ | exact ih5 _ _ _ _ _ _ _ | exact spec_l17Has.mono _ _ _ | exact spec_l17Onions.mono _ _ | exact spec_l1All.mono _ _ _ _ | exact LeO.refl _ | exact LeO.none _ | refine LeO.ite ?_ ?_ | refine LeO.bind ?_ (fun _ => ?_)) | exact ih0 _ _ _ _ _ _ | exact ih1 _ _ _ _ _ _ _ _ | exact ih2 _ _ _ _ _ _ _ _ _ _ _ | exact ih3 _ _ _ _ _ _ _ _ _ _ _ _ | exact ih4 _ _ _ | exact ih5 _ _ _ _ _ _ _ | exact spec_l17Has.mono _ _ _ | exact spec_l17Onions.mono _ _ | exact spec_l1All.mono _ _ _ _ | exact LeO.none _ | refine LeO.ite ?_ ?_ | refine LeO.bind ?_ (fun _ => ?_))
set_option maxHeartbeats 8000000 in
set_option maxRecDepth 100000 in
theorem spec_GoodNet.calls (k : Nat) (A0_0 : Option Addr) (c0_0 : Nat) (l0_0 : List Int) (A0_1 : Option Addr) (c0_1 : Nat) (l0_1 : List (List ByteArray)) (A0_2 : Option Addr) (c0_2 : Nat) (l0_2 : List (List ByteArray)) (A0_3 : Option Addr) (c0_3 : Nat) (l0_3 : List (List ByteArray)) (a0_4 : Int) (r : Bool) (w : World) (hr0_0 : Kd.C (Kd.int .i64) w A0_0 l0_0.length l0_0) (hc0_0 : l0_0.length ≤ c0_0) (hr0_1 : Kd.C (Kd.slice 9 Kd.string) w A0_1 l0_1.length l0_1) (hc0_1 : l0_1.length ≤ c0_1) (hr0_2 : Kd.C (Kd.slice 9 Kd.string) w A0_2 l0_2.length l0_2) (hc0_2 : l0_2.length ≤ c0_2) (hr0_3 : Kd.C (Kd.slice 9 Kd.string) w A0_3 l0_3.length l0_3) (hc0_3 : l0_3.length ≤ c0_3) (h : spec_GoodNet.f k l0_0 l0_1 l0_2 l0_3 a0_4 = some r) :
  Calls Try.prog 15 #[.agg #[.slice A0_0 l0_0.length c0_0, .slice A0_1 l0_1.length c0_1, .slice A0_2 l0_2.length c0_2, .slice A0_3 l0_3.length c0_3, .int .i64 a0_4]] w fun e w' => e = .returned (.bool r) ∧ Below w.heap.size w w' := by
 have hu30 := Try.underlying30
 have HR0_0 := Aside0.mk hr0_0; have HC0_0 := Aside0.mk hc0_0; clear hr0_0 hc0_0; have HR0_1 := Aside0.mk hr0_1; have HC0_1 := Aside0.mk hc0_1; clear hr0_1 hc0_1; have HR0_2 := Aside0.mk hr0_2; have HC0_2 := Aside0.mk hc0_2; clear hr0_2 hc0_2; have HR0_3 := Aside0.mk hr0_3; have HC0_3 := Aside0.mk hc0_3; clear hr0_3 hc0_3
 have HB := Aside0.mk (Below.refl w.heap.size w)
 have H : ((spec_l1In.f (l0_0.length : Int) 1 4).bind fun t115 => (if t115 = true then ((spec_l1All.f k l0_0 0 65535).bind fun t116 => (if t116 = true then (if (l0_1.length : Int) = (l0_0.length : Int) then (if (l0_2.length : Int) = (l0_0.length : Int) then (if (l0_3.length : Int) = 4 then ((spec_l1In.f a0_4 0 60).bind fun t117 => (spec_GoodNet.j0 k (!t117) l0_0 l0_1 l0_2 l0_3 a0_4)) else (spec_GoodNet.j0 k true l0_0 l0_1 l0_2 l0_3 a0_4)) else (spec_GoodNet.j0 k true l0_0 l0_1 l0_2 l0_3 a0_4)) else (spec_GoodNet.j0 k true l0_0 l0_1 l0_2 l0_3 a0_4)) else (spec_GoodNet.j0 k true l0_0 l0_1 l0_2 l0_3 a0_4))) else (spec_GoodNet.j0 k true l0_0 l0_1 l0_2 l0_3 a0_4))) = some r := h
 clear h; have HC2 := Aside0.mk H; clear H
 go_enter Try.func15, Try.ntmps15
 go_upto_region 2 with (first | ((with_reducible refine gate_dst (N := 1) rfl ?_); (try (refine gate_guard (by rfl) ?_; dsimp only)); refine boxev 1 #[.slice A0_0 l0_0.length c0_0, .slice A0_1 l0_1.length c0_1, .slice A0_2 l0_2.length c0_2, .slice A0_3 l0_3.length c0_3, .int .i64 a0_4] 30 ?_; intro gb114 hg w3 hbox hb; have BK114 := ak (hbox); have GW114 := ak (hgl hg (belowd HB)); have GE114 := ak (hgl hg (belowd HB)); replace HB := ak (below_step (belowd HB) hb); clear hb hbox hg; obtain ⟨hcz4_0, hcz4_1, hcz4_2, hcz4_3, hcz4_4, hfz4_0, hfz4_1, hfz4_2, hfz4_3, hfz4_4⟩ := box5 BK114))
 (try simp only [Act.put, List.setIfInBounds_toArray, List.set_cons_zero, List.set_cons_succ])
 go_cut [49] (fun v49 wc => ∃ (kq : Nat) (x49_1 : Bool), v49 = .bool x49_1 ∧ Aside0 (spec_GoodNet.j0 kq x49_1 l0_0 l0_1 l0_2 l0_3 a0_4 = some r) ∧ Aside0 (kq ≤ k) ∧ Aside0 (wc.heap[gb114]? = some (.cells #[(.slice A0_0 l0_0.length c0_0), (.slice A0_1 l0_1.length c0_1), (.slice A0_2 l0_2.length c0_2), (.slice A0_3 l0_3.length c0_3), .int .i64 a0_4] 30 (0, 0))) ∧ Aside0 (Below w.heap.size w wc))
 case first =>
  have H := HC2.out; clear HC2; replace H := bS H; obtain ⟨t115, A5, H⟩ := H
  replace H : (if t115 = true then ((spec_l1All.f k l0_0 0 65535).bind fun t116 => (if t116 = true then (if (l0_1.length : Int) = (l0_0.length : Int) then (if (l0_2.length : Int) = (l0_0.length : Int) then (if (l0_3.length : Int) = 4 then ((spec_l1In.f a0_4 0 60).bind fun t117 => (spec_GoodNet.j0 k (!t117) l0_0 l0_1 l0_2 l0_3 a0_4)) else (spec_GoodNet.j0 k true l0_0 l0_1 l0_2 l0_3 a0_4)) else (spec_GoodNet.j0 k true l0_0 l0_1 l0_2 l0_3 a0_4)) else (spec_GoodNet.j0 k true l0_0 l0_1 l0_2 l0_3 a0_4)) else (spec_GoodNet.j0 k true l0_0 l0_1 l0_2 l0_3 a0_4))) else (spec_GoodNet.j0 k true l0_0 l0_1 l0_2 l0_3 a0_4)) = some r := H
  by_cases c6 : t115 = true
  ·subst c6
   have H1 : ((spec_l1All.f k l0_0 0 65535).bind fun t116 => (if t116 = true then (if (l0_1.length : Int) = (l0_0.length : Int) then (if (l0_2.length : Int) = (l0_0.length : Int) then (if (l0_3.length : Int) = 4 then ((spec_l1In.f a0_4 0 60).bind fun t117 => (spec_GoodNet.j0 k (!t117) l0_0 l0_1 l0_2 l0_3 a0_4)) else (spec_GoodNet.j0 k true l0_0 l0_1 l0_2 l0_3 a0_4)) else (spec_GoodNet.j0 k true l0_0 l0_1 l0_2 l0_3 a0_4)) else (spec_GoodNet.j0 k true l0_0 l0_1 l0_2 l0_3 a0_4)) else (spec_GoodNet.j0 k true l0_0 l0_1 l0_2 l0_3 a0_4))) = some r := by rw [if_pos rfl] at H; exact H
   clear H
   have H := H1
   clear H1; replace H := bS H; obtain ⟨t116, A7, H⟩ := H
   replace H : (if t116 = true then (if (l0_1.length : Int) = (l0_0.length : Int) then (if (l0_2.length : Int) = (l0_0.length : Int) then (if (l0_3.length : Int) = 4 then ((spec_l1In.f a0_4 0 60).bind fun t117 => (spec_GoodNet.j0 k (!t117) l0_0 l0_1 l0_2 l0_3 a0_4)) else (spec_GoodNet.j0 k true l0_0 l0_1 l0_2 l0_3 a0_4)) else (spec_GoodNet.j0 k true l0_0 l0_1 l0_2 l0_3 a0_4)) else (spec_GoodNet.j0 k true l0_0 l0_1 l0_2 l0_3 a0_4)) else (spec_GoodNet.j0 k true l0_0 l0_1 l0_2 l0_3 a0_4)) = some r := H
   by_cases c8 : t116 = true
   ·subst c8
    have H1 : (if (l0_1.length : Int) = (l0_0.length : Int) then (if (l0_2.length : Int) = (l0_0.length : Int) then (if (l0_3.length : Int) = 4 then ((spec_l1In.f a0_4 0 60).bind fun t117 => (spec_GoodNet.j0 k (!t117) l0_0 l0_1 l0_2 l0_3 a0_4)) else (spec_GoodNet.j0 k true l0_0 l0_1 l0_2 l0_3 a0_4)) else (spec_GoodNet.j0 k true l0_0 l0_1 l0_2 l0_3 a0_4)) else (spec_GoodNet.j0 k true l0_0 l0_1 l0_2 l0_3 a0_4)) = some r := by rw [if_pos rfl] at H; exact H
    clear H
    have H := H1
    clear H1
    by_cases c9 : (l0_1.length : Int) = (l0_0.length : Int)
    ·rw [if_pos c9] at H
     have c9b0 : ((l0_1.length : Int) == (l0_0.length : Int)) = true := beq_iff_eq.mpr c9
     have c9b1 : ((l0_1.length : Int) != (l0_0.length : Int)) = false := bne_eq_false_iff_eq.mpr c9
     have c9b2 : (l0_1.length == l0_0.length) = true := by first | simpa using c9 | (simp at c9 ⊢; omega)
     clear c9
     (first | rw [c9b0] | (simp only [i64_w, i32_w]; rw [c9b0]) | skip)
     by_cases c10 : (l0_2.length : Int) = (l0_0.length : Int)
     ·rw [if_pos c10] at H
      have c10b0 : ((l0_2.length : Int) == (l0_0.length : Int)) = true := beq_iff_eq.mpr c10
      have c10b1 : ((l0_2.length : Int) != (l0_0.length : Int)) = false := bne_eq_false_iff_eq.mpr c10
      have c10b2 : (l0_2.length == l0_0.length) = true := by first | simpa using c10 | (simp at c10 ⊢; omega)
      clear c10
      by_cases c11 : (l0_3.length : Int) = 4
      ·rw [if_pos c11] at H
       have c11b0 : ((l0_3.length : Int) == 4) = true := beq_iff_eq.mpr c11
       have c11b1 : ((l0_3.length : Int) != 4) = false := bne_eq_false_iff_eq.mpr c11
       clear c11; replace H := bS H; obtain ⟨t117, A12, H⟩ := H
       replace H : (spec_GoodNet.j0 k (!t117) l0_0 l0_1 l0_2 l0_3 a0_4) = some r := H
       have H' := Aside0.mk H
       clear H
       go_wp2_with (first | ((with_reducible refine gate_callee (f := 16) rfl ?_); refine goesLa (some 16) rfl Try.func16 #[.int .i64 (l0_0.length : Int), .int .i64 1, .int .i64 4] rfl ?_; (with_reducible refine (spec_l1In.calls (l0_0.length : Int) 1 4 true _ A5.out).mono ?_); rintro e w' ⟨rfl, ⟨nd, rfl⟩⟩; refine ⟨_, rfl, ?_⟩; obtain ⟨hcz13_0, hcz13_1, hcz13_2, hcz13_3, hcz13_4, hfz13_0, hfz13_1, hfz13_2, hfz13_3, hfz13_4⟩ := box5 BK114) | (go_at_call 28; (with_reducible refine (spec_l1All.calls k _ _ l0_0 0 65535 true _ ?side1 ?side2 A7.out).mono ?_); (case side1 => exact cd (Kd.C_below HR0_0.out (belowg1 HB GE114))); (case side2 => exact HC0_0.out); rintro e w' ⟨rfl, ⟨nd, rfl⟩⟩) | (go_at_call 16; (with_reducible refine (spec_l1In.calls a0_4 0 60 t117 _ A12.out).mono ?_); rintro e w' ⟨rfl, ⟨nd, rfl⟩⟩))
       go_meet
       case rel => exact ⟨_, (!t117), er, H', ⟨by first | omega | exact Nat.le_refl _⟩, ⟨blkd BK114⟩, ⟨belowg1 HB GE114⟩⟩
      ·rw [if_neg c11] at H
       have c11b0 : ((l0_3.length : Int) == 4) = false := beq_eq_false_iff_ne.mpr c11
       have c11b1 : ((l0_3.length : Int) != 4) = true := bne_iff_ne.mpr c11
       have H' := Aside0.mk H
       clear H
       go_wp2_with (first | ((with_reducible refine gate_callee (f := 16) rfl ?_); refine goesLa (some 16) rfl Try.func16 #[.int .i64 (l0_0.length : Int), .int .i64 1, .int .i64 4] rfl ?_; (with_reducible refine (spec_l1In.calls (l0_0.length : Int) 1 4 true _ A5.out).mono ?_); rintro e w' ⟨rfl, ⟨nd, rfl⟩⟩; refine ⟨_, rfl, ?_⟩; obtain ⟨hcz14_0, hcz14_1, hcz14_2, hcz14_3, hcz14_4, hfz14_0, hfz14_1, hfz14_2, hfz14_3, hfz14_4⟩ := box5 BK114) | (go_at_call 28; (with_reducible refine (spec_l1All.calls k _ _ l0_0 0 65535 true _ ?side1 ?side2 A7.out).mono ?_); (case side1 => exact cd (Kd.C_below HR0_0.out (belowg1 HB GE114))); (case side2 => exact HC0_0.out); rintro e w' ⟨rfl, ⟨nd, rfl⟩⟩))
       go_meet
       case rel => exact ⟨_, (true), er, H', ⟨by first | omega | exact Nat.le_refl _⟩, ⟨blkd BK114⟩, ⟨belowg1 HB GE114⟩⟩
     ·rw [if_neg c10] at H
      have c10b0 : ((l0_2.length : Int) == (l0_0.length : Int)) = false := beq_eq_false_iff_ne.mpr c10
      have c10b1 : ((l0_2.length : Int) != (l0_0.length : Int)) = true := bne_iff_ne.mpr c10
      have c10b2 : (l0_2.length == l0_0.length) = false := by first | simpa using c10 | (simp at c10 ⊢; omega)
      have H' := Aside0.mk H
      clear H
      go_wp2_with (first | ((with_reducible refine gate_callee (f := 16) rfl ?_); refine goesLa (some 16) rfl Try.func16 #[.int .i64 (l0_0.length : Int), .int .i64 1, .int .i64 4] rfl ?_; (with_reducible refine (spec_l1In.calls (l0_0.length : Int) 1 4 true _ A5.out).mono ?_); rintro e w' ⟨rfl, ⟨nd, rfl⟩⟩; refine ⟨_, rfl, ?_⟩; obtain ⟨hcz15_0, hcz15_1, hcz15_2, hcz15_3, hcz15_4, hfz15_0, hfz15_1, hfz15_2, hfz15_3, hfz15_4⟩ := box5 BK114) | (go_at_call 28; (with_reducible refine (spec_l1All.calls k _ _ l0_0 0 65535 true _ ?side1 ?side2 A7.out).mono ?_); (case side1 => exact cd (Kd.C_below HR0_0.out (belowg1 HB GE114))); (case side2 => exact HC0_0.out); rintro e w' ⟨rfl, ⟨nd, rfl⟩⟩))
      go_meet
      case rel => exact ⟨_, (true), er, H', ⟨by first | omega | exact Nat.le_refl _⟩, ⟨blkd BK114⟩, ⟨belowg1 HB GE114⟩⟩
    ·rw [if_neg c9] at H
     have c9b0 : ((l0_1.length : Int) == (l0_0.length : Int)) = false := beq_eq_false_iff_ne.mpr c9
     have c9b1 : ((l0_1.length : Int) != (l0_0.length : Int)) = true := bne_iff_ne.mpr c9
     have c9b2 : (l0_1.length == l0_0.length) = false := by first | simpa using c9 | (simp at c9 ⊢; omega)
     (first | rw [c9b0] | (simp only [i64_w, i32_w]; rw [c9b0]) | skip)
     have H' := Aside0.mk H
     clear H
     go_wp2_with (first | ((with_reducible refine gate_callee (f := 16) rfl ?_); refine goesLa (some 16) rfl Try.func16 #[.int .i64 (l0_0.length : Int), .int .i64 1, .int .i64 4] rfl ?_; (with_reducible refine (spec_l1In.calls (l0_0.length : Int) 1 4 true _ A5.out).mono ?_); rintro e w' ⟨rfl, ⟨nd, rfl⟩⟩; refine ⟨_, rfl, ?_⟩; obtain ⟨hcz16_0, hcz16_1, hcz16_2, hcz16_3, hcz16_4, hfz16_0, hfz16_1, hfz16_2, hfz16_3, hfz16_4⟩ := box5 BK114) | (go_at_call 28; (with_reducible refine (spec_l1All.calls k _ _ l0_0 0 65535 true _ ?side1 ?side2 A7.out).mono ?_); (case side1 => exact cd (Kd.C_below HR0_0.out (belowg1 HB GE114))); (case side2 => exact HC0_0.out); rintro e w' ⟨rfl, ⟨nd, rfl⟩⟩))
     go_meet
     case rel => exact ⟨_, (true), er, H', ⟨by first | omega | exact Nat.le_refl _⟩, ⟨blkd BK114⟩, ⟨belowg1 HB GE114⟩⟩
   ·replace c8 := Bool.eq_false_iff.mpr c8
    subst c8
    have H1 : (spec_GoodNet.j0 k true l0_0 l0_1 l0_2 l0_3 a0_4) = some r := by rw [if_neg (show ¬ (false = true) by decide)] at H; exact H
    clear H
    have H := H1
    clear H1
    have H' := Aside0.mk H
    clear H
    go_wp2_with (first | ((with_reducible refine gate_callee (f := 16) rfl ?_); refine goesLa (some 16) rfl Try.func16 #[.int .i64 (l0_0.length : Int), .int .i64 1, .int .i64 4] rfl ?_; (with_reducible refine (spec_l1In.calls (l0_0.length : Int) 1 4 true _ A5.out).mono ?_); rintro e w' ⟨rfl, ⟨nd, rfl⟩⟩; refine ⟨_, rfl, ?_⟩; obtain ⟨hcz17_0, hcz17_1, hcz17_2, hcz17_3, hcz17_4, hfz17_0, hfz17_1, hfz17_2, hfz17_3, hfz17_4⟩ := box5 BK114) | (go_at_call 28; (with_reducible refine (spec_l1All.calls k _ _ l0_0 0 65535 false _ ?side1 ?side2 A7.out).mono ?_); (case side1 => exact cd (Kd.C_below HR0_0.out (belowg1 HB GE114))); (case side2 => exact HC0_0.out); rintro e w' ⟨rfl, ⟨nd, rfl⟩⟩))
    go_meet
    case rel => exact ⟨_, (true), er, H', ⟨by first | omega | exact Nat.le_refl _⟩, ⟨blkd BK114⟩, ⟨belowg1 HB GE114⟩⟩
  ·replace c6 := Bool.eq_false_iff.mpr c6
   subst c6
   have H1 : (spec_GoodNet.j0 k true l0_0 l0_1 l0_2 l0_3 a0_4) = some r := by rw [if_neg (show ¬ (false = true) by decide)] at H; exact H
   clear H
   have H := H1
   clear H1
   have H' := Aside0.mk H
   clear H
   go_wp2_with (first | ((with_reducible refine gate_callee (f := 16) rfl ?_); refine goesLa (some 16) rfl Try.func16 #[.int .i64 (l0_0.length : Int), .int .i64 1, .int .i64 4] rfl ?_; (with_reducible refine (spec_l1In.calls (l0_0.length : Int) 1 4 false _ A5.out).mono ?_); rintro e w' ⟨rfl, ⟨nd, rfl⟩⟩; refine ⟨_, rfl, ?_⟩))
   go_meet
   case rel => exact ⟨_, (true), er, H', ⟨by first | omega | exact Nat.le_refl _⟩, ⟨blkd BK114⟩, ⟨belowg1 HB GE114⟩⟩
 case rest =>
  clear HC2; (try clear hcz4_0); (try clear hcz4_1); (try clear hcz4_2); (try clear hcz4_3); (try clear hcz4_4); (try clear hfz4_0); (try clear hfz4_1); (try clear hfz4_2); (try clear hfz4_3); (try clear hfz4_4)
  obtain ⟨kq, x49_1, rfl, HA, HJ1, BK114, HB⟩ := hcut
  cases kq with
  | zero => exact absurd HA.out (by simp [spec_GoodNet.j0])
  | succ kj1 =>
   have H := HA.out; clear HA
   simp only [spec_GoodNet.j0] at H
   by_cases c18 : x49_1 = true
   ·subst c18
    have H1 : (some false) = some r := by rw [if_pos rfl] at H; exact H
    clear H
    have H := H1
    clear H1
    obtain rfl := Option.some.inj H
    go_wp2
    go_ret
    exact ⟨er2, belowg1 HB GE114⟩
   ·replace c18 := Bool.eq_false_iff.mpr c18
    subst c18
    have H1 : (spec_GoodNet.l0 kj1 l0_1 (l0_1.length : Int) 0 l0_0 l0_1 l0_2 l0_3 a0_4) = some r := by rw [if_neg (show ¬ (false = true) by decide)] at H; exact H
    clear H
    have H := H1
    clear H1
    have H' := Aside0.mk H
    clear H; obtain ⟨hcz19_0, hcz19_1, hcz19_2, hcz19_3, hcz19_4, hfz19_0, hfz19_1, hfz19_2, hfz19_3, hfz19_4⟩ := box5 BK114; go_wp2
    go_loopg [53] kj1 (fun kq v53 w' => ∃ (x53_2 : Int), v53 = .int .i64 x53_2 ∧ Aside0 (spec_GoodNet.l0 kq l0_1 (l0_1.length : Int) x53_2 l0_0 l0_1 l0_2 l0_3 a0_4 = some r) ∧ Aside0 (kq ≤ kj1) ∧ Aside0 (w'.heap[gb114]? = some (.cells #[(.slice A0_0 l0_0.length c0_0), (.slice A0_1 l0_1.length c0_1), (.slice A0_2 l0_2.length c0_2), (.slice A0_3 l0_3.length c0_3), .int .i64 a0_4] 30 (0, 0))) ∧ Aside0 (Below w.heap.size w w'))
    case atStart => exact ⟨(0), er, H', ⟨Nat.le_refl _⟩, ⟨blkd BK114⟩, ⟨belowg1 HB GE114⟩⟩
    case round =>
     clear H'
     (try clear c18); (try clear hcz19_0); (try clear hcz19_1); (try clear hcz19_2); (try clear hcz19_3); (try clear hcz19_4); (try clear hfz19_0); (try clear hfz19_1); (try clear hfz19_2); (try clear hfz19_3); (try clear hfz19_4)
     obtain ⟨x53_2, rfl, HA, HK2, BK114, HB⟩ := hrel
     cases gk with
     | zero => exact absurd HA.out (by simp [spec_GoodNet.l0])
     | succ k2 =>
      have H := HA.out; clear HA
      simp only [spec_GoodNet.l0] at H
      by_cases c20 : x53_2 < (l0_1.length : Int)
      ·rw [if_pos c20] at H
       have c20b0 : decide (x53_2 < (l0_1.length : Int)) = true := decide_eq_true c20
       clear c20; replace H := ifS H; obtain ⟨c21, H⟩ := H; have c21b0 := decide_eq_true c21; clear c21; replace H := ifS H; obtain ⟨c22, H⟩ := H; have c22b0 := decide_eq_true c22; clear c22; have HC23 := Aside0.mk H; clear H
       have p118 : 0 ≤ (x53_2 : Int) := da
       have q118 : x53_2 < (l0_1.length : Int) := da
       obtain ⟨ad118, A118_0, c118_0, e118, hx118_0, hl118_0, hi118_0⟩ := at_L2 HR0_1.out x53_2 p118 q118
       cases e118
       replace hx118_0 := (HB.out.cell (World.block_lt_of_cell? w _ hx118_0)).trans hx118_0
       have HR118_0 := Aside0.mk hi118_0; have HC118_0 := Aside0.mk hl118_0; clear hi118_0 hl118_0; replace p118 := eq_true p118; replace q118 := eq_true q118
       go_upto_region 7 with (fail)
       go_cut [69] (fun v69 wc => ∃ (kq : Nat) (x69_22 : Bool), v69 = .bool x69_22 ∧ Aside0 (spec_GoodNet.j2 kq x53_2 (rd_L2 l0_1 x53_2) l0_1 (l0_1.length : Int) x53_2 x69_22 l0_0 l0_1 l0_2 l0_3 a0_4 = some r) ∧ Aside0 (kq ≤ k2) ∧ Aside0 (wc.heap[gb114]? = some (.cells #[(.slice A0_0 l0_0.length c0_0), (.slice (some ad118) l0_1.length c0_1), (.slice A0_2 l0_2.length c0_2), (.slice A0_3 l0_3.length c0_3), .int .i64 a0_4] 30 (0, 0))) ∧ Aside0 (Below w.heap.size w wc))
       case first =>
        have H := HC23.out; clear HC23; replace H := bS H; obtain ⟨t119, A24, H⟩ := H
        replace H : (if t119 = true then (if x53_2 < (l0_2.length : Int) then ((spec_l17Onions.f k2 (rd_L2 l0_2 x53_2)).bind fun t121 => (spec_GoodNet.j2 k2 x53_2 (rd_L2 l0_1 x53_2) l0_1 (l0_1.length : Int) x53_2 (!t121) l0_0 l0_1 l0_2 l0_3 a0_4)) else (none)) else (spec_GoodNet.j2 k2 x53_2 (rd_L2 l0_1 x53_2) l0_1 (l0_1.length : Int) x53_2 true l0_0 l0_1 l0_2 l0_3 a0_4)) = some r := H
        by_cases c25 : t119 = true
        ·subst c25
         have H1 : (if x53_2 < (l0_2.length : Int) then ((spec_l17Onions.f k2 (rd_L2 l0_2 x53_2)).bind fun t121 => (spec_GoodNet.j2 k2 x53_2 (rd_L2 l0_1 x53_2) l0_1 (l0_1.length : Int) x53_2 (!t121) l0_0 l0_1 l0_2 l0_3 a0_4)) else (none)) = some r := by rw [if_pos rfl] at H; exact H
         clear H
         have H := H1
         clear H1; replace H := ifS H; obtain ⟨c26, H⟩ := H; have c26b0 := decide_eq_true c26; clear c26
         (first | rw [c26b0] | (simp only [i64_w, i32_w]; rw [c26b0]) | skip)
         replace H := bS H; obtain ⟨t121, A27, H⟩ := H
         replace H : (spec_GoodNet.j2 k2 x53_2 (rd_L2 l0_1 x53_2) l0_1 (l0_1.length : Int) x53_2 (!t121) l0_0 l0_1 l0_2 l0_3 a0_4) = some r := H
         have H' := Aside0.mk H
         clear H
         go_wp2_with (first | ((with_reducible refine gate_callee (f := 29) rfl ?_); refine goesLa (some 59) rfl Try.func29 #[.slice A118_0 (rd_L2 l0_1 x53_2).length c118_0] rfl ?_; (with_reducible refine (spec_l17Onions.calls k2 _ _ (rd_L2 l0_1 x53_2) true _ ?side1 ?side2 A24.out).mono ?_); (case side1 => exact cd (Kd.C_below HR118_0.out HB.out)); (case side2 => exact HC118_0.out); rintro e w' ⟨rfl, ⟨nd, rfl⟩⟩; refine ⟨_, rfl, ?_⟩; obtain ⟨hcz28_0, hcz28_1, hcz28_2, hcz28_3, hcz28_4, hfz28_0, hfz28_1, hfz28_2, hfz28_3, hfz28_4⟩ := box5 BK114; have p120 : 0 ≤ (x53_2 : Int) := da; have q120 : x53_2 < (l0_2.length : Int) := da; obtain ⟨ad120, A120_0, c120_0, e120, hx120_0, hl120_0, hi120_0⟩ := at_L2 HR0_2.out x53_2 p120 q120; cases e120; replace hx120_0 := (HB.out.cell (World.block_lt_of_cell? w _ hx120_0)).trans hx120_0; have HR120_0 := Aside0.mk hi120_0; have HC120_0 := Aside0.mk hl120_0; clear hi120_0 hl120_0; replace p120 := eq_true p120; replace q120 := eq_true q120) | (go_at_call 29; (with_reducible refine (spec_l17Onions.calls k2 _ _ (rd_L2 l0_2 x53_2) t121 _ ?side1 ?side2 A27.out).mono ?_); (case side1 => exact cd (Kd.C_below HR120_0.out (belowg1 HB GE114))); (case side2 => exact HC120_0.out); rintro e w' ⟨rfl, ⟨nd, rfl⟩⟩))
         go_meet
         case rel => exact ⟨_, (!t121), er, H', ⟨by have := HJ1.out; have := HK2.out; first | omega | exact Nat.le_refl _⟩, ⟨blkd BK114⟩, ⟨belowg1 HB GE114⟩⟩
        ·replace c25 := Bool.eq_false_iff.mpr c25
         subst c25
         have H1 : (spec_GoodNet.j2 k2 x53_2 (rd_L2 l0_1 x53_2) l0_1 (l0_1.length : Int) x53_2 true l0_0 l0_1 l0_2 l0_3 a0_4) = some r := by rw [if_neg (show ¬ (false = true) by decide)] at H; exact H
         clear H
         have H := H1
         clear H1
         have H' := Aside0.mk H
         clear H
         go_wp2_with (first | ((with_reducible refine gate_callee (f := 29) rfl ?_); refine goesLa (some 59) rfl Try.func29 #[.slice A118_0 (rd_L2 l0_1 x53_2).length c118_0] rfl ?_; (with_reducible refine (spec_l17Onions.calls k2 _ _ (rd_L2 l0_1 x53_2) false _ ?side1 ?side2 A24.out).mono ?_); (case side1 => exact cd (Kd.C_below HR118_0.out HB.out)); (case side2 => exact HC118_0.out); rintro e w' ⟨rfl, ⟨nd, rfl⟩⟩; refine ⟨_, rfl, ?_⟩))
         go_meet
         case rel => exact ⟨_, (true), er, H', ⟨by have := HJ1.out; have := HK2.out; first | omega | exact Nat.le_refl _⟩, ⟨blkd BK114⟩, ⟨belowg1 HB GE114⟩⟩
       case rest =>
        clear HC23; (try clear c20b0); (try clear c21b0); (try clear c22b0); (try clear hx118_0); (try clear p118); (try clear q118)
        obtain ⟨kq, x69_22, rfl, HA, HJ22, BK114, HB⟩ := hcut
        cases kq with
        | zero => exact absurd HA.out (by simp [spec_GoodNet.j2])
        | succ kj22 =>
         have H := HA.out; clear HA
         simp only [spec_GoodNet.j2] at H
         by_cases c29 : x69_22 = true
         ·subst c29
          have H1 : (some false) = some r := by rw [if_pos rfl] at H; exact H
          clear H
          have H := H1
          clear H1
          obtain rfl := Option.some.inj H
          go_wp2
          go_ret
          exact ⟨er2, belowg1 HB GE114⟩
         ·replace c29 := Bool.eq_false_iff.mpr c29
          subst c29
          have H1 : (spec_GoodNet.l1 kj22 x53_2 l0_1 (l0_1.length : Int) x53_2 (rd_L2 l0_1 x53_2) ((rd_L2 l0_1 x53_2).length : Int) 0 l0_0 l0_1 l0_2 l0_3 a0_4) = some r := by rw [if_neg (show ¬ (false = true) by decide)] at H; exact H
          clear H
          have H := H1
          clear H1
          have H' := Aside0.mk H
          clear H; go_wp2
          go_loopg [72] kj22 (fun kq v72 w' => ∃ (x72_4 : Int), v72 = .int .i64 x72_4 ∧ Aside0 (spec_GoodNet.l1 kq x53_2 l0_1 (l0_1.length : Int) x53_2 (rd_L2 l0_1 x53_2) ((rd_L2 l0_1 x53_2).length : Int) x72_4 l0_0 l0_1 l0_2 l0_3 a0_4 = some r) ∧ Aside0 (kq ≤ kj22) ∧ Aside0 (w'.heap[gb114]? = some (.cells #[(.slice A0_0 l0_0.length c0_0), (.slice (some ad118) l0_1.length c0_1), (.slice A0_2 l0_2.length c0_2), (.slice A0_3 l0_3.length c0_3), .int .i64 a0_4] 30 (0, 0))) ∧ Aside0 (Below w.heap.size w w'))
          case atStart => exact ⟨(0), er, H', ⟨Nat.le_refl _⟩, ⟨blkd BK114⟩, ⟨belowg1 HB GE114⟩⟩
          case round =>
           clear H'
           (try clear c29)
           obtain ⟨x72_4, rfl, HA, HK4, BK114, HB⟩ := hrel
           cases gk with
           | zero => exact absurd HA.out (by simp [spec_GoodNet.l1])
           | succ k4 =>
            have H := HA.out; clear HA
            simp only [spec_GoodNet.l1] at H
            by_cases c30 : x72_4 < ((rd_L2 l0_1 x53_2).length : Int)
            ·rw [if_pos c30] at H
             have c30b0 : decide (x72_4 < ((rd_L2 l0_1 x53_2).length : Int)) = true := decide_eq_true c30
             clear c30; replace H := ifS H; obtain ⟨c31, H⟩ := H; have c31b0 := decide_eq_true c31; clear c31; replace H := ifS H; obtain ⟨c32, H⟩ := H; have c32b0 := decide_eq_true c32; clear c32; replace H := ifS H; obtain ⟨c33, H⟩ := H; have c33b0 := decide_eq_true c33; clear c33; replace H := ifS H; obtain ⟨c34, H⟩ := H; have c34b0 := decide_eq_true c34; clear c34; replace H := bS H; obtain ⟨t124, A35, H⟩ := H
             replace H : (if t124 = true then (spec_GoodNet.l1 k4 x53_2 l0_1 (l0_1.length : Int) x53_2 (rd_L2 l0_1 x53_2) ((rd_L2 l0_1 x53_2).length : Int) (wrap64 (x72_4 + 1)) l0_0 l0_1 l0_2 l0_3 a0_4) else (some false)) = some r := H
             by_cases c36 : t124 = true
             ·subst c36
              have H1 : (spec_GoodNet.l1 k4 x53_2 l0_1 (l0_1.length : Int) x53_2 (rd_L2 l0_1 x53_2) ((rd_L2 l0_1 x53_2).length : Int) (wrap64 (x72_4 + 1)) l0_0 l0_1 l0_2 l0_3 a0_4) = some r := by rw [if_pos rfl] at H; exact H
              clear H
              have H := H1
              clear H1
              have H' := Aside0.mk H
              clear H
              have p122 : 0 ≤ (x72_4 : Int) := da
              have q122 : x72_4 < ((rd_L2 l0_1 x53_2).length : Int) := da
              obtain ⟨ad122, e122, hx122_0⟩ := Kd.at_string HR118_0.out x72_4 p122 q122
              cases e122
              replace hx122_0 := (HB.out.cell (World.block_lt_of_cell? w _ hx122_0)).trans hx122_0
              replace p122 := eq_true p122; replace q122 := eq_true q122; obtain ⟨hcz37_0, hcz37_1, hcz37_2, hcz37_3, hcz37_4, hfz37_0, hfz37_1, hfz37_2, hfz37_3, hfz37_4⟩ := box5 BK114
              have p123 : 0 ≤ (x53_2 : Int) := da
              have q123 : x53_2 < (l0_2.length : Int) := da
              obtain ⟨ad123, A123_0, c123_0, e123, hx123_0, hl123_0, hi123_0⟩ := at_L2 HR0_2.out x53_2 p123 q123
              cases e123
              replace hx123_0 := (HB.out.cell (World.block_lt_of_cell? w _ hx123_0)).trans hx123_0
              have HR123_0 := Aside0.mk hi123_0; have HC123_0 := Aside0.mk hl123_0; clear hi123_0 hl123_0; replace p123 := eq_true p123; replace q123 := eq_true q123
              go_wp2_with (first | ((with_reducible refine gate_callee (f := 30) rfl ?_); refine goesLa (some 82) rfl Try.func30 #[.slice A123_0 (rd_L2 l0_2 x53_2).length c123_0, .string (rdOf ByteArray.empty (rd_L2 l0_1 x53_2) x72_4)] rfl ?_; (with_reducible refine (spec_l17Has.calls k4 _ _ (rd_L2 l0_2 x53_2) (rdOf ByteArray.empty (rd_L2 l0_1 x53_2) x72_4) true _ ?side1 ?side2 A35.out).mono ?_); (case side1 => exact cd (Kd.C_below HR123_0.out HB.out)); (case side2 => exact HC123_0.out); rintro e w' ⟨rfl, ⟨nd, rfl⟩⟩; refine ⟨_, rfl, ?_⟩))
              go_roundg k4
              case measure => have := HJ1.out; have := HK2.out; have := HJ22.out; have := HK4.out; omega
              case rel => exact ⟨(wrap64 (x72_4 + 1)), er, H', ⟨by have := HJ1.out; have := HK2.out; have := HJ22.out; have := HK4.out; omega⟩, ⟨blkd BK114⟩, ⟨belowg1 HB GE114⟩⟩
             ·replace c36 := Bool.eq_false_iff.mpr c36
              subst c36
              have H1 : (some false) = some r := by rw [if_neg (show ¬ (false = true) by decide)] at H; exact H
              clear H
              have H := H1
              clear H1
              obtain rfl := Option.some.inj H
              have p122 : 0 ≤ (x72_4 : Int) := da
              have q122 : x72_4 < ((rd_L2 l0_1 x53_2).length : Int) := da
              obtain ⟨ad122, e122, hx122_0⟩ := Kd.at_string HR118_0.out x72_4 p122 q122
              cases e122
              replace hx122_0 := (HB.out.cell (World.block_lt_of_cell? w _ hx122_0)).trans hx122_0
              replace p122 := eq_true p122; replace q122 := eq_true q122; obtain ⟨hcz38_0, hcz38_1, hcz38_2, hcz38_3, hcz38_4, hfz38_0, hfz38_1, hfz38_2, hfz38_3, hfz38_4⟩ := box5 BK114
              have p123 : 0 ≤ (x53_2 : Int) := da
              have q123 : x53_2 < (l0_2.length : Int) := da
              obtain ⟨ad123, A123_0, c123_0, e123, hx123_0, hl123_0, hi123_0⟩ := at_L2 HR0_2.out x53_2 p123 q123
              cases e123
              replace hx123_0 := (HB.out.cell (World.block_lt_of_cell? w _ hx123_0)).trans hx123_0
              have HR123_0 := Aside0.mk hi123_0; have HC123_0 := Aside0.mk hl123_0; clear hi123_0 hl123_0; replace p123 := eq_true p123; replace q123 := eq_true q123
              go_wp2_with (first | ((with_reducible refine gate_callee (f := 30) rfl ?_); refine goesLa (some 82) rfl Try.func30 #[.slice A123_0 (rd_L2 l0_2 x53_2).length c123_0, .string (rdOf ByteArray.empty (rd_L2 l0_1 x53_2) x72_4)] rfl ?_; (with_reducible refine (spec_l17Has.calls k4 _ _ (rd_L2 l0_2 x53_2) (rdOf ByteArray.empty (rd_L2 l0_1 x53_2) x72_4) false _ ?side1 ?side2 A35.out).mono ?_); (case side1 => exact cd (Kd.C_below HR123_0.out HB.out)); (case side2 => exact HC123_0.out); rintro e w' ⟨rfl, ⟨nd, rfl⟩⟩; refine ⟨_, rfl, ?_⟩))
              go_ret
              exact ⟨er2, belowg1 HB GE114⟩
            ·rw [if_neg c30] at H
             have c30b0 : decide (x72_4 < ((rd_L2 l0_1 x53_2).length : Int)) = false := decide_eq_false c30
             clear c30
             have H' := Aside0.mk H
             clear H; go_wp2
             go_roundg k4
             case measure => have := HJ1.out; have := HK2.out; have := HJ22.out; have := HK4.out; omega
             case rel => exact ⟨(wrap64 (x53_2 + 1)), er, H', ⟨by have := HJ1.out; have := HK2.out; have := HJ22.out; have := HK4.out; omega⟩, ⟨blkd BK114⟩, ⟨belowg1 HB GE114⟩⟩
      ·rw [if_neg c20] at H
       have c20b0 : decide (x53_2 < (l0_1.length : Int)) = false := decide_eq_false c20
       clear c20
       have H' := Aside0.mk H
       clear H; obtain ⟨hcz39_0, hcz39_1, hcz39_2, hcz39_3, hcz39_4, hfz39_0, hfz39_1, hfz39_2, hfz39_3, hfz39_4⟩ := box5 BK114; go_wp2
       go_loopg [89] k2 (fun kq v89 w' => ∃ (x89_3 : Int), v89 = .int .i64 x89_3 ∧ Aside0 (spec_GoodNet.l2 kq l0_3 (l0_3.length : Int) x89_3 = some r) ∧ Aside0 (kq ≤ k2) ∧ Aside0 (w'.heap[gb114]? = some (.cells #[(.slice A0_0 l0_0.length c0_0), (.slice A0_1 l0_1.length c0_1), (.slice A0_2 l0_2.length c0_2), (.slice A0_3 l0_3.length c0_3), .int .i64 a0_4] 30 (0, 0))) ∧ Aside0 (Below w.heap.size w w'))
       case atStart => exact ⟨(0), er, H', ⟨Nat.le_refl _⟩, ⟨blkd BK114⟩, ⟨belowg1 HB GE114⟩⟩
       case round =>
        clear H'
        (try clear c20b0); (try clear hcz39_0); (try clear hcz39_1); (try clear hcz39_2); (try clear hcz39_3); (try clear hcz39_4); (try clear hfz39_0); (try clear hfz39_1); (try clear hfz39_2); (try clear hfz39_3); (try clear hfz39_4)
        obtain ⟨x89_3, rfl, HA, HK3, BK114, HB⟩ := hrel
        cases gk with
        | zero => exact absurd HA.out (by simp [spec_GoodNet.l2])
        | succ k3 =>
         have H := HA.out; clear HA
         simp only [spec_GoodNet.l2] at H
         by_cases c40 : x89_3 < (l0_3.length : Int)
         ·rw [if_pos c40] at H
          have c40b0 : decide (x89_3 < (l0_3.length : Int)) = true := decide_eq_true c40
          clear c40; replace H := ifS H; obtain ⟨c41, H⟩ := H; have c41b0 := decide_eq_true c41; clear c41; replace H := ifS H; obtain ⟨c42, H⟩ := H; have c42b0 := decide_eq_true c42; clear c42
          have H' := Aside0.mk H
          clear H
          have p125 : 0 ≤ (x89_3 : Int) := da
          have q125 : x89_3 < (l0_3.length : Int) := da
          obtain ⟨ad125, A125_0, c125_0, e125, hx125_0, hl125_0, hi125_0⟩ := at_L2 HR0_3.out x89_3 p125 q125
          cases e125
          replace hx125_0 := (HB.out.cell (World.block_lt_of_cell? w _ hx125_0)).trans hx125_0
          have HR125_0 := Aside0.mk hi125_0; have HC125_0 := Aside0.mk hl125_0; clear hi125_0 hl125_0; replace p125 := eq_true p125; replace q125 := eq_true q125; go_wp2
          go_loopg [95] k3 (fun kq v95 w' => ∃ (x95_4 : Int), v95 = .int .i64 x95_4 ∧ Aside0 (spec_GoodNet.l3 kq (rd_L2 l0_3 x89_3) l0_3 (l0_3.length : Int) x89_3 (rd_L2 l0_3 x89_3) ((rd_L2 l0_3 x89_3).length : Int) x95_4 = some r) ∧ Aside0 (kq ≤ k3) ∧ Aside0 (w'.heap[gb114]? = some (.cells #[(.slice A0_0 l0_0.length c0_0), (.slice A0_1 l0_1.length c0_1), (.slice A0_2 l0_2.length c0_2), (.slice (some ad125) l0_3.length c0_3), .int .i64 a0_4] 30 (0, 0))) ∧ Aside0 (Below w.heap.size w w'))
          case atStart => exact ⟨(0), er, H', ⟨Nat.le_refl _⟩, ⟨blkd BK114⟩, ⟨belowg1 HB GE114⟩⟩
          case round =>
           clear H'
           (try clear c40b0); (try clear c41b0); (try clear c42b0); (try clear hx125_0); (try clear p125); (try clear q125)
           obtain ⟨x95_4, rfl, HA, HK4, BK114, HB⟩ := hrel
           cases gk with
           | zero => exact absurd HA.out (by simp [spec_GoodNet.l3])
           | succ k4 =>
            have H := HA.out; clear HA
            simp only [spec_GoodNet.l3] at H
            by_cases c43 : x95_4 < ((rd_L2 l0_3 x89_3).length : Int)
            ·rw [if_pos c43] at H
             have c43b0 : decide (x95_4 < ((rd_L2 l0_3 x89_3).length : Int)) = true := decide_eq_true c43
             clear c43; replace H := ifS H; obtain ⟨c44, H⟩ := H; have c44b0 := decide_eq_true c44; clear c44; replace H := ifS H; obtain ⟨c45, H⟩ := H; have c45b0 := decide_eq_true c45; clear c45; replace H := bS H; obtain ⟨t127, A46, H⟩ := H
             replace H : (if t127 = true then (spec_GoodNet.l3 k4 (rd_L2 l0_3 x89_3) l0_3 (l0_3.length : Int) x89_3 (rd_L2 l0_3 x89_3) ((rd_L2 l0_3 x89_3).length : Int) (wrap64 (x95_4 + 1))) else (some false)) = some r := H
             by_cases c47 : t127 = true
             ·subst c47
              have H1 : (spec_GoodNet.l3 k4 (rd_L2 l0_3 x89_3) l0_3 (l0_3.length : Int) x89_3 (rd_L2 l0_3 x89_3) ((rd_L2 l0_3 x89_3).length : Int) (wrap64 (x95_4 + 1))) = some r := by rw [if_pos rfl] at H; exact H
              clear H
              have H := H1
              clear H1
              have H' := Aside0.mk H
              clear H
              have p126 : 0 ≤ (x95_4 : Int) := da
              have q126 : x95_4 < ((rd_L2 l0_3 x89_3).length : Int) := da
              obtain ⟨ad126, e126, hx126_0⟩ := Kd.at_string HR125_0.out x95_4 p126 q126
              cases e126
              replace hx126_0 := (HB.out.cell (World.block_lt_of_cell? w _ hx126_0)).trans hx126_0
              replace p126 := eq_true p126; replace q126 := eq_true q126
              go_wp2_with (first | ((with_reducible refine gate_callee (f := 16) rfl ?_); refine goesLa (some 101) rfl Try.func16 #[.int .i64 ((rdOf ByteArray.empty (rd_L2 l0_3 x89_3) x95_4).size : Int), .int .i64 1, .int .i64 15] rfl ?_; (with_reducible refine (spec_l1In.calls ((rdOf ByteArray.empty (rd_L2 l0_3 x89_3) x95_4).size : Int) 1 15 true _ A46.out).mono ?_); rintro e w' ⟨rfl, ⟨nd, rfl⟩⟩; refine ⟨_, rfl, ?_⟩))
              go_roundg k4
              case measure => have := HJ1.out; have := HK2.out; have := HK3.out; have := HK4.out; omega
              case rel => exact ⟨(wrap64 (x95_4 + 1)), er, H', ⟨by have := HJ1.out; have := HK2.out; have := HK3.out; have := HK4.out; omega⟩, ⟨blkd BK114⟩, ⟨belowg1 HB GE114⟩⟩
             ·replace c47 := Bool.eq_false_iff.mpr c47
              subst c47
              have H1 : (some false) = some r := by rw [if_neg (show ¬ (false = true) by decide)] at H; exact H
              clear H
              have H := H1
              clear H1
              obtain rfl := Option.some.inj H
              have p126 : 0 ≤ (x95_4 : Int) := da
              have q126 : x95_4 < ((rd_L2 l0_3 x89_3).length : Int) := da
              obtain ⟨ad126, e126, hx126_0⟩ := Kd.at_string HR125_0.out x95_4 p126 q126
              cases e126
              replace hx126_0 := (HB.out.cell (World.block_lt_of_cell? w _ hx126_0)).trans hx126_0
              replace p126 := eq_true p126; replace q126 := eq_true q126
              go_wp2_with (first | ((with_reducible refine gate_callee (f := 16) rfl ?_); refine goesLa (some 101) rfl Try.func16 #[.int .i64 ((rdOf ByteArray.empty (rd_L2 l0_3 x89_3) x95_4).size : Int), .int .i64 1, .int .i64 15] rfl ?_; (with_reducible refine (spec_l1In.calls ((rdOf ByteArray.empty (rd_L2 l0_3 x89_3) x95_4).size : Int) 1 15 false _ A46.out).mono ?_); rintro e w' ⟨rfl, ⟨nd, rfl⟩⟩; refine ⟨_, rfl, ?_⟩))
              go_ret
              exact ⟨er2, belowg1 HB GE114⟩
            ·rw [if_neg c43] at H
             have c43b0 : decide (x95_4 < ((rd_L2 l0_3 x89_3).length : Int)) = false := decide_eq_false c43
             clear c43
             by_cases c48 : ((rd_L2 l0_3 x89_3).length : Int) > 60
             ·rw [if_pos c48] at H
              have c48b0 : decide (60 < ((rd_L2 l0_3 x89_3).length : Int)) = true := decide_eq_true c48
              have c48b1 : decide (60 < (rd_L2 l0_3 x89_3).length) = true := decide_eq_true (by omega)
              clear c48
              obtain rfl := Option.some.inj H
              go_wp2
              go_ret
              exact ⟨er2, belowg1 HB GE114⟩
             ·rw [if_neg c48] at H
              have c48b0 : decide (60 < ((rd_L2 l0_3 x89_3).length : Int)) = false := decide_eq_false c48
              have c48b1 : decide (60 < (rd_L2 l0_3 x89_3).length) = false := decide_eq_false (by omega)
              clear c48
              have H' := Aside0.mk H
              clear H; go_wp2
              go_roundg k4
              case measure => have := HJ1.out; have := HK2.out; have := HK3.out; have := HK4.out; omega
              case rel => exact ⟨(wrap64 (x89_3 + 1)), er, H', ⟨by have := HJ1.out; have := HK2.out; have := HK3.out; have := HK4.out; omega⟩, ⟨blkd BK114⟩, ⟨belowg1 HB GE114⟩⟩
         ·rw [if_neg c40] at H
          have c40b0 : decide (x89_3 < (l0_3.length : Int)) = false := decide_eq_false c40
          clear c40
          obtain rfl := Option.some.inj H
          go_wp2
          go_ret
          exact ⟨er2, belowg1 HB GE114⟩

/-! ### spec_InboxOf: function 5 -/
mutual
def spec_InboxOf.j0 : Nat → Int → Bool → List Int → List (List ByteArray) → List (List ByteArray) → List (List ByteArray) → Int → Option (List ByteArray × Bool)
  | 0, _, _, _, _, _, _, _ => none
  | k + 1, x1, x21, x129000, x129001, x129002, x129003, x129004 => if x21 = true then (some (([] : List ByteArray), false)) else (if 0 ≤ x1 then (if x1 < (x129003.length : Int) then (spec_InboxOf.l0 k ([] : List ByteArray) (rd_L2 x129003 x1) ((rd_L2 x129003 x1).length : Int) 0) else (none)) else (none))
def spec_InboxOf.l0 : Nat → List ByteArray → List ByteArray → Int → Int → Option (List ByteArray × Bool)
  | 0, _, _, _, _ => none
  | k + 1, x6, x26, x27, x28 => if x28 < x27 then (if 0 ≤ x28 then (if x28 < (x26.length : Int) then (spec_InboxOf.l1 k x6 (rdOf ByteArray.empty x26 x28) 0 x26 x27 x28) else (none)) else (none)) else (spec_InboxOf.l2 k x6 ([] : List ByteArray) (x6.length : Int) 0)
def spec_InboxOf.l1 : Nat → List ByteArray → ByteArray → Int → List ByteArray → Int → Int → Option (List ByteArray × Bool)
  | 0, _, _, _, _, _, _ => none
  | k + 1, x6, x8, x9, x26, x27, x28 => if x9 < (x6.length : Int) then (if 0 ≤ x9 then (if 0 < ((rdOf ByteArray.empty x6 x9).size : Int) then (if 0 < (x8.size : Int) then (if (bt (rdOf ByteArray.empty x6 x9) 0) ≤ (bt x8 0) then (spec_InboxOf.l1 k x6 x8 (wrap64 (x9 + 1)) x26 x27 x28) else ((some (([] : List ByteArray) : List ByteArray)).bind fun y134 => (if x9 ≤ (x6.length : Int) then ((some (x6.take (x9 : Int).toNat : List ByteArray)).bind fun y137 => (if y134.length + y137.length < 8796093022208 then ((some (y134 ++ y137 : List ByteArray)).bind fun y141 => (if y141.length < 8796093022208 then ((some (y141 ++ [x8] : List ByteArray)).bind fun y144 => ((some (x6.drop (x9 : Int).toNat : List ByteArray)).bind fun y147 => (if y144.length + y147.length < 8796093022208 then (spec_InboxOf.l0 k (y144 ++ y147) x26 x27 (wrap64 (x28 + 1))) else (none)))) else (none))) else (none))) else (none)))) else (none)) else (none)) else (none)) else ((some (([] : List ByteArray) : List ByteArray)).bind fun y154 => (if 0 ≤ x9 then (if x9 ≤ (x6.length : Int) then ((some (x6.take (x9 : Int).toNat : List ByteArray)).bind fun y157 => (if y154.length + y157.length < 8796093022208 then ((some (y154 ++ y157 : List ByteArray)).bind fun y161 => (if y161.length < 8796093022208 then ((some (y161 ++ [x8] : List ByteArray)).bind fun y164 => ((some (x6.drop (x9 : Int).toNat : List ByteArray)).bind fun y167 => (if y164.length + y167.length < 8796093022208 then (spec_InboxOf.l0 k (y164 ++ y167) x26 x27 (wrap64 (x28 + 1))) else (none)))) else (none))) else (none))) else (none)) else (none)))
def spec_InboxOf.l2 : Nat → List ByteArray → List ByteArray → Int → Int → Option (List ByteArray × Bool)
  | 0, _, _, _, _ => none
  | k + 1, x6, x11, x64, x65 => if x65 < x64 then (if 0 ≤ x65 then (if x65 < (x6.length : Int) then (if 1 ≤ ((rdOf ByteArray.empty x6 x65).size : Int) then (if x11.length < 8796093022208 then (spec_InboxOf.l2 k x6 (x11 ++ [(rdOf ByteArray.empty x6 x65).extract 1 (rdOf ByteArray.empty x6 x65).size]) x64 (wrap64 (x65 + 1))) else (none)) else (none)) else (none)) else (none)) else (some (x11, true))
end
def spec_InboxOf.f (k : Nat) (l0_0 : List Int) (l0_1 : List (List ByteArray)) (l0_2 : List (List ByteArray)) (l0_3 : List (List ByteArray)) (a0_4 : Int) (a1 : Int) : Option (List ByteArray × Bool) := (spec_GoodNet.f k l0_0 l0_1 l0_2 l0_3 a0_4).bind fun t129 => (if t129 = true then ((spec_l1In.f a1 0 3).bind fun t130 => (spec_InboxOf.j0 k a1 (!t130) l0_0 l0_1 l0_2 l0_3 a0_4)) else (spec_InboxOf.j0 k a1 true l0_0 l0_1 l0_2 l0_3 a0_4))
theorem spec_InboxOf.mono_l : ∀ k, (∀ y0 y1 y2 y3 y4 y5 y6, LeO (spec_InboxOf.j0 k y0 y1 y2 y3 y4 y5 y6) (spec_InboxOf.j0 (k + 1) y0 y1 y2 y3 y4 y5 y6)) ∧ (∀ y0 y1 y2 y3, LeO (spec_InboxOf.l0 k y0 y1 y2 y3) (spec_InboxOf.l0 (k + 1) y0 y1 y2 y3)) ∧ (∀ y0 y1 y2 y3 y4 y5, LeO (spec_InboxOf.l1 k y0 y1 y2 y3 y4 y5) (spec_InboxOf.l1 (k + 1) y0 y1 y2 y3 y4 y5)) ∧ (∀ y0 y1 y2 y3, LeO (spec_InboxOf.l2 k y0 y1 y2 y3) (spec_InboxOf.l2 (k + 1) y0 y1 y2 y3))
 | 0 => ⟨fun _ _ _ _ _ _ _ r h => by simp [spec_InboxOf.j0] at h, fun _ _ _ _ r h => by simp [spec_InboxOf.l0] at h, fun _ _ _ _ _ _ r h => by simp [spec_InboxOf.l1] at h, fun _ _ _ _ r h => by simp [spec_InboxOf.l2] at h⟩
 | k + 1 => by
  obtain ⟨ih0, ih1, ih2, ih3⟩ := spec_InboxOf.mono_l k
  refine ⟨?_, ?_, ?_, ?_⟩
  ·intro y0 y1 y2 y3 y4 y5 y6
   unfold spec_InboxOf.j0
   repeat' (first | (with_reducible first | exact ih0 _ _ _ _ _ _ _ | exact ih1 _ _ _ _ | exact ih2 _ _ _ _ _ _ | exact ih3 _ _ _ _ | exact spec_GoodNet.mono _ _ _ _ _ _ | exact LeO.refl _ | exact LeO.none _ | refine LeO.ite ?_ ?_ | refine LeO.bind ?_ (fun _ => ?_)) | exact ih0 _ _ _ _ _ _ _ | exact ih1 _ _ _ _ | exact ih2 _ _ _ _ _ _ | exact ih3 _ _ _ _ | exact spec_GoodNet.mono _ _ _ _ _ _ | exact LeO.none _ | refine LeO.ite ?_ ?_ | refine LeO.bind ?_ (fun _ => ?_))
  ·intro y0 y1 y2 y3
   unfold spec_InboxOf.l0
   repeat' (first | (with_reducible first | exact ih0 _ _ _ _ _ _ _ | exact ih1 _ _ _ _ | exact ih2 _ _ _ _ _ _ | exact ih3 _ _ _ _ | exact spec_GoodNet.mono _ _ _ _ _ _ | exact LeO.refl _ | exact LeO.none _ | refine LeO.ite ?_ ?_ | refine LeO.bind ?_ (fun _ => ?_)) | exact ih0 _ _ _ _ _ _ _ | exact ih1 _ _ _ _ | exact ih2 _ _ _ _ _ _ | exact ih3 _ _ _ _ | exact spec_GoodNet.mono _ _ _ _ _ _ | exact LeO.none _ | refine LeO.ite ?_ ?_ | refine LeO.bind ?_ (fun _ => ?_))
  ·intro y0 y1 y2 y3 y4 y5
   unfold spec_InboxOf.l1
   repeat' (first | (with_reducible first | exact ih0 _ _ _ _ _ _ _ | exact ih1 _ _ _ _ | exact ih2 _ _ _ _ _ _ | exact ih3 _ _ _ _ | exact spec_GoodNet.mono _ _ _ _ _ _ | exact LeO.refl _ | exact LeO.none _ | refine LeO.ite ?_ ?_ | refine LeO.bind ?_ (fun _ => ?_)) | exact ih0 _ _ _ _ _ _ _ | exact ih1 _ _ _ _ | exact ih2 _ _ _ _ _ _ | exact ih3 _ _ _ _ | exact spec_GoodNet.mono _ _ _ _ _ _ | exact LeO.none _ | refine LeO.ite ?_ ?_ | refine LeO.bind ?_ (fun _ => ?_))
  ·intro y0 y1 y2 y3
   unfold spec_InboxOf.l2
   repeat' (first | (with_reducible first | exact ih0 _ _ _ _ _ _ _ | exact ih1 _ _ _ _ | exact ih2 _ _ _ _ _ _ | exact ih3 _ _ _ _ | exact spec_GoodNet.mono _ _ _ _ _ _ | exact LeO.refl _ | exact LeO.none _ | refine LeO.ite ?_ ?_ | refine LeO.bind ?_ (fun _ => ?_)) | exact ih0 _ _ _ _ _ _ _ | exact ih1 _ _ _ _ | exact ih2 _ _ _ _ _ _ | exact ih3 _ _ _ _ | exact spec_GoodNet.mono _ _ _ _ _ _ | exact LeO.none _ | refine LeO.ite ?_ ?_ | refine LeO.bind ?_ (fun _ => ?_))
theorem spec_InboxOf.mono : ∀ a0 a1 a2 a3 a4 a5 k, LeO (spec_InboxOf.f k a0 a1 a2 a3 a4 a5) (spec_InboxOf.f (k + 1) a0 a1 a2 a3 a4 a5) := by
 intro a0 a1 a2 a3 a4 a5 k
 obtain ⟨ih0, ih1, ih2, ih3⟩ := spec_InboxOf.mono_l k
 unfold spec_InboxOf.f
 repeat' (first | (with_reducible first | exact ih0 _ _ _ _ _ _ _ | exact ih1 _ _ _ _ | exact ih2 _ _ _ _ _ _ | exact ih3 _ _ _ _ | exact spec_GoodNet.mono _ _ _ _ _ _ | exact LeO.refl _ | exact LeO.none _ | refine LeO.ite ?_ ?_ | refine LeO.bind ?_ (fun _ => ?_)) | exact ih0 _ _ _ _ _ _ _ | exact ih1 _ _ _ _ | exact ih2 _ _ _ _ _ _ | exact ih3 _ _ _ _ | exact spec_GoodNet.mono _ _ _ _ _ _ | exact LeO.none _ | refine LeO.ite ?_ ?_ | refine LeO.bind ?_ (fun _ => ?_))
set_option maxHeartbeats 8000000 in
set_option maxRecDepth 100000 in
theorem spec_InboxOf.calls (k : Nat) (A0_0 : Option Addr) (c0_0 : Nat) (l0_0 : List Int) (A0_1 : Option Addr) (c0_1 : Nat) (l0_1 : List (List ByteArray)) (A0_2 : Option Addr) (c0_2 : Nat) (l0_2 : List (List ByteArray)) (A0_3 : Option Addr) (c0_3 : Nat) (l0_3 : List (List ByteArray)) (a0_4 : Int) (a1 : Int) (r1 : List ByteArray) (r2 : Bool) (w : World) (hr0_0 : Kd.C (Kd.int .i64) w A0_0 l0_0.length l0_0) (hc0_0 : l0_0.length ≤ c0_0) (hr0_1 : Kd.C (Kd.slice 9 Kd.string) w A0_1 l0_1.length l0_1) (hc0_1 : l0_1.length ≤ c0_1) (hr0_2 : Kd.C (Kd.slice 9 Kd.string) w A0_2 l0_2.length l0_2) (hc0_2 : l0_2.length ≤ c0_2) (hr0_3 : Kd.C (Kd.slice 9 Kd.string) w A0_3 l0_3.length l0_3) (hc0_3 : l0_3.length ≤ c0_3) (h : spec_InboxOf.f k l0_0 l0_1 l0_2 l0_3 a0_4 a1 = some (r1, r2)) :
  Calls Try.prog 5 #[.agg #[.slice A0_0 l0_0.length c0_0, .slice A0_1 l0_1.length c0_1, .slice A0_2 l0_2.length c0_2, .slice A0_3 l0_3.length c0_3, .int .i64 a0_4], .int .i64 a1] w fun e w' => ∃ v0_ : Value, e = .returned (.tuple #[v0_, .bool r2]) ∧ Kd.R Kd.string 9 w' w.heap.size (fun _ => True) v0_ r1 ∧ Below w.heap.size w w' := by
 have hu30 := Try.underlying30
 have HR0_0 := Aside0.mk hr0_0; have HC0_0 := Aside0.mk hc0_0; clear hr0_0 hc0_0; have HR0_1 := Aside0.mk hr0_1; have HC0_1 := Aside0.mk hc0_1; clear hr0_1 hc0_1; have HR0_2 := Aside0.mk hr0_2; have HC0_2 := Aside0.mk hc0_2; clear hr0_2 hc0_2; have HR0_3 := Aside0.mk hr0_3; have HC0_3 := Aside0.mk hc0_3; clear hr0_3 hc0_3
 have HB := Aside0.mk (Below.refl w.heap.size w)
 have H : ((spec_GoodNet.f k l0_0 l0_1 l0_2 l0_3 a0_4).bind fun t129 => (if t129 = true then ((spec_l1In.f a1 0 3).bind fun t130 => (spec_InboxOf.j0 k a1 (!t130) l0_0 l0_1 l0_2 l0_3 a0_4)) else (spec_InboxOf.j0 k a1 true l0_0 l0_1 l0_2 l0_3 a0_4))) = some (r1, r2) := h
 clear h; have HC3 := Aside0.mk H; clear H
 go_enter Try.func5, Try.ntmps5
 go_upto_region 1 with (first | ((with_reducible refine gate_dst (N := 2) rfl ?_); refine boxev 2 #[.slice A0_0 l0_0.length c0_0, .slice A0_1 l0_1.length c0_1, .slice A0_2 l0_2.length c0_2, .slice A0_3 l0_3.length c0_3, .int .i64 a0_4] 30 ?_; intro gb128 hg w4 hbox hb; have BK128 := ak (hbox); have GW128 := ak (hgl hg (belowd HB)); have GE128 := ak (hgl hg (belowd HB)); replace HB := ak (below_step (belowd HB) hb); clear hb hbox hg))
 repeat (go_quiet (first | ((with_reducible refine gate_dst (N := 2) rfl ?_); refine boxev 2 #[.slice A0_0 l0_0.length c0_0, .slice A0_1 l0_1.length c0_1, .slice A0_2 l0_2.length c0_2, .slice A0_3 l0_3.length c0_3, .int .i64 a0_4] 30 ?_; intro gb128 hg w4 hbox hb; have BK128 := ak (hbox); have GW128 := ak (hgl hg (belowd HB)); have GE128 := ak (hgl hg (belowd HB)); replace HB := ak (below_step (belowd HB) hb); clear hb hbox hg)); go_upto_region 1 with (first | ((with_reducible refine gate_dst (N := 2) rfl ?_); refine boxev 2 #[.slice A0_0 l0_0.length c0_0, .slice A0_1 l0_1.length c0_1, .slice A0_2 l0_2.length c0_2, .slice A0_3 l0_3.length c0_3, .int .i64 a0_4] 30 ?_; intro gb128 hg w4 hbox hb; have BK128 := ak (hbox); have GW128 := ak (hgl hg (belowd HB)); have GE128 := ak (hgl hg (belowd HB)); replace HB := ak (below_step (belowd HB) hb); clear hb hbox hg)))
 (try simp only [Act.put, List.setIfInBounds_toArray, List.set_cons_zero, List.set_cons_succ])
 go_cut [21] (fun v21 wc => ∃ (kq : Nat) (x21_2 : Bool), v21 = .bool x21_2 ∧ Aside0 (spec_InboxOf.j0 kq a1 x21_2 l0_0 l0_1 l0_2 l0_3 a0_4 = some (r1, r2)) ∧ Aside0 (kq ≤ k) ∧ Aside0 (wc.heap[gb128]? = some (.cells #[(.slice A0_0 l0_0.length c0_0), (.slice A0_1 l0_1.length c0_1), (.slice A0_2 l0_2.length c0_2), (.slice A0_3 l0_3.length c0_3), .int .i64 a0_4] 30 (0, 0))) ∧ Aside0 (Below w.heap.size w wc))
 case first =>
  have H := HC3.out; clear HC3; replace H := bS H; obtain ⟨t129, A5, H⟩ := H
  replace H : (if t129 = true then ((spec_l1In.f a1 0 3).bind fun t130 => (spec_InboxOf.j0 k a1 (!t130) l0_0 l0_1 l0_2 l0_3 a0_4)) else (spec_InboxOf.j0 k a1 true l0_0 l0_1 l0_2 l0_3 a0_4)) = some (r1, r2) := H
  by_cases c6 : t129 = true
  ·subst c6
   have H1 : ((spec_l1In.f a1 0 3).bind fun t130 => (spec_InboxOf.j0 k a1 (!t130) l0_0 l0_1 l0_2 l0_3 a0_4)) = some (r1, r2) := by rw [if_pos rfl] at H; exact H
   clear H
   have H := H1
   clear H1; replace H := bS H; obtain ⟨t130, A7, H⟩ := H
   replace H : (spec_InboxOf.j0 k a1 (!t130) l0_0 l0_1 l0_2 l0_3 a0_4) = some (r1, r2) := H
   have H' := Aside0.mk H
   clear H; obtain ⟨hcz8_0, hcz8_1, hcz8_2, hcz8_3, hcz8_4, hfz8_0, hfz8_1, hfz8_2, hfz8_3, hfz8_4⟩ := box5 BK128
   go_wp2_with (first | (go_at_call 15; (with_reducible refine (spec_GoodNet.calls k _ _ l0_0 _ _ l0_1 _ _ l0_2 _ _ l0_3 a0_4 true _ ?side1 ?side2 ?side3 ?side4 ?side5 ?side6 ?side7 ?side8 A5.out).mono ?_); (case side1 => exact cd (Kd.C_below HR0_0.out HB.out)); (case side2 => exact HC0_0.out); (case side3 => exact cd (Kd.C_below HR0_1.out HB.out)); (case side4 => exact HC0_1.out); (case side5 => exact cd (Kd.C_below HR0_2.out HB.out)); (case side6 => exact HC0_2.out); (case side7 => exact cd (Kd.C_below HR0_3.out HB.out)); (case side8 => exact HC0_3.out); rintro e w9 ⟨rfl, hb⟩; replace BK128 := ak (blk_below (blkd BK128) hb); replace HB := ak (below_step (belowg1 HB GE128) hb); (try clear hb)) | (go_at_call 16; (with_reducible refine (spec_l1In.calls a1 0 3 t130 _ A7.out).mono ?_); rintro e w' ⟨rfl, ⟨nd, rfl⟩⟩; (try first | exact ⟨rfl, _, World.drewN_drewN _ _ _⟩ | exact ⟨rfl, _, Eq.trans (World.drewN_drewN _ _ _) (congrArg (World.drewN _) (Nat.add_assoc _ _ _))⟩)))
   repeat (go_quiet (first | (go_at_call 15; (with_reducible refine (spec_GoodNet.calls k _ _ l0_0 _ _ l0_1 _ _ l0_2 _ _ l0_3 a0_4 true _ ?side1 ?side2 ?side3 ?side4 ?side5 ?side6 ?side7 ?side8 A5.out).mono ?_); (case side1 => exact cd (Kd.C_below HR0_0.out HB.out)); (case side2 => exact HC0_0.out); (case side3 => exact cd (Kd.C_below HR0_1.out HB.out)); (case side4 => exact HC0_1.out); (case side5 => exact cd (Kd.C_below HR0_2.out HB.out)); (case side6 => exact HC0_2.out); (case side7 => exact cd (Kd.C_below HR0_3.out HB.out)); (case side8 => exact HC0_3.out); rintro e w9 ⟨rfl, hb⟩; replace BK128 := ak (blk_below (blkd BK128) hb); replace HB := ak (below_step (belowg1 HB GE128) hb); (try clear hb)) | (go_at_call 16; (with_reducible refine (spec_l1In.calls a1 0 3 t130 _ A7.out).mono ?_); rintro e w' ⟨rfl, ⟨nd, rfl⟩⟩; (try first | exact ⟨rfl, _, World.drewN_drewN _ _ _⟩ | exact ⟨rfl, _, Eq.trans (World.drewN_drewN _ _ _) (congrArg (World.drewN _) (Nat.add_assoc _ _ _))⟩))); try go_wp2_with (first | (go_at_call 15; (with_reducible refine (spec_GoodNet.calls k _ _ l0_0 _ _ l0_1 _ _ l0_2 _ _ l0_3 a0_4 true _ ?side1 ?side2 ?side3 ?side4 ?side5 ?side6 ?side7 ?side8 A5.out).mono ?_); (case side1 => exact cd (Kd.C_below HR0_0.out HB.out)); (case side2 => exact HC0_0.out); (case side3 => exact cd (Kd.C_below HR0_1.out HB.out)); (case side4 => exact HC0_1.out); (case side5 => exact cd (Kd.C_below HR0_2.out HB.out)); (case side6 => exact HC0_2.out); (case side7 => exact cd (Kd.C_below HR0_3.out HB.out)); (case side8 => exact HC0_3.out); rintro e w9 ⟨rfl, hb⟩; replace BK128 := ak (blk_below (blkd BK128) hb); replace HB := ak (below_step (belowg1 HB GE128) hb); (try clear hb)) | (go_at_call 16; (with_reducible refine (spec_l1In.calls a1 0 3 t130 _ A7.out).mono ?_); rintro e w' ⟨rfl, ⟨nd, rfl⟩⟩; (try first | exact ⟨rfl, _, World.drewN_drewN _ _ _⟩ | exact ⟨rfl, _, Eq.trans (World.drewN_drewN _ _ _) (congrArg (World.drewN _) (Nat.add_assoc _ _ _))⟩))))
   go_meet
   case rel => exact ⟨_, (!t130), er, H', ⟨by first | omega | exact Nat.le_refl _⟩, ⟨blkd BK128⟩, ⟨belowg1 HB GE128⟩⟩
  ·replace c6 := Bool.eq_false_iff.mpr c6
   subst c6
   have H1 : (spec_InboxOf.j0 k a1 true l0_0 l0_1 l0_2 l0_3 a0_4) = some (r1, r2) := by rw [if_neg (show ¬ (false = true) by decide)] at H; exact H
   clear H
   have H := H1
   clear H1
   have H' := Aside0.mk H
   clear H; obtain ⟨hcz10_0, hcz10_1, hcz10_2, hcz10_3, hcz10_4, hfz10_0, hfz10_1, hfz10_2, hfz10_3, hfz10_4⟩ := box5 BK128
   go_wp2_with (first | (go_at_call 15; (with_reducible refine (spec_GoodNet.calls k _ _ l0_0 _ _ l0_1 _ _ l0_2 _ _ l0_3 a0_4 false _ ?side1 ?side2 ?side3 ?side4 ?side5 ?side6 ?side7 ?side8 A5.out).mono ?_); (case side1 => exact cd (Kd.C_below HR0_0.out HB.out)); (case side2 => exact HC0_0.out); (case side3 => exact cd (Kd.C_below HR0_1.out HB.out)); (case side4 => exact HC0_1.out); (case side5 => exact cd (Kd.C_below HR0_2.out HB.out)); (case side6 => exact HC0_2.out); (case side7 => exact cd (Kd.C_below HR0_3.out HB.out)); (case side8 => exact HC0_3.out); rintro e w11 ⟨rfl, hb⟩; replace BK128 := ak (blk_below (blkd BK128) hb); replace HB := ak (below_step (belowg1 HB GE128) hb); (try clear hb)))
   repeat (go_quiet (first | (go_at_call 15; (with_reducible refine (spec_GoodNet.calls k _ _ l0_0 _ _ l0_1 _ _ l0_2 _ _ l0_3 a0_4 false _ ?side1 ?side2 ?side3 ?side4 ?side5 ?side6 ?side7 ?side8 A5.out).mono ?_); (case side1 => exact cd (Kd.C_below HR0_0.out HB.out)); (case side2 => exact HC0_0.out); (case side3 => exact cd (Kd.C_below HR0_1.out HB.out)); (case side4 => exact HC0_1.out); (case side5 => exact cd (Kd.C_below HR0_2.out HB.out)); (case side6 => exact HC0_2.out); (case side7 => exact cd (Kd.C_below HR0_3.out HB.out)); (case side8 => exact HC0_3.out); rintro e w11 ⟨rfl, hb⟩; replace BK128 := ak (blk_below (blkd BK128) hb); replace HB := ak (below_step (belowg1 HB GE128) hb); (try clear hb))); try go_wp2_with (first | (go_at_call 15; (with_reducible refine (spec_GoodNet.calls k _ _ l0_0 _ _ l0_1 _ _ l0_2 _ _ l0_3 a0_4 false _ ?side1 ?side2 ?side3 ?side4 ?side5 ?side6 ?side7 ?side8 A5.out).mono ?_); (case side1 => exact cd (Kd.C_below HR0_0.out HB.out)); (case side2 => exact HC0_0.out); (case side3 => exact cd (Kd.C_below HR0_1.out HB.out)); (case side4 => exact HC0_1.out); (case side5 => exact cd (Kd.C_below HR0_2.out HB.out)); (case side6 => exact HC0_2.out); (case side7 => exact cd (Kd.C_below HR0_3.out HB.out)); (case side8 => exact HC0_3.out); rintro e w11 ⟨rfl, hb⟩; replace BK128 := ak (blk_below (blkd BK128) hb); replace HB := ak (below_step (belowg1 HB GE128) hb); (try clear hb))))
   go_meet
   case rel => exact ⟨_, (true), er, H', ⟨by first | omega | exact Nat.le_refl _⟩, ⟨blkd BK128⟩, ⟨belowg1 HB GE128⟩⟩
 case rest =>
  clear HC3
  obtain ⟨kq, x21_2, rfl, HA, HJ2, BK128, HB⟩ := hcut
  cases kq with
  | zero => exact absurd HA.out (by simp [spec_InboxOf.j0])
  | succ kj2 =>
   have H := HA.out; clear HA
   simp only [spec_InboxOf.j0] at H
   by_cases c12 : x21_2 = true
   ·subst c12
    have H1 : (some (([] : List ByteArray), false)) = some (r1, r2) := by rw [if_pos rfl] at H; exact H
    clear H
    have H := H1
    clear H1
    simp only [Option.some.injEq, Prod.mk.injEq] at H
    obtain ⟨rfl, rfl⟩ := H; go_wp2
    repeat (go_quiet (fail); try go_wp2)
    go_ret2
    exact ⟨_, er2, by first | exact Kd.R_nil _ _ _ _ _ | exact Kd.N_nil _ _ _ _ _ | exact Kd.V_nil _ _ _ _ _ | exact Kd.Q_nil _ _ _ _ _ | exact Kd.S_nil _ _ _ _ _, belowg1 HB GE128⟩
   ·replace c12 := Bool.eq_false_iff.mpr c12
    subst c12
    have H1 : (if 0 ≤ a1 then (if a1 < (l0_3.length : Int) then (spec_InboxOf.l0 kj2 ([] : List ByteArray) (rd_L2 l0_3 a1) ((rd_L2 l0_3 a1).length : Int) 0) else (none)) else (none)) = some (r1, r2) := by rw [if_neg (show ¬ (false = true) by decide)] at H; exact H
    clear H
    have H := H1
    clear H1; replace H := ifS H; obtain ⟨c13, H⟩ := H; have c13b0 := decide_eq_true c13; clear c13; replace H := ifS H; obtain ⟨c14, H⟩ := H; have c14b0 := decide_eq_true c14; clear c14
    have H' := Aside0.mk H
    clear H; obtain ⟨hcz15_0, hcz15_1, hcz15_2, hcz15_3, hcz15_4, hfz15_0, hfz15_1, hfz15_2, hfz15_3, hfz15_4⟩ := box5 BK128
    have p131 : 0 ≤ (a1 : Int) := da
    have q131 : a1 < (l0_3.length : Int) := da
    obtain ⟨ad131, A131_0, c131_0, e131, hx131_0, hl131_0, hi131_0⟩ := at_L2 HR0_3.out a1 p131 q131
    cases e131
    replace hx131_0 := (HB.out.cell (World.block_lt_of_cell? w _ hx131_0)).trans hx131_0
    have HR131_0 := Aside0.mk hi131_0; have HC131_0 := Aside0.mk hl131_0; clear hi131_0 hl131_0; replace p131 := eq_true p131; replace q131 := eq_true q131; go_wp2
    repeat (go_quiet (fail); try go_wp2)
    go_loopg [6, 28] kj2 (fun kq v6 v28 w' => ∃ (x6_2 : List ByteArray) (x28_2 : Int), v28 = .int .i64 x28_2 ∧ Aside0 (spec_InboxOf.l0 kq x6_2 (rd_L2 l0_3 a1) ((rd_L2 l0_3 a1).length : Int) x28_2 = some (r1, r2)) ∧ Aside0 (kq ≤ kj2) ∧ Aside0 (Kd.R Kd.string 9 w' w.heap.size (fun _ => True) v6 x6_2) ∧ Aside0 (w'.heap[gb128]? = some (.cells #[(.slice A0_0 l0_0.length c0_0), (.slice A0_1 l0_1.length c0_1), (.slice A0_2 l0_2.length c0_2), (.slice (some ad131) l0_3.length c0_3), .int .i64 a0_4] 30 (0, 0))) ∧ Aside0 (Below w.heap.size w w'))
    case atStart => exact ⟨(([] : List ByteArray)), (0), er, H', ⟨Nat.le_refl _⟩, ⟨by first | exact Kd.R_nil _ _ _ _ _ | exact Kd.N_nil _ _ _ _ _ | exact Kd.V_nil _ _ _ _ _ | exact Kd.Q_nil _ _ _ _ _ | exact Kd.S_nil _ _ _ _ _⟩, ⟨blkd BK128⟩, ⟨belowg1 HB GE128⟩⟩
    case round =>
     clear H'
     (try clear c12); (try clear c13b0); (try clear c14b0); (try clear hcz15_0); (try clear hcz15_1); (try clear hcz15_2); (try clear hcz15_3); (try clear hcz15_4); (try clear hfz15_0); (try clear hfz15_1); (try clear hfz15_2); (try clear hfz15_3); (try clear hfz15_4); (try clear hx131_0); (try clear p131); (try clear q131)
     obtain ⟨x6_2, x28_2, rfl, HA, HK2, HO_6, BK128, HB⟩ := hrel
     cases gk with
     | zero => exact absurd HA.out (by simp [spec_InboxOf.l0])
     | succ k2 =>
      have H := HA.out; clear HA
      simp only [spec_InboxOf.l0] at H
      by_cases c16 : x28_2 < ((rd_L2 l0_3 a1).length : Int)
      ·rw [if_pos c16] at H
       have c16b0 : decide (x28_2 < ((rd_L2 l0_3 a1).length : Int)) = true := decide_eq_true c16
       clear c16; replace H := ifS H; obtain ⟨c17, H⟩ := H; have c17b0 := decide_eq_true c17; clear c17; replace H := ifS H; obtain ⟨c18, H⟩ := H; have c18b0 := decide_eq_true c18; clear c18
       have H' := Aside0.mk H
       clear H
       have p132 : 0 ≤ (x28_2 : Int) := da
       have q132 : x28_2 < ((rd_L2 l0_3 a1).length : Int) := da
       obtain ⟨ad132, e132, hx132_0⟩ := Kd.at_string HR131_0.out x28_2 p132 q132
       cases e132
       replace hx132_0 := (HB.out.cell (World.block_lt_of_cell? w _ hx132_0)).trans hx132_0
       replace p132 := eq_true p132; replace q132 := eq_true q132; go_wp2
       repeat (go_quiet (fail); try go_wp2)
       go_loopg [9] k2 (fun kq v9 w' => ∃ (x9_3 : Int), v9 = .int .i64 x9_3 ∧ Aside0 (spec_InboxOf.l1 kq x6_2 (rdOf ByteArray.empty (rd_L2 l0_3 a1) x28_2) x9_3 (rd_L2 l0_3 a1) ((rd_L2 l0_3 a1).length : Int) x28_2 = some (r1, r2)) ∧ Aside0 (kq ≤ k2) ∧ Aside0 (Kd.R Kd.string 9 w' w.heap.size (fun _ => True) u6 x6_2) ∧ Aside0 (w'.heap[gb128]? = some (.cells #[(.slice A0_0 l0_0.length c0_0), (.slice A0_1 l0_1.length c0_1), (.slice A0_2 l0_2.length c0_2), (.slice (some ad131) l0_3.length c0_3), .int .i64 a0_4] 30 (0, 0))) ∧ Aside0 (Below w.heap.size w w'))
       case atStart => exact ⟨(0), er, H', ⟨Nat.le_refl _⟩, ⟨rdl HO_6⟩, ⟨blkd BK128⟩, ⟨belowg1 HB GE128⟩⟩
       case round =>
        clear H'
        (try clear c16b0); (try clear c17b0); (try clear c18b0); (try clear hx132_0); (try clear p132); (try clear q132)
        obtain ⟨x9_3, rfl, HA, HK3, HO_6, BK128, HB⟩ := hrel
        cases gk with
        | zero => exact absurd HA.out (by simp [spec_InboxOf.l1])
        | succ k3 =>
         have H := HA.out; clear HA
         simp only [spec_InboxOf.l1] at H
         by_cases c19 : x9_3 < (x6_2.length : Int)
         ·rw [if_pos c19] at H
          have c19b0 : decide (x9_3 < (x6_2.length : Int)) = true := decide_eq_true c19
          clear c19; replace H := ifS H; obtain ⟨c20, H⟩ := H; have c20b0 := decide_eq_true c20; clear c20; replace H := ifS H; obtain ⟨c21, H⟩ := H; have c21b0 := decide_eq_true c21
          have c21b1 : decide (0 < (rdOf ByteArray.empty x6_2 x9_3).size) = true := decide_eq_true (by omega)
          clear c21; replace H := ifS H; obtain ⟨c23, H⟩ := H; have c23b0 := decide_eq_true c23
          have c23b1 : decide (0 < (rdOf ByteArray.empty (rd_L2 l0_3 a1) x28_2).size) = true := decide_eq_true (by omega)
          clear c23
          by_cases c25 : (bt (rdOf ByteArray.empty x6_2 x9_3) 0) ≤ (bt (rdOf ByteArray.empty (rd_L2 l0_3 a1) x28_2) 0)
          ·rw [if_pos c25] at H
           have c25b0 : decide ((bt (rdOf ByteArray.empty x6_2 x9_3) 0) ≤ (bt (rdOf ByteArray.empty (rd_L2 l0_3 a1) x28_2) 0)) = true := decide_eq_true c25
           clear c25
           have H' := Aside0.mk H
           clear H
           obtain ⟨Ao26, co26, eo26⟩ := Kd.R_slice HO_6.out
           subst eo26
           have p133 : 0 ≤ (x9_3 : Int) := da
           have q133 : x9_3 < (x6_2.length : Int) := da
           obtain ⟨ad133, e133, hx133_0⟩ := Kd.at_string (Kd.R_reads' HO_6.out).2.2 x9_3 p133 q133
           cases e133
           replace p133 := eq_true p133; replace q133 := eq_true q133
           have p22 : 0 ≤ (0 : Int) := (by omega)
           have q22 : 0 < (rdOf ByteArray.empty x6_2 x9_3).size := (by have : (0 : Int) < ((rdOf ByteArray.empty x6_2 x9_3).size : Int) := da; omega)
           have hx22 : ∀ h : 0 < (rdOf ByteArray.empty x6_2 x9_3).size, (((rdOf ByteArray.empty x6_2 x9_3)[0]'h).toNat : Int) = bt (rdOf ByteArray.empty x6_2 x9_3) 0 := bt_at (rdOf ByteArray.empty x6_2 x9_3) 0
           clear p22
           have qi22 : (0 < ((rdOf ByteArray.empty x6_2 x9_3).size : Int)) = True := eq_true (da)
           replace q22 := eq_true q22
           have p24 : 0 ≤ (0 : Int) := (by omega)
           have q24 : 0 < (rdOf ByteArray.empty (rd_L2 l0_3 a1) x28_2).size := (by have : (0 : Int) < ((rdOf ByteArray.empty (rd_L2 l0_3 a1) x28_2).size : Int) := da; omega)
           have hx24 : ∀ h : 0 < (rdOf ByteArray.empty (rd_L2 l0_3 a1) x28_2).size, (((rdOf ByteArray.empty (rd_L2 l0_3 a1) x28_2)[0]'h).toNat : Int) = bt (rdOf ByteArray.empty (rd_L2 l0_3 a1) x28_2) 0 := bt_at (rdOf ByteArray.empty (rd_L2 l0_3 a1) x28_2) 0
           clear p24
           have qi24 : (0 < ((rdOf ByteArray.empty (rd_L2 l0_3 a1) x28_2).size : Int)) = True := eq_true (da)
           replace q24 := eq_true q24; go_wp2
           repeat (go_quiet (fail); try go_wp2)
           go_roundg k3
           case measure => have := HJ2.out; have := HK2.out; have := HK3.out; omega
           case rel => exact ⟨(wrap64 (x9_3 + 1)), er, H', ⟨by have := HJ2.out; have := HK2.out; have := HK3.out; omega⟩, ⟨rdl HO_6⟩, ⟨blkd BK128⟩, ⟨belowg1 HB GE128⟩⟩
          ·rw [if_neg c25] at H
           have c25b0 : decide ((bt (rdOf ByteArray.empty x6_2 x9_3) 0) ≤ (bt (rdOf ByteArray.empty (rd_L2 l0_3 a1) x28_2) 0)) = false := decide_eq_false c25
           clear c25
           obtain ⟨y134, hy_⟩ : ∃ y_ : List ByteArray, y_ = (([] : List ByteArray)) := ⟨_, rfl⟩
           replace H : (if x9_3 ≤ (x6_2.length : Int) then ((some (x6_2.take (x9_3 : Int).toNat : List ByteArray)).bind fun y137 => (if y134.length + y137.length < 8796093022208 then ((some (y134 ++ y137 : List ByteArray)).bind fun y141 => (if y141.length < 8796093022208 then ((some (y141 ++ [(rdOf ByteArray.empty (rd_L2 l0_3 a1) x28_2)] : List ByteArray)).bind fun y144 => ((some (x6_2.drop (x9_3 : Int).toNat : List ByteArray)).bind fun y147 => (if y144.length + y147.length < 8796093022208 then (spec_InboxOf.l0 k3 (y144 ++ y147) (rd_L2 l0_3 a1) ((rd_L2 l0_3 a1).length : Int) (wrap64 (x28_2 + 1))) else (none)))) else (none))) else (none))) else (none)) = some (r1, r2) := yH
           have Ny134 := ak hy_; clear hy_
           have c27b0 := eq_true (da : 0 ≤ x9_3)
           replace H := ifS H; obtain ⟨c28, H⟩ := H; have c28b0 := eq_true c28
           have c28b1 : decide (x9_3 ≤ (x6_2.length : Int)) = true := decide_eq_true c28
           clear c28
           obtain ⟨y137, hy_⟩ : ∃ y_ : List ByteArray, y_ = (x6_2.take (x9_3 : Int).toNat) := ⟨_, rfl⟩
           replace H : (if y134.length + y137.length < 8796093022208 then ((some (y134 ++ y137 : List ByteArray)).bind fun y141 => (if y141.length < 8796093022208 then ((some (y141 ++ [(rdOf ByteArray.empty (rd_L2 l0_3 a1) x28_2)] : List ByteArray)).bind fun y144 => ((some (x6_2.drop (x9_3 : Int).toNat : List ByteArray)).bind fun y147 => (if y144.length + y147.length < 8796093022208 then (spec_InboxOf.l0 k3 (y144 ++ y147) (rd_L2 l0_3 a1) ((rd_L2 l0_3 a1).length : Int) (wrap64 (x28_2 + 1))) else (none)))) else (none))) else (none)) = some (r1, r2) := yH
           have Ny137 := ak hy_; clear hy_; replace H := ifS H; obtain ⟨c29, H⟩ := H; have LMc29 := Aside0.mk c29; clear c29
           obtain ⟨y141, hy_⟩ : ∃ y_ : List ByteArray, y_ = (y134 ++ y137) := ⟨_, rfl⟩
           replace H : (if y141.length < 8796093022208 then ((some (y141 ++ [(rdOf ByteArray.empty (rd_L2 l0_3 a1) x28_2)] : List ByteArray)).bind fun y144 => ((some (x6_2.drop (x9_3 : Int).toNat : List ByteArray)).bind fun y147 => (if y144.length + y147.length < 8796093022208 then (spec_InboxOf.l0 k3 (y144 ++ y147) (rd_L2 l0_3 a1) ((rd_L2 l0_3 a1).length : Int) (wrap64 (x28_2 + 1))) else (none)))) else (none)) = some (r1, r2) := yH
           have Ny141 := ak hy_; clear hy_; replace H := ifS H; obtain ⟨c30, H⟩ := H; have LMc30 := Aside0.mk c30; clear c30
           obtain ⟨y144, hy_⟩ : ∃ y_ : List ByteArray, y_ = (y141 ++ [(rdOf ByteArray.empty (rd_L2 l0_3 a1) x28_2)]) := ⟨_, rfl⟩
           replace H : ((some (x6_2.drop (x9_3 : Int).toNat : List ByteArray)).bind fun y147 => (if y144.length + y147.length < 8796093022208 then (spec_InboxOf.l0 k3 (y144 ++ y147) (rd_L2 l0_3 a1) ((rd_L2 l0_3 a1).length : Int) (wrap64 (x28_2 + 1))) else (none))) = some (r1, r2) := yH
           have Ny144 := ak hy_; clear hy_
           have c31b0 := eq_true (da : 0 ≤ x9_3)
           have c32b0 := eq_true (da : x9_3 ≤ (x6_2.length : Int))
           obtain ⟨y147, hy_⟩ : ∃ y_ : List ByteArray, y_ = (x6_2.drop (x9_3 : Int).toNat) := ⟨_, rfl⟩
           replace H : (if y144.length + y147.length < 8796093022208 then (spec_InboxOf.l0 k3 (y144 ++ y147) (rd_L2 l0_3 a1) ((rd_L2 l0_3 a1).length : Int) (wrap64 (x28_2 + 1))) else (none)) = some (r1, r2) := yH
           have Ny147 := ak hy_; clear hy_; replace H := ifS H; obtain ⟨c33, H⟩ := H; have LMc33 := Aside0.mk c33; clear c33
           obtain ⟨y151, hy_⟩ : ∃ y_ : List ByteArray, y_ = (y144 ++ y147) := ⟨_, rfl⟩
           replace H : (spec_InboxOf.l0 k3 y151 (rd_L2 l0_3 a1) ((rd_L2 l0_3 a1).length : Int) (wrap64 (x28_2 + 1))) = some (r1, r2) := yH
           have Ny151 := ak hy_; clear hy_
           have H' := Aside0.mk H
           clear H
           obtain ⟨Ao34, co34, eo34⟩ := Kd.R_slice HO_6.out
           subst eo34
           have p133 : 0 ≤ (x9_3 : Int) := da
           have q133 : x9_3 < (x6_2.length : Int) := da
           obtain ⟨ad133, e133, hx133_0⟩ := Kd.at_string (Kd.R_reads' HO_6.out).2.2 x9_3 p133 q133
           cases e133
           replace p133 := eq_true p133; replace q133 := eq_true q133
           have p22 : 0 ≤ (0 : Int) := (by omega)
           have q22 : 0 < (rdOf ByteArray.empty x6_2 x9_3).size := (by have : (0 : Int) < ((rdOf ByteArray.empty x6_2 x9_3).size : Int) := da; omega)
           have hx22 : ∀ h : 0 < (rdOf ByteArray.empty x6_2 x9_3).size, (((rdOf ByteArray.empty x6_2 x9_3)[0]'h).toNat : Int) = bt (rdOf ByteArray.empty x6_2 x9_3) 0 := bt_at (rdOf ByteArray.empty x6_2 x9_3) 0
           clear p22
           have qi22 : (0 < ((rdOf ByteArray.empty x6_2 x9_3).size : Int)) = True := eq_true (da)
           replace q22 := eq_true q22
           have p24 : 0 ≤ (0 : Int) := (by omega)
           have q24 : 0 < (rdOf ByteArray.empty (rd_L2 l0_3 a1) x28_2).size := (by have : (0 : Int) < ((rdOf ByteArray.empty (rd_L2 l0_3 a1) x28_2).size : Int) := da; omega)
           have hx24 : ∀ h : 0 < (rdOf ByteArray.empty (rd_L2 l0_3 a1) x28_2).size, (((rdOf ByteArray.empty (rd_L2 l0_3 a1) x28_2)[0]'h).toNat : Int) = bt (rdOf ByteArray.empty (rd_L2 l0_3 a1) x28_2) 0 := bt_at (rdOf ByteArray.empty (rd_L2 l0_3 a1) x28_2) 0
           clear p24
           have qi24 : (0 < ((rdOf ByteArray.empty (rd_L2 l0_3 a1) x28_2).size : Int)) = True := eq_true (da)
           replace q24 := eq_true q24
           go_wp2_with (first | ((with_reducible refine gate_dst (N := 48) rfl ?_); refine Kd.R_lit Kd.string _ 9 ?hg (N := 48) ?hd (xs := ([] : List ByteArray)) (inner := []) (ok := fun _ => True) (okp := fun _ => True) ?hr ?hp (fun _ hk => hk) trivial (Below.refl _ _) (Nat.le_refl _) (by simp) ?_; (case hd => rfl); (case hg => rfl); (case hr => first | (go_simp; done) | (go_simp; rfl)); (case hp => exact (Reps.none _ _)); intro v135 w35 ho36 hb hg_ hnew_; clear hg_ hnew_; (first | rw [← Ny134.out] at ho36 | (simp only [Int.reduceToNat] at ho36; rw [← Ny134.out] at ho36)); have HO136 := ak (Kd.R_lower (Kd.R_new' ho36 (Kd.R_lt (rdl HO_6))) (below_size (belowg1 HB GE128))); replace HO_6 := ak (Kd.R_elder' (rdl HO_6) (Kd.R_base ho36) hb); replace BK128 := ak (blk_below (blkd BK128) hb); replace HB := ak (below_step (belowg1 HB GE128) hb); clear hb ho36; have q37 : (x9_3 : Int) ≤ ((x6_2.length : Int) : Int) := da; obtain ⟨i037, hi037, _, hsz37, _⟩ := info_parts info9; have hroom37 : x6_2.length ≤ co34 := (Kd.R_reads' HO_6.out).2.1; have hC37 : Kd.C Kd.string _ (some ad133) x6_2.length x6_2 := (Kd.R_reads' HO_6.out).2.2; have hcut37 := cut_to (P := Try.prog) 27 9 .i64 Try.underlying27 hi037 (some ad133) x6_2.length co34 x9_3 (da) q37 hroom37; have hr37 := Kd.C_take (m := (x9_3 : Int).toNat) hC37 (by omega); have hy37 : y137.length = (x9_3 : Int).toNat := (by rw [Ny137.out, List.length_take]; omega); rw [← Ny137.out] at hr37; rw [← hy37] at hcut37; have HR140 := Aside0.mk hr37; have HC140 := Aside0.mk (show y137.length ≤ co34 from by omega); clear hr37 hC37 hroom37 hi037 hsz37; have KY37 := Aside0.mk hy37; clear hy37; have KL37 := Aside0.mk (show (x9_3 : Int).toNat ≤ x6_2.length from by omega); replace q37 := eq_true q37) | ((with_reducible refine gate_builtin (b := .append) (xs := #[.tmp 48, .tmp 51]) rfl ?_); at_builtin; refine Kd.R_append_rows Kd.string (w0 := w) w.heap.size rfl (.tmp 48) (.tmp 51) 27 9 (.string ⟨#[]⟩) 16 rfl Try.underlying27 info9 rfl (by decide) (by omega) v135 y134 y137 _ _ _ (fun k_ => some k_ ≠ (.slice (some ad133) x6_2.length co34 : Value).ownBlock) (fun _ => False) rfl rfl ?aO ?aR (fun _ _ h => h) (fun _ h => h.elim) ?aF ?aB ?aS ?aL ?_; (case aR => exact cd (by repeat (first | (with_reducible exact HR140.out) | (with_reducible refine Kd.C_alloc ?_ _) | (with_reducible refine Kd.C_drewN ?_ _) | (with_reducible refine Kd.C_drew ?_) | exact HR140.out))); (case aB => exact (belowg1 HB GE128)); (case aF => exact (fun k_ hk => Kd.fresh' (Kd.R_lt (rdl HO_6)) k_ hk)); (case aO => exact (by (with_reducible repeat (first | apply Kd.R_alloc | apply Kd.R_drewN | apply Kd.R_drew)); exact Kd.R_mono HO136.out (fun _ hk => hk.2))); (case aS => exact (below_size (belowg1 HB GE128))); (case aL => have := LMc29.out; omega); intro v142 w38 ho hb hg hat; rw [← Ny141.out] at ho; replace BK128 := ak (blk_grown (blkd BK128) hg (Kd.R_ne HO136.out BK128.out (by decide))); replace HB := ak (hb); replace HR140 := ak ((show Kd.C Kd.string w38 (some ad133) y137.length y137 from by rw [Ny137.out]; exact Kd.C_take (m := (x9_3 : Int).toNat) ((Kd.R_reads' (Kd.R_after (ok := (fun _ => True)) (rdl HO_6) hg hat)).2.2) KL37.out)); replace HO_6 := ak (Kd.R_after (ok := (fun _ => True)) (rdl HO_6) hg hat); have HO143 := ak (ho); clear HO136; clear ho hb hg hat) | ((with_reducible refine gate_builtin (b := .append) (xs := #[.tmp 53, .tmp 55]) rfl ?_); at_builtin; refine Kd.R_append Kd.string (w0 := w) w.heap.size rfl (.tmp 53) (.tmp 55) 27 9 (.string ⟨#[]⟩) 16 rfl Try.underlying27 info9 rfl (by decide) (by omega) v142 y141 (rdOf ByteArray.empty (rd_L2 l0_3 a1) x28_2) [.string (rdOf ByteArray.empty (rd_L2 l0_3 a1) x28_2)] (fun k_ => some k_ ≠ (.slice (some ad133) x6_2.length co34 : Value).ownBlock) (fun _ => False) rfl rfl ?aP (fun _ hk => hk.elim) ?aF ?aO ?aB ?aS ?aL ?_; (case aP => exact rfl); (case aB => exact (belowg1 HB GE128)); (case aF => exact (fun k_ hk => Kd.fresh' (Kd.R_lt (rdl HO_6)) k_ hk)); (case aO => exact (rdl HO143)); (case aS => exact (below_size (belowg1 HB GE128))); (case aL => have := LMc30.out; omega); intro v145 w39 ho hb hg hat; rw [← Ny144.out] at ho; replace BK128 := ak (blk_grown (blkd BK128) hg (Kd.R_ne HO143.out BK128.out (by decide))); replace HB := ak (hb); replace HR140 := ak ((show Kd.C Kd.string w39 (some ad133) y137.length y137 from by rw [Ny137.out]; exact Kd.C_take (m := (x9_3 : Int).toNat) ((Kd.R_reads' (Kd.R_after (ok := (fun _ => True)) (rdl HO_6) hg hat)).2.2) KL37.out)); replace HO_6 := ak (Kd.R_after (ok := (fun _ => True)) (rdl HO_6) hg hat); have HO146 := ak (ho); clear HO143; clear ho hb hg hat; have q40 : (x9_3 : Int) ≤ ((x6_2.length : Int) : Int) := da; obtain ⟨i040, hi040, _, hsz40, _⟩ := info_parts info9; have hroom40 : x6_2.length ≤ co34 := (Kd.R_reads' HO_6.out).2.1; have hC40 : Kd.C Kd.string _ (some ad133) x6_2.length x6_2 := (Kd.R_reads' HO_6.out).2.2; have q040 : (0 : Int) ≤ (x9_3 : Int) := da; have hcut40 := cut_from (P := Try.prog) 27 9 .i64 Try.underlying27 hi040 1 hsz40 (some ad133) x6_2.length co34 x9_3 q040 q40; have hr40 := Kd.C_drop (m := (x9_3 : Int).toNat) (c := co34) hC40 (by omega) hroom40; obtain ⟨A40, hA40⟩ : ∃ A1, A1 = (if co34 = (x9_3 : Int).toNat then (some ad133) else ((some ad133) : Option Addr).map (·.add ((x9_3 : Int).toNat * 1))) := ⟨_, rfl⟩; obtain ⟨c40, hc40⟩ : ∃ c1, c1 = co34 - (x9_3 : Int).toNat := ⟨_, rfl⟩; have hy40 : y147.length = x6_2.length - (x9_3 : Int).toNat := (by rw [Ny147.out, List.length_drop] <;> omega); rw [show (x6_2).drop (x9_3 : Int).toNat = y147 from Ny147.out.symm] at hr40; replace hr40 : Kd.C Kd.string _ A40 y147.length y147 := (by rw [hA40]; exact hr40); rw [← hy40, ← hA40, ← hc40] at hcut40; have HR150 := Aside0.mk hr40; have HC150 := Aside0.mk (show y147.length ≤ c40 from by rw [hy40, hc40]; exact Nat.sub_le_sub_right hroom40 _); clear hr40 hC40 hroom40 hi040 hsz40 hc40; have KY40 := Aside0.mk hy40; have KA40 := Aside0.mk hA40; clear hy40 hA40; have KL40 := Aside0.mk (show (x9_3 : Int).toNat ≤ x6_2.length from by omega); replace q40 := eq_true q40) | ((with_reducible refine gate_builtin (b := .append) (xs := #[.tmp 57, .tmp 60]) rfl ?_); at_builtin; refine Kd.R_append_rows Kd.string (w0 := w) w.heap.size rfl (.tmp 57) (.tmp 60) 27 9 (.string ⟨#[]⟩) 16 rfl Try.underlying27 info9 rfl (by decide) (by omega) v145 y144 y147 _ _ _ (fun k_ => some k_ ≠ (.slice (some ad133) x6_2.length co34 : Value).ownBlock) (fun _ => False) rfl rfl ?aO ?aR (fun _ _ h => h) (fun _ h => h.elim) ?aF ?aB ?aS ?aL ?_; (case aR => exact cd (by repeat (first | (with_reducible exact HR150.out) | (with_reducible refine Kd.C_alloc ?_ _) | (with_reducible refine Kd.C_drewN ?_ _) | (with_reducible refine Kd.C_drew ?_) | exact HR150.out))); (case aB => exact (belowg1 HB GE128)); (case aF => exact (fun k_ hk => Kd.fresh' (Kd.R_lt (rdl HO_6)) k_ hk)); (case aO => exact (rdl HO146)); (case aS => exact (below_size (belowg1 HB GE128))); (case aL => have := LMc33.out; omega); intro v152 w41 ho hb hg hat; rw [← Ny151.out] at ho; replace BK128 := ak (blk_grown (blkd BK128) hg (Kd.R_ne HO146.out BK128.out (by decide))); replace HB := ak (hb); replace HR140 := ak ((show Kd.C Kd.string w41 (some ad133) y137.length y137 from by rw [Ny137.out]; exact Kd.C_take (m := (x9_3 : Int).toNat) ((Kd.R_reads' (Kd.R_after (ok := (fun _ => True)) (rdl HO_6) hg hat)).2.2) KL37.out)); replace HR150 := ak ((show Kd.C Kd.string w41 A40 y147.length y147 from by rw [Ny147.out, KA40.out]; exact Kd.C_drop (m := (x9_3 : Int).toNat) (c := co34) ((Kd.R_reads' (Kd.R_after (ok := (fun _ => True)) (rdl HO_6) hg hat)).2.2) KL40.out ((Kd.R_reads' (Kd.R_after (ok := (fun _ => True)) (rdl HO_6) hg hat)).2.1))); replace HO_6 := ak (Kd.R_after (ok := (fun _ => True)) (rdl HO_6) hg hat); have HO153 := ak (ho); clear HO146; clear ho hb hg hat))
           repeat (go_quiet (first | ((with_reducible refine gate_dst (N := 48) rfl ?_); refine Kd.R_lit Kd.string _ 9 ?hg (N := 48) ?hd (xs := ([] : List ByteArray)) (inner := []) (ok := fun _ => True) (okp := fun _ => True) ?hr ?hp (fun _ hk => hk) trivial (Below.refl _ _) (Nat.le_refl _) (by simp) ?_; (case hd => rfl); (case hg => rfl); (case hr => first | (go_simp; done) | (go_simp; rfl)); (case hp => exact (Reps.none _ _)); intro v135 w35 ho36 hb hg_ hnew_; clear hg_ hnew_; (first | rw [← Ny134.out] at ho36 | (simp only [Int.reduceToNat] at ho36; rw [← Ny134.out] at ho36)); have HO136 := ak (Kd.R_lower (Kd.R_new' ho36 (Kd.R_lt (rdl HO_6))) (below_size (belowg1 HB GE128))); replace HO_6 := ak (Kd.R_elder' (rdl HO_6) (Kd.R_base ho36) hb); replace BK128 := ak (blk_below (blkd BK128) hb); replace HB := ak (below_step (belowg1 HB GE128) hb); clear hb ho36; have q37 : (x9_3 : Int) ≤ ((x6_2.length : Int) : Int) := da; obtain ⟨i037, hi037, _, hsz37, _⟩ := info_parts info9; have hroom37 : x6_2.length ≤ co34 := (Kd.R_reads' HO_6.out).2.1; have hC37 : Kd.C Kd.string _ (some ad133) x6_2.length x6_2 := (Kd.R_reads' HO_6.out).2.2; have hcut37 := cut_to (P := Try.prog) 27 9 .i64 Try.underlying27 hi037 (some ad133) x6_2.length co34 x9_3 (da) q37 hroom37; have hr37 := Kd.C_take (m := (x9_3 : Int).toNat) hC37 (by omega); have hy37 : y137.length = (x9_3 : Int).toNat := (by rw [Ny137.out, List.length_take]; omega); rw [← Ny137.out] at hr37; rw [← hy37] at hcut37; have HR140 := Aside0.mk hr37; have HC140 := Aside0.mk (show y137.length ≤ co34 from by omega); clear hr37 hC37 hroom37 hi037 hsz37; have KY37 := Aside0.mk hy37; clear hy37; have KL37 := Aside0.mk (show (x9_3 : Int).toNat ≤ x6_2.length from by omega); replace q37 := eq_true q37) | ((with_reducible refine gate_builtin (b := .append) (xs := #[.tmp 48, .tmp 51]) rfl ?_); at_builtin; refine Kd.R_append_rows Kd.string (w0 := w) w.heap.size rfl (.tmp 48) (.tmp 51) 27 9 (.string ⟨#[]⟩) 16 rfl Try.underlying27 info9 rfl (by decide) (by omega) v135 y134 y137 _ _ _ (fun k_ => some k_ ≠ (.slice (some ad133) x6_2.length co34 : Value).ownBlock) (fun _ => False) rfl rfl ?aO ?aR (fun _ _ h => h) (fun _ h => h.elim) ?aF ?aB ?aS ?aL ?_; (case aR => exact cd (by repeat (first | (with_reducible exact HR140.out) | (with_reducible refine Kd.C_alloc ?_ _) | (with_reducible refine Kd.C_drewN ?_ _) | (with_reducible refine Kd.C_drew ?_) | exact HR140.out))); (case aB => exact (belowg1 HB GE128)); (case aF => exact (fun k_ hk => Kd.fresh' (Kd.R_lt (rdl HO_6)) k_ hk)); (case aO => exact (by (with_reducible repeat (first | apply Kd.R_alloc | apply Kd.R_drewN | apply Kd.R_drew)); exact Kd.R_mono HO136.out (fun _ hk => hk.2))); (case aS => exact (below_size (belowg1 HB GE128))); (case aL => have := LMc29.out; omega); intro v142 w38 ho hb hg hat; rw [← Ny141.out] at ho; replace BK128 := ak (blk_grown (blkd BK128) hg (Kd.R_ne HO136.out BK128.out (by decide))); replace HB := ak (hb); replace HR140 := ak ((show Kd.C Kd.string w38 (some ad133) y137.length y137 from by rw [Ny137.out]; exact Kd.C_take (m := (x9_3 : Int).toNat) ((Kd.R_reads' (Kd.R_after (ok := (fun _ => True)) (rdl HO_6) hg hat)).2.2) KL37.out)); replace HO_6 := ak (Kd.R_after (ok := (fun _ => True)) (rdl HO_6) hg hat); have HO143 := ak (ho); clear HO136; clear ho hb hg hat) | ((with_reducible refine gate_builtin (b := .append) (xs := #[.tmp 53, .tmp 55]) rfl ?_); at_builtin; refine Kd.R_append Kd.string (w0 := w) w.heap.size rfl (.tmp 53) (.tmp 55) 27 9 (.string ⟨#[]⟩) 16 rfl Try.underlying27 info9 rfl (by decide) (by omega) v142 y141 (rdOf ByteArray.empty (rd_L2 l0_3 a1) x28_2) [.string (rdOf ByteArray.empty (rd_L2 l0_3 a1) x28_2)] (fun k_ => some k_ ≠ (.slice (some ad133) x6_2.length co34 : Value).ownBlock) (fun _ => False) rfl rfl ?aP (fun _ hk => hk.elim) ?aF ?aO ?aB ?aS ?aL ?_; (case aP => exact rfl); (case aB => exact (belowg1 HB GE128)); (case aF => exact (fun k_ hk => Kd.fresh' (Kd.R_lt (rdl HO_6)) k_ hk)); (case aO => exact (rdl HO143)); (case aS => exact (below_size (belowg1 HB GE128))); (case aL => have := LMc30.out; omega); intro v145 w39 ho hb hg hat; rw [← Ny144.out] at ho; replace BK128 := ak (blk_grown (blkd BK128) hg (Kd.R_ne HO143.out BK128.out (by decide))); replace HB := ak (hb); replace HR140 := ak ((show Kd.C Kd.string w39 (some ad133) y137.length y137 from by rw [Ny137.out]; exact Kd.C_take (m := (x9_3 : Int).toNat) ((Kd.R_reads' (Kd.R_after (ok := (fun _ => True)) (rdl HO_6) hg hat)).2.2) KL37.out)); replace HO_6 := ak (Kd.R_after (ok := (fun _ => True)) (rdl HO_6) hg hat); have HO146 := ak (ho); clear HO143; clear ho hb hg hat; have q40 : (x9_3 : Int) ≤ ((x6_2.length : Int) : Int) := da; obtain ⟨i040, hi040, _, hsz40, _⟩ := info_parts info9; have hroom40 : x6_2.length ≤ co34 := (Kd.R_reads' HO_6.out).2.1; have hC40 : Kd.C Kd.string _ (some ad133) x6_2.length x6_2 := (Kd.R_reads' HO_6.out).2.2; have q040 : (0 : Int) ≤ (x9_3 : Int) := da; have hcut40 := cut_from (P := Try.prog) 27 9 .i64 Try.underlying27 hi040 1 hsz40 (some ad133) x6_2.length co34 x9_3 q040 q40; have hr40 := Kd.C_drop (m := (x9_3 : Int).toNat) (c := co34) hC40 (by omega) hroom40; obtain ⟨A40, hA40⟩ : ∃ A1, A1 = (if co34 = (x9_3 : Int).toNat then (some ad133) else ((some ad133) : Option Addr).map (·.add ((x9_3 : Int).toNat * 1))) := ⟨_, rfl⟩; obtain ⟨c40, hc40⟩ : ∃ c1, c1 = co34 - (x9_3 : Int).toNat := ⟨_, rfl⟩; have hy40 : y147.length = x6_2.length - (x9_3 : Int).toNat := (by rw [Ny147.out, List.length_drop] <;> omega); rw [show (x6_2).drop (x9_3 : Int).toNat = y147 from Ny147.out.symm] at hr40; replace hr40 : Kd.C Kd.string _ A40 y147.length y147 := (by rw [hA40]; exact hr40); rw [← hy40, ← hA40, ← hc40] at hcut40; have HR150 := Aside0.mk hr40; have HC150 := Aside0.mk (show y147.length ≤ c40 from by rw [hy40, hc40]; exact Nat.sub_le_sub_right hroom40 _); clear hr40 hC40 hroom40 hi040 hsz40 hc40; have KY40 := Aside0.mk hy40; have KA40 := Aside0.mk hA40; clear hy40 hA40; have KL40 := Aside0.mk (show (x9_3 : Int).toNat ≤ x6_2.length from by omega); replace q40 := eq_true q40) | ((with_reducible refine gate_builtin (b := .append) (xs := #[.tmp 57, .tmp 60]) rfl ?_); at_builtin; refine Kd.R_append_rows Kd.string (w0 := w) w.heap.size rfl (.tmp 57) (.tmp 60) 27 9 (.string ⟨#[]⟩) 16 rfl Try.underlying27 info9 rfl (by decide) (by omega) v145 y144 y147 _ _ _ (fun k_ => some k_ ≠ (.slice (some ad133) x6_2.length co34 : Value).ownBlock) (fun _ => False) rfl rfl ?aO ?aR (fun _ _ h => h) (fun _ h => h.elim) ?aF ?aB ?aS ?aL ?_; (case aR => exact cd (by repeat (first | (with_reducible exact HR150.out) | (with_reducible refine Kd.C_alloc ?_ _) | (with_reducible refine Kd.C_drewN ?_ _) | (with_reducible refine Kd.C_drew ?_) | exact HR150.out))); (case aB => exact (belowg1 HB GE128)); (case aF => exact (fun k_ hk => Kd.fresh' (Kd.R_lt (rdl HO_6)) k_ hk)); (case aO => exact (rdl HO146)); (case aS => exact (below_size (belowg1 HB GE128))); (case aL => have := LMc33.out; omega); intro v152 w41 ho hb hg hat; rw [← Ny151.out] at ho; replace BK128 := ak (blk_grown (blkd BK128) hg (Kd.R_ne HO146.out BK128.out (by decide))); replace HB := ak (hb); replace HR140 := ak ((show Kd.C Kd.string w41 (some ad133) y137.length y137 from by rw [Ny137.out]; exact Kd.C_take (m := (x9_3 : Int).toNat) ((Kd.R_reads' (Kd.R_after (ok := (fun _ => True)) (rdl HO_6) hg hat)).2.2) KL37.out)); replace HR150 := ak ((show Kd.C Kd.string w41 A40 y147.length y147 from by rw [Ny147.out, KA40.out]; exact Kd.C_drop (m := (x9_3 : Int).toNat) (c := co34) ((Kd.R_reads' (Kd.R_after (ok := (fun _ => True)) (rdl HO_6) hg hat)).2.2) KL40.out ((Kd.R_reads' (Kd.R_after (ok := (fun _ => True)) (rdl HO_6) hg hat)).2.1))); replace HO_6 := ak (Kd.R_after (ok := (fun _ => True)) (rdl HO_6) hg hat); have HO153 := ak (ho); clear HO146; clear ho hb hg hat)); try go_wp2_with (first | ((with_reducible refine gate_dst (N := 48) rfl ?_); refine Kd.R_lit Kd.string _ 9 ?hg (N := 48) ?hd (xs := ([] : List ByteArray)) (inner := []) (ok := fun _ => True) (okp := fun _ => True) ?hr ?hp (fun _ hk => hk) trivial (Below.refl _ _) (Nat.le_refl _) (by simp) ?_; (case hd => rfl); (case hg => rfl); (case hr => first | (go_simp; done) | (go_simp; rfl)); (case hp => exact (Reps.none _ _)); intro v135 w35 ho36 hb hg_ hnew_; clear hg_ hnew_; (first | rw [← Ny134.out] at ho36 | (simp only [Int.reduceToNat] at ho36; rw [← Ny134.out] at ho36)); have HO136 := ak (Kd.R_lower (Kd.R_new' ho36 (Kd.R_lt (rdl HO_6))) (below_size (belowg1 HB GE128))); replace HO_6 := ak (Kd.R_elder' (rdl HO_6) (Kd.R_base ho36) hb); replace BK128 := ak (blk_below (blkd BK128) hb); replace HB := ak (below_step (belowg1 HB GE128) hb); clear hb ho36; have q37 : (x9_3 : Int) ≤ ((x6_2.length : Int) : Int) := da; obtain ⟨i037, hi037, _, hsz37, _⟩ := info_parts info9; have hroom37 : x6_2.length ≤ co34 := (Kd.R_reads' HO_6.out).2.1; have hC37 : Kd.C Kd.string _ (some ad133) x6_2.length x6_2 := (Kd.R_reads' HO_6.out).2.2; have hcut37 := cut_to (P := Try.prog) 27 9 .i64 Try.underlying27 hi037 (some ad133) x6_2.length co34 x9_3 (da) q37 hroom37; have hr37 := Kd.C_take (m := (x9_3 : Int).toNat) hC37 (by omega); have hy37 : y137.length = (x9_3 : Int).toNat := (by rw [Ny137.out, List.length_take]; omega); rw [← Ny137.out] at hr37; rw [← hy37] at hcut37; have HR140 := Aside0.mk hr37; have HC140 := Aside0.mk (show y137.length ≤ co34 from by omega); clear hr37 hC37 hroom37 hi037 hsz37; have KY37 := Aside0.mk hy37; clear hy37; have KL37 := Aside0.mk (show (x9_3 : Int).toNat ≤ x6_2.length from by omega); replace q37 := eq_true q37) | ((with_reducible refine gate_builtin (b := .append) (xs := #[.tmp 48, .tmp 51]) rfl ?_); at_builtin; refine Kd.R_append_rows Kd.string (w0 := w) w.heap.size rfl (.tmp 48) (.tmp 51) 27 9 (.string ⟨#[]⟩) 16 rfl Try.underlying27 info9 rfl (by decide) (by omega) v135 y134 y137 _ _ _ (fun k_ => some k_ ≠ (.slice (some ad133) x6_2.length co34 : Value).ownBlock) (fun _ => False) rfl rfl ?aO ?aR (fun _ _ h => h) (fun _ h => h.elim) ?aF ?aB ?aS ?aL ?_; (case aR => exact cd (by repeat (first | (with_reducible exact HR140.out) | (with_reducible refine Kd.C_alloc ?_ _) | (with_reducible refine Kd.C_drewN ?_ _) | (with_reducible refine Kd.C_drew ?_) | exact HR140.out))); (case aB => exact (belowg1 HB GE128)); (case aF => exact (fun k_ hk => Kd.fresh' (Kd.R_lt (rdl HO_6)) k_ hk)); (case aO => exact (by (with_reducible repeat (first | apply Kd.R_alloc | apply Kd.R_drewN | apply Kd.R_drew)); exact Kd.R_mono HO136.out (fun _ hk => hk.2))); (case aS => exact (below_size (belowg1 HB GE128))); (case aL => have := LMc29.out; omega); intro v142 w38 ho hb hg hat; rw [← Ny141.out] at ho; replace BK128 := ak (blk_grown (blkd BK128) hg (Kd.R_ne HO136.out BK128.out (by decide))); replace HB := ak (hb); replace HR140 := ak ((show Kd.C Kd.string w38 (some ad133) y137.length y137 from by rw [Ny137.out]; exact Kd.C_take (m := (x9_3 : Int).toNat) ((Kd.R_reads' (Kd.R_after (ok := (fun _ => True)) (rdl HO_6) hg hat)).2.2) KL37.out)); replace HO_6 := ak (Kd.R_after (ok := (fun _ => True)) (rdl HO_6) hg hat); have HO143 := ak (ho); clear HO136; clear ho hb hg hat) | ((with_reducible refine gate_builtin (b := .append) (xs := #[.tmp 53, .tmp 55]) rfl ?_); at_builtin; refine Kd.R_append Kd.string (w0 := w) w.heap.size rfl (.tmp 53) (.tmp 55) 27 9 (.string ⟨#[]⟩) 16 rfl Try.underlying27 info9 rfl (by decide) (by omega) v142 y141 (rdOf ByteArray.empty (rd_L2 l0_3 a1) x28_2) [.string (rdOf ByteArray.empty (rd_L2 l0_3 a1) x28_2)] (fun k_ => some k_ ≠ (.slice (some ad133) x6_2.length co34 : Value).ownBlock) (fun _ => False) rfl rfl ?aP (fun _ hk => hk.elim) ?aF ?aO ?aB ?aS ?aL ?_; (case aP => exact rfl); (case aB => exact (belowg1 HB GE128)); (case aF => exact (fun k_ hk => Kd.fresh' (Kd.R_lt (rdl HO_6)) k_ hk)); (case aO => exact (rdl HO143)); (case aS => exact (below_size (belowg1 HB GE128))); (case aL => have := LMc30.out; omega); intro v145 w39 ho hb hg hat; rw [← Ny144.out] at ho; replace BK128 := ak (blk_grown (blkd BK128) hg (Kd.R_ne HO143.out BK128.out (by decide))); replace HB := ak (hb); replace HR140 := ak ((show Kd.C Kd.string w39 (some ad133) y137.length y137 from by rw [Ny137.out]; exact Kd.C_take (m := (x9_3 : Int).toNat) ((Kd.R_reads' (Kd.R_after (ok := (fun _ => True)) (rdl HO_6) hg hat)).2.2) KL37.out)); replace HO_6 := ak (Kd.R_after (ok := (fun _ => True)) (rdl HO_6) hg hat); have HO146 := ak (ho); clear HO143; clear ho hb hg hat; have q40 : (x9_3 : Int) ≤ ((x6_2.length : Int) : Int) := da; obtain ⟨i040, hi040, _, hsz40, _⟩ := info_parts info9; have hroom40 : x6_2.length ≤ co34 := (Kd.R_reads' HO_6.out).2.1; have hC40 : Kd.C Kd.string _ (some ad133) x6_2.length x6_2 := (Kd.R_reads' HO_6.out).2.2; have q040 : (0 : Int) ≤ (x9_3 : Int) := da; have hcut40 := cut_from (P := Try.prog) 27 9 .i64 Try.underlying27 hi040 1 hsz40 (some ad133) x6_2.length co34 x9_3 q040 q40; have hr40 := Kd.C_drop (m := (x9_3 : Int).toNat) (c := co34) hC40 (by omega) hroom40; obtain ⟨A40, hA40⟩ : ∃ A1, A1 = (if co34 = (x9_3 : Int).toNat then (some ad133) else ((some ad133) : Option Addr).map (·.add ((x9_3 : Int).toNat * 1))) := ⟨_, rfl⟩; obtain ⟨c40, hc40⟩ : ∃ c1, c1 = co34 - (x9_3 : Int).toNat := ⟨_, rfl⟩; have hy40 : y147.length = x6_2.length - (x9_3 : Int).toNat := (by rw [Ny147.out, List.length_drop] <;> omega); rw [show (x6_2).drop (x9_3 : Int).toNat = y147 from Ny147.out.symm] at hr40; replace hr40 : Kd.C Kd.string _ A40 y147.length y147 := (by rw [hA40]; exact hr40); rw [← hy40, ← hA40, ← hc40] at hcut40; have HR150 := Aside0.mk hr40; have HC150 := Aside0.mk (show y147.length ≤ c40 from by rw [hy40, hc40]; exact Nat.sub_le_sub_right hroom40 _); clear hr40 hC40 hroom40 hi040 hsz40 hc40; have KY40 := Aside0.mk hy40; have KA40 := Aside0.mk hA40; clear hy40 hA40; have KL40 := Aside0.mk (show (x9_3 : Int).toNat ≤ x6_2.length from by omega); replace q40 := eq_true q40) | ((with_reducible refine gate_builtin (b := .append) (xs := #[.tmp 57, .tmp 60]) rfl ?_); at_builtin; refine Kd.R_append_rows Kd.string (w0 := w) w.heap.size rfl (.tmp 57) (.tmp 60) 27 9 (.string ⟨#[]⟩) 16 rfl Try.underlying27 info9 rfl (by decide) (by omega) v145 y144 y147 _ _ _ (fun k_ => some k_ ≠ (.slice (some ad133) x6_2.length co34 : Value).ownBlock) (fun _ => False) rfl rfl ?aO ?aR (fun _ _ h => h) (fun _ h => h.elim) ?aF ?aB ?aS ?aL ?_; (case aR => exact cd (by repeat (first | (with_reducible exact HR150.out) | (with_reducible refine Kd.C_alloc ?_ _) | (with_reducible refine Kd.C_drewN ?_ _) | (with_reducible refine Kd.C_drew ?_) | exact HR150.out))); (case aB => exact (belowg1 HB GE128)); (case aF => exact (fun k_ hk => Kd.fresh' (Kd.R_lt (rdl HO_6)) k_ hk)); (case aO => exact (rdl HO146)); (case aS => exact (below_size (belowg1 HB GE128))); (case aL => have := LMc33.out; omega); intro v152 w41 ho hb hg hat; rw [← Ny151.out] at ho; replace BK128 := ak (blk_grown (blkd BK128) hg (Kd.R_ne HO146.out BK128.out (by decide))); replace HB := ak (hb); replace HR140 := ak ((show Kd.C Kd.string w41 (some ad133) y137.length y137 from by rw [Ny137.out]; exact Kd.C_take (m := (x9_3 : Int).toNat) ((Kd.R_reads' (Kd.R_after (ok := (fun _ => True)) (rdl HO_6) hg hat)).2.2) KL37.out)); replace HR150 := ak ((show Kd.C Kd.string w41 A40 y147.length y147 from by rw [Ny147.out, KA40.out]; exact Kd.C_drop (m := (x9_3 : Int).toNat) (c := co34) ((Kd.R_reads' (Kd.R_after (ok := (fun _ => True)) (rdl HO_6) hg hat)).2.2) KL40.out ((Kd.R_reads' (Kd.R_after (ok := (fun _ => True)) (rdl HO_6) hg hat)).2.1))); replace HO_6 := ak (Kd.R_after (ok := (fun _ => True)) (rdl HO_6) hg hat); have HO153 := ak (ho); clear HO146; clear ho hb hg hat)))
           go_roundg k3
           case measure => have := HJ2.out; have := HK2.out; have := HK3.out; omega
           case rel => exact ⟨(y151), (wrap64 (x28_2 + 1)), er, H', ⟨by have := HJ2.out; have := HK2.out; have := HK3.out; omega⟩, ⟨by (with_reducible repeat (first | apply Kd.R_alloc | apply Kd.R_drewN | apply Kd.R_drew)); exact Kd.R_mono HO153.out (fun _ hk => trivial)⟩, ⟨blkd BK128⟩, ⟨belowg1 HB GE128⟩⟩
         ·rw [if_neg c19] at H
          have c19b0 : decide (x9_3 < (x6_2.length : Int)) = false := decide_eq_false c19
          clear c19
          obtain ⟨y154, hy_⟩ : ∃ y_ : List ByteArray, y_ = (([] : List ByteArray)) := ⟨_, rfl⟩
          replace H : (if 0 ≤ x9_3 then (if x9_3 ≤ (x6_2.length : Int) then ((some (x6_2.take (x9_3 : Int).toNat : List ByteArray)).bind fun y157 => (if y154.length + y157.length < 8796093022208 then ((some (y154 ++ y157 : List ByteArray)).bind fun y161 => (if y161.length < 8796093022208 then ((some (y161 ++ [(rdOf ByteArray.empty (rd_L2 l0_3 a1) x28_2)] : List ByteArray)).bind fun y164 => ((some (x6_2.drop (x9_3 : Int).toNat : List ByteArray)).bind fun y167 => (if y164.length + y167.length < 8796093022208 then (spec_InboxOf.l0 k3 (y164 ++ y167) (rd_L2 l0_3 a1) ((rd_L2 l0_3 a1).length : Int) (wrap64 (x28_2 + 1))) else (none)))) else (none))) else (none))) else (none)) else (none)) = some (r1, r2) := yH
          have Ny154 := ak hy_; clear hy_; replace H := ifS H; obtain ⟨c42, H⟩ := H; have c42b0 := eq_true c42
          have c42b1 : decide (0 ≤ x9_3) = true := decide_eq_true c42
          clear c42; replace H := ifS H; obtain ⟨c43, H⟩ := H; have c43b0 := eq_true c43
          have c43b1 : decide (x9_3 ≤ (x6_2.length : Int)) = true := decide_eq_true c43
          clear c43
          obtain ⟨y157, hy_⟩ : ∃ y_ : List ByteArray, y_ = (x6_2.take (x9_3 : Int).toNat) := ⟨_, rfl⟩
          replace H : (if y154.length + y157.length < 8796093022208 then ((some (y154 ++ y157 : List ByteArray)).bind fun y161 => (if y161.length < 8796093022208 then ((some (y161 ++ [(rdOf ByteArray.empty (rd_L2 l0_3 a1) x28_2)] : List ByteArray)).bind fun y164 => ((some (x6_2.drop (x9_3 : Int).toNat : List ByteArray)).bind fun y167 => (if y164.length + y167.length < 8796093022208 then (spec_InboxOf.l0 k3 (y164 ++ y167) (rd_L2 l0_3 a1) ((rd_L2 l0_3 a1).length : Int) (wrap64 (x28_2 + 1))) else (none)))) else (none))) else (none)) = some (r1, r2) := yH
          have Ny157 := ak hy_; clear hy_; replace H := ifS H; obtain ⟨c44, H⟩ := H; have LMc44 := Aside0.mk c44; clear c44
          obtain ⟨y161, hy_⟩ : ∃ y_ : List ByteArray, y_ = (y154 ++ y157) := ⟨_, rfl⟩
          replace H : (if y161.length < 8796093022208 then ((some (y161 ++ [(rdOf ByteArray.empty (rd_L2 l0_3 a1) x28_2)] : List ByteArray)).bind fun y164 => ((some (x6_2.drop (x9_3 : Int).toNat : List ByteArray)).bind fun y167 => (if y164.length + y167.length < 8796093022208 then (spec_InboxOf.l0 k3 (y164 ++ y167) (rd_L2 l0_3 a1) ((rd_L2 l0_3 a1).length : Int) (wrap64 (x28_2 + 1))) else (none)))) else (none)) = some (r1, r2) := yH
          have Ny161 := ak hy_; clear hy_; replace H := ifS H; obtain ⟨c45, H⟩ := H; have LMc45 := Aside0.mk c45; clear c45
          obtain ⟨y164, hy_⟩ : ∃ y_ : List ByteArray, y_ = (y161 ++ [(rdOf ByteArray.empty (rd_L2 l0_3 a1) x28_2)]) := ⟨_, rfl⟩
          replace H : ((some (x6_2.drop (x9_3 : Int).toNat : List ByteArray)).bind fun y167 => (if y164.length + y167.length < 8796093022208 then (spec_InboxOf.l0 k3 (y164 ++ y167) (rd_L2 l0_3 a1) ((rd_L2 l0_3 a1).length : Int) (wrap64 (x28_2 + 1))) else (none))) = some (r1, r2) := yH
          have Ny164 := ak hy_; clear hy_
          have c46b0 := eq_true (da : 0 ≤ x9_3)
          have c47b0 := eq_true (da : x9_3 ≤ (x6_2.length : Int))
          obtain ⟨y167, hy_⟩ : ∃ y_ : List ByteArray, y_ = (x6_2.drop (x9_3 : Int).toNat) := ⟨_, rfl⟩
          replace H : (if y164.length + y167.length < 8796093022208 then (spec_InboxOf.l0 k3 (y164 ++ y167) (rd_L2 l0_3 a1) ((rd_L2 l0_3 a1).length : Int) (wrap64 (x28_2 + 1))) else (none)) = some (r1, r2) := yH
          have Ny167 := ak hy_; clear hy_; replace H := ifS H; obtain ⟨c48, H⟩ := H; have LMc48 := Aside0.mk c48; clear c48
          obtain ⟨y171, hy_⟩ : ∃ y_ : List ByteArray, y_ = (y164 ++ y167) := ⟨_, rfl⟩
          replace H : (spec_InboxOf.l0 k3 y171 (rd_L2 l0_3 a1) ((rd_L2 l0_3 a1).length : Int) (wrap64 (x28_2 + 1))) = some (r1, r2) := yH
          have Ny171 := ak hy_; clear hy_
          have H' := Aside0.mk H
          clear H
          obtain ⟨Ao49, co49, eo49⟩ := Kd.R_slice HO_6.out
          subst eo49
          go_wp2_with (first | ((with_reducible refine gate_dst (N := 48) rfl ?_); refine Kd.R_lit Kd.string _ 9 ?hg (N := 48) ?hd (xs := ([] : List ByteArray)) (inner := []) (ok := fun _ => True) (okp := fun _ => True) ?hr ?hp (fun _ hk => hk) trivial (Below.refl _ _) (Nat.le_refl _) (by simp) ?_; (case hd => rfl); (case hg => rfl); (case hr => first | (go_simp; done) | (go_simp; rfl)); (case hp => exact (Reps.none _ _)); intro v155 w50 ho51 hb hg_ hnew_; clear hg_ hnew_; (first | rw [← Ny154.out] at ho51 | (simp only [Int.reduceToNat] at ho51; rw [← Ny154.out] at ho51)); have HO156 := ak (Kd.R_lower (Kd.R_new' ho51 (Kd.R_lt (rdl HO_6))) (below_size (belowg1 HB GE128))); replace HO_6 := ak (Kd.R_elder' (rdl HO_6) (Kd.R_base ho51) hb); replace BK128 := ak (blk_below (blkd BK128) hb); replace HB := ak (below_step (belowg1 HB GE128) hb); clear hb ho51; have q52 : (x9_3 : Int) ≤ ((x6_2.length : Int) : Int) := da; obtain ⟨i052, hi052, _, hsz52, _⟩ := info_parts info9; have hroom52 : x6_2.length ≤ co49 := (Kd.R_reads' HO_6.out).2.1; have hC52 : Kd.C Kd.string _ Ao49 x6_2.length x6_2 := (Kd.R_reads' HO_6.out).2.2; have hcut52 := cut_to (P := Try.prog) 27 9 .i64 Try.underlying27 hi052 Ao49 x6_2.length co49 x9_3 (da) q52 hroom52; have hr52 := Kd.C_take (m := (x9_3 : Int).toNat) hC52 (by omega); have hy52 : y157.length = (x9_3 : Int).toNat := (by rw [Ny157.out, List.length_take]; omega); rw [← Ny157.out] at hr52; rw [← hy52] at hcut52; have HR160 := Aside0.mk hr52; have HC160 := Aside0.mk (show y157.length ≤ co49 from by omega); clear hr52 hC52 hroom52 hi052 hsz52; have KY52 := Aside0.mk hy52; clear hy52; have KL52 := Aside0.mk (show (x9_3 : Int).toNat ≤ x6_2.length from by omega); replace q52 := eq_true q52) | ((with_reducible refine gate_builtin (b := .append) (xs := #[.tmp 48, .tmp 51]) rfl ?_); at_builtin; refine Kd.R_append_rows Kd.string (w0 := w) w.heap.size rfl (.tmp 48) (.tmp 51) 27 9 (.string ⟨#[]⟩) 16 rfl Try.underlying27 info9 rfl (by decide) (by omega) v155 y154 y157 _ _ _ (fun k_ => some k_ ≠ (.slice Ao49 x6_2.length co49 : Value).ownBlock) (fun _ => False) rfl rfl ?aO ?aR (fun _ _ h => h) (fun _ h => h.elim) ?aF ?aB ?aS ?aL ?_; (case aR => exact cd (by repeat (first | (with_reducible exact HR160.out) | (with_reducible refine Kd.C_alloc ?_ _) | (with_reducible refine Kd.C_drewN ?_ _) | (with_reducible refine Kd.C_drew ?_) | exact HR160.out))); (case aB => exact (belowg1 HB GE128)); (case aF => exact (fun k_ hk => Kd.fresh' (Kd.R_lt (rdl HO_6)) k_ hk)); (case aO => exact (by (with_reducible repeat (first | apply Kd.R_alloc | apply Kd.R_drewN | apply Kd.R_drew)); exact Kd.R_mono HO156.out (fun _ hk => hk.2))); (case aS => exact (below_size (belowg1 HB GE128))); (case aL => have := LMc44.out; omega); intro v162 w53 ho hb hg hat; rw [← Ny161.out] at ho; replace BK128 := ak (blk_grown (blkd BK128) hg (Kd.R_ne HO156.out BK128.out (by decide))); replace HB := ak (hb); replace HR160 := ak ((show Kd.C Kd.string w53 Ao49 y157.length y157 from by rw [Ny157.out]; exact Kd.C_take (m := (x9_3 : Int).toNat) ((Kd.R_reads' (Kd.R_after (ok := (fun _ => True)) (rdl HO_6) hg hat)).2.2) KL52.out)); replace HO_6 := ak (Kd.R_after (ok := (fun _ => True)) (rdl HO_6) hg hat); have HO163 := ak (ho); clear HO156; clear ho hb hg hat) | ((with_reducible refine gate_builtin (b := .append) (xs := #[.tmp 53, .tmp 55]) rfl ?_); at_builtin; refine Kd.R_append Kd.string (w0 := w) w.heap.size rfl (.tmp 53) (.tmp 55) 27 9 (.string ⟨#[]⟩) 16 rfl Try.underlying27 info9 rfl (by decide) (by omega) v162 y161 (rdOf ByteArray.empty (rd_L2 l0_3 a1) x28_2) [.string (rdOf ByteArray.empty (rd_L2 l0_3 a1) x28_2)] (fun k_ => some k_ ≠ (.slice Ao49 x6_2.length co49 : Value).ownBlock) (fun _ => False) rfl rfl ?aP (fun _ hk => hk.elim) ?aF ?aO ?aB ?aS ?aL ?_; (case aP => exact rfl); (case aB => exact (belowg1 HB GE128)); (case aF => exact (fun k_ hk => Kd.fresh' (Kd.R_lt (rdl HO_6)) k_ hk)); (case aO => exact (rdl HO163)); (case aS => exact (below_size (belowg1 HB GE128))); (case aL => have := LMc45.out; omega); intro v165 w54 ho hb hg hat; rw [← Ny164.out] at ho; replace BK128 := ak (blk_grown (blkd BK128) hg (Kd.R_ne HO163.out BK128.out (by decide))); replace HB := ak (hb); replace HR160 := ak ((show Kd.C Kd.string w54 Ao49 y157.length y157 from by rw [Ny157.out]; exact Kd.C_take (m := (x9_3 : Int).toNat) ((Kd.R_reads' (Kd.R_after (ok := (fun _ => True)) (rdl HO_6) hg hat)).2.2) KL52.out)); replace HO_6 := ak (Kd.R_after (ok := (fun _ => True)) (rdl HO_6) hg hat); have HO166 := ak (ho); clear HO163; clear ho hb hg hat; have q55 : (x9_3 : Int) ≤ ((x6_2.length : Int) : Int) := da; obtain ⟨i055, hi055, _, hsz55, _⟩ := info_parts info9; have hroom55 : x6_2.length ≤ co49 := (Kd.R_reads' HO_6.out).2.1; have hC55 : Kd.C Kd.string _ Ao49 x6_2.length x6_2 := (Kd.R_reads' HO_6.out).2.2; have q055 : (0 : Int) ≤ (x9_3 : Int) := da; have hcut55 := cut_from (P := Try.prog) 27 9 .i64 Try.underlying27 hi055 1 hsz55 Ao49 x6_2.length co49 x9_3 q055 q55; have hr55 := Kd.C_drop (m := (x9_3 : Int).toNat) (c := co49) hC55 (by omega) hroom55; obtain ⟨A55, hA55⟩ : ∃ A1, A1 = (if co49 = (x9_3 : Int).toNat then Ao49 else (Ao49 : Option Addr).map (·.add ((x9_3 : Int).toNat * 1))) := ⟨_, rfl⟩; obtain ⟨c55, hc55⟩ : ∃ c1, c1 = co49 - (x9_3 : Int).toNat := ⟨_, rfl⟩; have hy55 : y167.length = x6_2.length - (x9_3 : Int).toNat := (by rw [Ny167.out, List.length_drop] <;> omega); rw [show (x6_2).drop (x9_3 : Int).toNat = y167 from Ny167.out.symm] at hr55; replace hr55 : Kd.C Kd.string _ A55 y167.length y167 := (by rw [hA55]; exact hr55); rw [← hy55, ← hA55, ← hc55] at hcut55; have HR170 := Aside0.mk hr55; have HC170 := Aside0.mk (show y167.length ≤ c55 from by rw [hy55, hc55]; exact Nat.sub_le_sub_right hroom55 _); clear hr55 hC55 hroom55 hi055 hsz55 hc55; have KY55 := Aside0.mk hy55; have KA55 := Aside0.mk hA55; clear hy55 hA55; have KL55 := Aside0.mk (show (x9_3 : Int).toNat ≤ x6_2.length from by omega); replace q55 := eq_true q55) | ((with_reducible refine gate_builtin (b := .append) (xs := #[.tmp 57, .tmp 60]) rfl ?_); at_builtin; refine Kd.R_append_rows Kd.string (w0 := w) w.heap.size rfl (.tmp 57) (.tmp 60) 27 9 (.string ⟨#[]⟩) 16 rfl Try.underlying27 info9 rfl (by decide) (by omega) v165 y164 y167 _ _ _ (fun k_ => some k_ ≠ (.slice Ao49 x6_2.length co49 : Value).ownBlock) (fun _ => False) rfl rfl ?aO ?aR (fun _ _ h => h) (fun _ h => h.elim) ?aF ?aB ?aS ?aL ?_; (case aR => exact cd (by repeat (first | (with_reducible exact HR170.out) | (with_reducible refine Kd.C_alloc ?_ _) | (with_reducible refine Kd.C_drewN ?_ _) | (with_reducible refine Kd.C_drew ?_) | exact HR170.out))); (case aB => exact (belowg1 HB GE128)); (case aF => exact (fun k_ hk => Kd.fresh' (Kd.R_lt (rdl HO_6)) k_ hk)); (case aO => exact (rdl HO166)); (case aS => exact (below_size (belowg1 HB GE128))); (case aL => have := LMc48.out; omega); intro v172 w56 ho hb hg hat; rw [← Ny171.out] at ho; replace BK128 := ak (blk_grown (blkd BK128) hg (Kd.R_ne HO166.out BK128.out (by decide))); replace HB := ak (hb); replace HR160 := ak ((show Kd.C Kd.string w56 Ao49 y157.length y157 from by rw [Ny157.out]; exact Kd.C_take (m := (x9_3 : Int).toNat) ((Kd.R_reads' (Kd.R_after (ok := (fun _ => True)) (rdl HO_6) hg hat)).2.2) KL52.out)); replace HR170 := ak ((show Kd.C Kd.string w56 A55 y167.length y167 from by rw [Ny167.out, KA55.out]; exact Kd.C_drop (m := (x9_3 : Int).toNat) (c := co49) ((Kd.R_reads' (Kd.R_after (ok := (fun _ => True)) (rdl HO_6) hg hat)).2.2) KL55.out ((Kd.R_reads' (Kd.R_after (ok := (fun _ => True)) (rdl HO_6) hg hat)).2.1))); replace HO_6 := ak (Kd.R_after (ok := (fun _ => True)) (rdl HO_6) hg hat); have HO173 := ak (ho); clear HO166; clear ho hb hg hat))
          repeat (go_quiet (first | ((with_reducible refine gate_dst (N := 48) rfl ?_); refine Kd.R_lit Kd.string _ 9 ?hg (N := 48) ?hd (xs := ([] : List ByteArray)) (inner := []) (ok := fun _ => True) (okp := fun _ => True) ?hr ?hp (fun _ hk => hk) trivial (Below.refl _ _) (Nat.le_refl _) (by simp) ?_; (case hd => rfl); (case hg => rfl); (case hr => first | (go_simp; done) | (go_simp; rfl)); (case hp => exact (Reps.none _ _)); intro v155 w50 ho51 hb hg_ hnew_; clear hg_ hnew_; (first | rw [← Ny154.out] at ho51 | (simp only [Int.reduceToNat] at ho51; rw [← Ny154.out] at ho51)); have HO156 := ak (Kd.R_lower (Kd.R_new' ho51 (Kd.R_lt (rdl HO_6))) (below_size (belowg1 HB GE128))); replace HO_6 := ak (Kd.R_elder' (rdl HO_6) (Kd.R_base ho51) hb); replace BK128 := ak (blk_below (blkd BK128) hb); replace HB := ak (below_step (belowg1 HB GE128) hb); clear hb ho51; have q52 : (x9_3 : Int) ≤ ((x6_2.length : Int) : Int) := da; obtain ⟨i052, hi052, _, hsz52, _⟩ := info_parts info9; have hroom52 : x6_2.length ≤ co49 := (Kd.R_reads' HO_6.out).2.1; have hC52 : Kd.C Kd.string _ Ao49 x6_2.length x6_2 := (Kd.R_reads' HO_6.out).2.2; have hcut52 := cut_to (P := Try.prog) 27 9 .i64 Try.underlying27 hi052 Ao49 x6_2.length co49 x9_3 (da) q52 hroom52; have hr52 := Kd.C_take (m := (x9_3 : Int).toNat) hC52 (by omega); have hy52 : y157.length = (x9_3 : Int).toNat := (by rw [Ny157.out, List.length_take]; omega); rw [← Ny157.out] at hr52; rw [← hy52] at hcut52; have HR160 := Aside0.mk hr52; have HC160 := Aside0.mk (show y157.length ≤ co49 from by omega); clear hr52 hC52 hroom52 hi052 hsz52; have KY52 := Aside0.mk hy52; clear hy52; have KL52 := Aside0.mk (show (x9_3 : Int).toNat ≤ x6_2.length from by omega); replace q52 := eq_true q52) | ((with_reducible refine gate_builtin (b := .append) (xs := #[.tmp 48, .tmp 51]) rfl ?_); at_builtin; refine Kd.R_append_rows Kd.string (w0 := w) w.heap.size rfl (.tmp 48) (.tmp 51) 27 9 (.string ⟨#[]⟩) 16 rfl Try.underlying27 info9 rfl (by decide) (by omega) v155 y154 y157 _ _ _ (fun k_ => some k_ ≠ (.slice Ao49 x6_2.length co49 : Value).ownBlock) (fun _ => False) rfl rfl ?aO ?aR (fun _ _ h => h) (fun _ h => h.elim) ?aF ?aB ?aS ?aL ?_; (case aR => exact cd (by repeat (first | (with_reducible exact HR160.out) | (with_reducible refine Kd.C_alloc ?_ _) | (with_reducible refine Kd.C_drewN ?_ _) | (with_reducible refine Kd.C_drew ?_) | exact HR160.out))); (case aB => exact (belowg1 HB GE128)); (case aF => exact (fun k_ hk => Kd.fresh' (Kd.R_lt (rdl HO_6)) k_ hk)); (case aO => exact (by (with_reducible repeat (first | apply Kd.R_alloc | apply Kd.R_drewN | apply Kd.R_drew)); exact Kd.R_mono HO156.out (fun _ hk => hk.2))); (case aS => exact (below_size (belowg1 HB GE128))); (case aL => have := LMc44.out; omega); intro v162 w53 ho hb hg hat; rw [← Ny161.out] at ho; replace BK128 := ak (blk_grown (blkd BK128) hg (Kd.R_ne HO156.out BK128.out (by decide))); replace HB := ak (hb); replace HR160 := ak ((show Kd.C Kd.string w53 Ao49 y157.length y157 from by rw [Ny157.out]; exact Kd.C_take (m := (x9_3 : Int).toNat) ((Kd.R_reads' (Kd.R_after (ok := (fun _ => True)) (rdl HO_6) hg hat)).2.2) KL52.out)); replace HO_6 := ak (Kd.R_after (ok := (fun _ => True)) (rdl HO_6) hg hat); have HO163 := ak (ho); clear HO156; clear ho hb hg hat) | ((with_reducible refine gate_builtin (b := .append) (xs := #[.tmp 53, .tmp 55]) rfl ?_); at_builtin; refine Kd.R_append Kd.string (w0 := w) w.heap.size rfl (.tmp 53) (.tmp 55) 27 9 (.string ⟨#[]⟩) 16 rfl Try.underlying27 info9 rfl (by decide) (by omega) v162 y161 (rdOf ByteArray.empty (rd_L2 l0_3 a1) x28_2) [.string (rdOf ByteArray.empty (rd_L2 l0_3 a1) x28_2)] (fun k_ => some k_ ≠ (.slice Ao49 x6_2.length co49 : Value).ownBlock) (fun _ => False) rfl rfl ?aP (fun _ hk => hk.elim) ?aF ?aO ?aB ?aS ?aL ?_; (case aP => exact rfl); (case aB => exact (belowg1 HB GE128)); (case aF => exact (fun k_ hk => Kd.fresh' (Kd.R_lt (rdl HO_6)) k_ hk)); (case aO => exact (rdl HO163)); (case aS => exact (below_size (belowg1 HB GE128))); (case aL => have := LMc45.out; omega); intro v165 w54 ho hb hg hat; rw [← Ny164.out] at ho; replace BK128 := ak (blk_grown (blkd BK128) hg (Kd.R_ne HO163.out BK128.out (by decide))); replace HB := ak (hb); replace HR160 := ak ((show Kd.C Kd.string w54 Ao49 y157.length y157 from by rw [Ny157.out]; exact Kd.C_take (m := (x9_3 : Int).toNat) ((Kd.R_reads' (Kd.R_after (ok := (fun _ => True)) (rdl HO_6) hg hat)).2.2) KL52.out)); replace HO_6 := ak (Kd.R_after (ok := (fun _ => True)) (rdl HO_6) hg hat); have HO166 := ak (ho); clear HO163; clear ho hb hg hat; have q55 : (x9_3 : Int) ≤ ((x6_2.length : Int) : Int) := da; obtain ⟨i055, hi055, _, hsz55, _⟩ := info_parts info9; have hroom55 : x6_2.length ≤ co49 := (Kd.R_reads' HO_6.out).2.1; have hC55 : Kd.C Kd.string _ Ao49 x6_2.length x6_2 := (Kd.R_reads' HO_6.out).2.2; have q055 : (0 : Int) ≤ (x9_3 : Int) := da; have hcut55 := cut_from (P := Try.prog) 27 9 .i64 Try.underlying27 hi055 1 hsz55 Ao49 x6_2.length co49 x9_3 q055 q55; have hr55 := Kd.C_drop (m := (x9_3 : Int).toNat) (c := co49) hC55 (by omega) hroom55; obtain ⟨A55, hA55⟩ : ∃ A1, A1 = (if co49 = (x9_3 : Int).toNat then Ao49 else (Ao49 : Option Addr).map (·.add ((x9_3 : Int).toNat * 1))) := ⟨_, rfl⟩; obtain ⟨c55, hc55⟩ : ∃ c1, c1 = co49 - (x9_3 : Int).toNat := ⟨_, rfl⟩; have hy55 : y167.length = x6_2.length - (x9_3 : Int).toNat := (by rw [Ny167.out, List.length_drop] <;> omega); rw [show (x6_2).drop (x9_3 : Int).toNat = y167 from Ny167.out.symm] at hr55; replace hr55 : Kd.C Kd.string _ A55 y167.length y167 := (by rw [hA55]; exact hr55); rw [← hy55, ← hA55, ← hc55] at hcut55; have HR170 := Aside0.mk hr55; have HC170 := Aside0.mk (show y167.length ≤ c55 from by rw [hy55, hc55]; exact Nat.sub_le_sub_right hroom55 _); clear hr55 hC55 hroom55 hi055 hsz55 hc55; have KY55 := Aside0.mk hy55; have KA55 := Aside0.mk hA55; clear hy55 hA55; have KL55 := Aside0.mk (show (x9_3 : Int).toNat ≤ x6_2.length from by omega); replace q55 := eq_true q55) | ((with_reducible refine gate_builtin (b := .append) (xs := #[.tmp 57, .tmp 60]) rfl ?_); at_builtin; refine Kd.R_append_rows Kd.string (w0 := w) w.heap.size rfl (.tmp 57) (.tmp 60) 27 9 (.string ⟨#[]⟩) 16 rfl Try.underlying27 info9 rfl (by decide) (by omega) v165 y164 y167 _ _ _ (fun k_ => some k_ ≠ (.slice Ao49 x6_2.length co49 : Value).ownBlock) (fun _ => False) rfl rfl ?aO ?aR (fun _ _ h => h) (fun _ h => h.elim) ?aF ?aB ?aS ?aL ?_; (case aR => exact cd (by repeat (first | (with_reducible exact HR170.out) | (with_reducible refine Kd.C_alloc ?_ _) | (with_reducible refine Kd.C_drewN ?_ _) | (with_reducible refine Kd.C_drew ?_) | exact HR170.out))); (case aB => exact (belowg1 HB GE128)); (case aF => exact (fun k_ hk => Kd.fresh' (Kd.R_lt (rdl HO_6)) k_ hk)); (case aO => exact (rdl HO166)); (case aS => exact (below_size (belowg1 HB GE128))); (case aL => have := LMc48.out; omega); intro v172 w56 ho hb hg hat; rw [← Ny171.out] at ho; replace BK128 := ak (blk_grown (blkd BK128) hg (Kd.R_ne HO166.out BK128.out (by decide))); replace HB := ak (hb); replace HR160 := ak ((show Kd.C Kd.string w56 Ao49 y157.length y157 from by rw [Ny157.out]; exact Kd.C_take (m := (x9_3 : Int).toNat) ((Kd.R_reads' (Kd.R_after (ok := (fun _ => True)) (rdl HO_6) hg hat)).2.2) KL52.out)); replace HR170 := ak ((show Kd.C Kd.string w56 A55 y167.length y167 from by rw [Ny167.out, KA55.out]; exact Kd.C_drop (m := (x9_3 : Int).toNat) (c := co49) ((Kd.R_reads' (Kd.R_after (ok := (fun _ => True)) (rdl HO_6) hg hat)).2.2) KL55.out ((Kd.R_reads' (Kd.R_after (ok := (fun _ => True)) (rdl HO_6) hg hat)).2.1))); replace HO_6 := ak (Kd.R_after (ok := (fun _ => True)) (rdl HO_6) hg hat); have HO173 := ak (ho); clear HO166; clear ho hb hg hat)); try go_wp2_with (first | ((with_reducible refine gate_dst (N := 48) rfl ?_); refine Kd.R_lit Kd.string _ 9 ?hg (N := 48) ?hd (xs := ([] : List ByteArray)) (inner := []) (ok := fun _ => True) (okp := fun _ => True) ?hr ?hp (fun _ hk => hk) trivial (Below.refl _ _) (Nat.le_refl _) (by simp) ?_; (case hd => rfl); (case hg => rfl); (case hr => first | (go_simp; done) | (go_simp; rfl)); (case hp => exact (Reps.none _ _)); intro v155 w50 ho51 hb hg_ hnew_; clear hg_ hnew_; (first | rw [← Ny154.out] at ho51 | (simp only [Int.reduceToNat] at ho51; rw [← Ny154.out] at ho51)); have HO156 := ak (Kd.R_lower (Kd.R_new' ho51 (Kd.R_lt (rdl HO_6))) (below_size (belowg1 HB GE128))); replace HO_6 := ak (Kd.R_elder' (rdl HO_6) (Kd.R_base ho51) hb); replace BK128 := ak (blk_below (blkd BK128) hb); replace HB := ak (below_step (belowg1 HB GE128) hb); clear hb ho51; have q52 : (x9_3 : Int) ≤ ((x6_2.length : Int) : Int) := da; obtain ⟨i052, hi052, _, hsz52, _⟩ := info_parts info9; have hroom52 : x6_2.length ≤ co49 := (Kd.R_reads' HO_6.out).2.1; have hC52 : Kd.C Kd.string _ Ao49 x6_2.length x6_2 := (Kd.R_reads' HO_6.out).2.2; have hcut52 := cut_to (P := Try.prog) 27 9 .i64 Try.underlying27 hi052 Ao49 x6_2.length co49 x9_3 (da) q52 hroom52; have hr52 := Kd.C_take (m := (x9_3 : Int).toNat) hC52 (by omega); have hy52 : y157.length = (x9_3 : Int).toNat := (by rw [Ny157.out, List.length_take]; omega); rw [← Ny157.out] at hr52; rw [← hy52] at hcut52; have HR160 := Aside0.mk hr52; have HC160 := Aside0.mk (show y157.length ≤ co49 from by omega); clear hr52 hC52 hroom52 hi052 hsz52; have KY52 := Aside0.mk hy52; clear hy52; have KL52 := Aside0.mk (show (x9_3 : Int).toNat ≤ x6_2.length from by omega); replace q52 := eq_true q52) | ((with_reducible refine gate_builtin (b := .append) (xs := #[.tmp 48, .tmp 51]) rfl ?_); at_builtin; refine Kd.R_append_rows Kd.string (w0 := w) w.heap.size rfl (.tmp 48) (.tmp 51) 27 9 (.string ⟨#[]⟩) 16 rfl Try.underlying27 info9 rfl (by decide) (by omega) v155 y154 y157 _ _ _ (fun k_ => some k_ ≠ (.slice Ao49 x6_2.length co49 : Value).ownBlock) (fun _ => False) rfl rfl ?aO ?aR (fun _ _ h => h) (fun _ h => h.elim) ?aF ?aB ?aS ?aL ?_; (case aR => exact cd (by repeat (first | (with_reducible exact HR160.out) | (with_reducible refine Kd.C_alloc ?_ _) | (with_reducible refine Kd.C_drewN ?_ _) | (with_reducible refine Kd.C_drew ?_) | exact HR160.out))); (case aB => exact (belowg1 HB GE128)); (case aF => exact (fun k_ hk => Kd.fresh' (Kd.R_lt (rdl HO_6)) k_ hk)); (case aO => exact (by (with_reducible repeat (first | apply Kd.R_alloc | apply Kd.R_drewN | apply Kd.R_drew)); exact Kd.R_mono HO156.out (fun _ hk => hk.2))); (case aS => exact (below_size (belowg1 HB GE128))); (case aL => have := LMc44.out; omega); intro v162 w53 ho hb hg hat; rw [← Ny161.out] at ho; replace BK128 := ak (blk_grown (blkd BK128) hg (Kd.R_ne HO156.out BK128.out (by decide))); replace HB := ak (hb); replace HR160 := ak ((show Kd.C Kd.string w53 Ao49 y157.length y157 from by rw [Ny157.out]; exact Kd.C_take (m := (x9_3 : Int).toNat) ((Kd.R_reads' (Kd.R_after (ok := (fun _ => True)) (rdl HO_6) hg hat)).2.2) KL52.out)); replace HO_6 := ak (Kd.R_after (ok := (fun _ => True)) (rdl HO_6) hg hat); have HO163 := ak (ho); clear HO156; clear ho hb hg hat) | ((with_reducible refine gate_builtin (b := .append) (xs := #[.tmp 53, .tmp 55]) rfl ?_); at_builtin; refine Kd.R_append Kd.string (w0 := w) w.heap.size rfl (.tmp 53) (.tmp 55) 27 9 (.string ⟨#[]⟩) 16 rfl Try.underlying27 info9 rfl (by decide) (by omega) v162 y161 (rdOf ByteArray.empty (rd_L2 l0_3 a1) x28_2) [.string (rdOf ByteArray.empty (rd_L2 l0_3 a1) x28_2)] (fun k_ => some k_ ≠ (.slice Ao49 x6_2.length co49 : Value).ownBlock) (fun _ => False) rfl rfl ?aP (fun _ hk => hk.elim) ?aF ?aO ?aB ?aS ?aL ?_; (case aP => exact rfl); (case aB => exact (belowg1 HB GE128)); (case aF => exact (fun k_ hk => Kd.fresh' (Kd.R_lt (rdl HO_6)) k_ hk)); (case aO => exact (rdl HO163)); (case aS => exact (below_size (belowg1 HB GE128))); (case aL => have := LMc45.out; omega); intro v165 w54 ho hb hg hat; rw [← Ny164.out] at ho; replace BK128 := ak (blk_grown (blkd BK128) hg (Kd.R_ne HO163.out BK128.out (by decide))); replace HB := ak (hb); replace HR160 := ak ((show Kd.C Kd.string w54 Ao49 y157.length y157 from by rw [Ny157.out]; exact Kd.C_take (m := (x9_3 : Int).toNat) ((Kd.R_reads' (Kd.R_after (ok := (fun _ => True)) (rdl HO_6) hg hat)).2.2) KL52.out)); replace HO_6 := ak (Kd.R_after (ok := (fun _ => True)) (rdl HO_6) hg hat); have HO166 := ak (ho); clear HO163; clear ho hb hg hat; have q55 : (x9_3 : Int) ≤ ((x6_2.length : Int) : Int) := da; obtain ⟨i055, hi055, _, hsz55, _⟩ := info_parts info9; have hroom55 : x6_2.length ≤ co49 := (Kd.R_reads' HO_6.out).2.1; have hC55 : Kd.C Kd.string _ Ao49 x6_2.length x6_2 := (Kd.R_reads' HO_6.out).2.2; have q055 : (0 : Int) ≤ (x9_3 : Int) := da; have hcut55 := cut_from (P := Try.prog) 27 9 .i64 Try.underlying27 hi055 1 hsz55 Ao49 x6_2.length co49 x9_3 q055 q55; have hr55 := Kd.C_drop (m := (x9_3 : Int).toNat) (c := co49) hC55 (by omega) hroom55; obtain ⟨A55, hA55⟩ : ∃ A1, A1 = (if co49 = (x9_3 : Int).toNat then Ao49 else (Ao49 : Option Addr).map (·.add ((x9_3 : Int).toNat * 1))) := ⟨_, rfl⟩; obtain ⟨c55, hc55⟩ : ∃ c1, c1 = co49 - (x9_3 : Int).toNat := ⟨_, rfl⟩; have hy55 : y167.length = x6_2.length - (x9_3 : Int).toNat := (by rw [Ny167.out, List.length_drop] <;> omega); rw [show (x6_2).drop (x9_3 : Int).toNat = y167 from Ny167.out.symm] at hr55; replace hr55 : Kd.C Kd.string _ A55 y167.length y167 := (by rw [hA55]; exact hr55); rw [← hy55, ← hA55, ← hc55] at hcut55; have HR170 := Aside0.mk hr55; have HC170 := Aside0.mk (show y167.length ≤ c55 from by rw [hy55, hc55]; exact Nat.sub_le_sub_right hroom55 _); clear hr55 hC55 hroom55 hi055 hsz55 hc55; have KY55 := Aside0.mk hy55; have KA55 := Aside0.mk hA55; clear hy55 hA55; have KL55 := Aside0.mk (show (x9_3 : Int).toNat ≤ x6_2.length from by omega); replace q55 := eq_true q55) | ((with_reducible refine gate_builtin (b := .append) (xs := #[.tmp 57, .tmp 60]) rfl ?_); at_builtin; refine Kd.R_append_rows Kd.string (w0 := w) w.heap.size rfl (.tmp 57) (.tmp 60) 27 9 (.string ⟨#[]⟩) 16 rfl Try.underlying27 info9 rfl (by decide) (by omega) v165 y164 y167 _ _ _ (fun k_ => some k_ ≠ (.slice Ao49 x6_2.length co49 : Value).ownBlock) (fun _ => False) rfl rfl ?aO ?aR (fun _ _ h => h) (fun _ h => h.elim) ?aF ?aB ?aS ?aL ?_; (case aR => exact cd (by repeat (first | (with_reducible exact HR170.out) | (with_reducible refine Kd.C_alloc ?_ _) | (with_reducible refine Kd.C_drewN ?_ _) | (with_reducible refine Kd.C_drew ?_) | exact HR170.out))); (case aB => exact (belowg1 HB GE128)); (case aF => exact (fun k_ hk => Kd.fresh' (Kd.R_lt (rdl HO_6)) k_ hk)); (case aO => exact (rdl HO166)); (case aS => exact (below_size (belowg1 HB GE128))); (case aL => have := LMc48.out; omega); intro v172 w56 ho hb hg hat; rw [← Ny171.out] at ho; replace BK128 := ak (blk_grown (blkd BK128) hg (Kd.R_ne HO166.out BK128.out (by decide))); replace HB := ak (hb); replace HR160 := ak ((show Kd.C Kd.string w56 Ao49 y157.length y157 from by rw [Ny157.out]; exact Kd.C_take (m := (x9_3 : Int).toNat) ((Kd.R_reads' (Kd.R_after (ok := (fun _ => True)) (rdl HO_6) hg hat)).2.2) KL52.out)); replace HR170 := ak ((show Kd.C Kd.string w56 A55 y167.length y167 from by rw [Ny167.out, KA55.out]; exact Kd.C_drop (m := (x9_3 : Int).toNat) (c := co49) ((Kd.R_reads' (Kd.R_after (ok := (fun _ => True)) (rdl HO_6) hg hat)).2.2) KL55.out ((Kd.R_reads' (Kd.R_after (ok := (fun _ => True)) (rdl HO_6) hg hat)).2.1))); replace HO_6 := ak (Kd.R_after (ok := (fun _ => True)) (rdl HO_6) hg hat); have HO173 := ak (ho); clear HO166; clear ho hb hg hat)))
          go_roundg k3
          case measure => have := HJ2.out; have := HK2.out; have := HK3.out; omega
          case rel => exact ⟨(y171), (wrap64 (x28_2 + 1)), er, H', ⟨by have := HJ2.out; have := HK2.out; have := HK3.out; omega⟩, ⟨by (with_reducible repeat (first | apply Kd.R_alloc | apply Kd.R_drewN | apply Kd.R_drew)); exact Kd.R_mono HO173.out (fun _ hk => trivial)⟩, ⟨blkd BK128⟩, ⟨belowg1 HB GE128⟩⟩
      ·rw [if_neg c16] at H
       have c16b0 : decide (x28_2 < ((rd_L2 l0_3 a1).length : Int)) = false := decide_eq_false c16
       clear c16
       have H' := Aside0.mk H
       clear H
       obtain ⟨Ao57, co57, eo57⟩ := Kd.R_slice HO_6.out
       subst eo57; go_wp2
       repeat (go_quiet (fail); try go_wp2)
       go_loopg [11, 65] k2 (fun kq v11 v65 w' => ∃ (x11_3 : List ByteArray) (x65_3 : Int), v65 = .int .i64 x65_3 ∧ Aside0 (spec_InboxOf.l2 kq x6_2 x11_3 (x6_2.length : Int) x65_3 = some (r1, r2)) ∧ Aside0 (kq ≤ k2) ∧ Aside0 (Kd.R Kd.string 9 w' w.heap.size (fun k_ => some k_ ≠ (v11 : Value).ownBlock) (.slice Ao57 x6_2.length co57) x6_2) ∧ Aside0 (Kd.R Kd.string 9 w' w.heap.size (fun k_ => some k_ ≠ ((.slice Ao57 x6_2.length co57) : Value).ownBlock) v11 x11_3) ∧ Aside0 (w'.heap[gb128]? = some (.cells #[(.slice A0_0 l0_0.length c0_0), (.slice A0_1 l0_1.length c0_1), (.slice A0_2 l0_2.length c0_2), (.slice (some ad131) l0_3.length c0_3), .int .i64 a0_4] 30 (0, 0))) ∧ Aside0 (Below w.heap.size w w'))
       case atStart => exact ⟨(([] : List ByteArray)), (0), er, H', ⟨Nat.le_refl _⟩, ⟨by (with_reducible repeat (first | apply Kd.R_alloc | apply Kd.R_drewN | apply Kd.R_drew)); exact Kd.R_mono HO_6.out (fun _ hk => (by simp [Value.ownBlock]))⟩, ⟨by first | exact Kd.R_nil _ _ _ _ _ | exact Kd.N_nil _ _ _ _ _ | exact Kd.V_nil _ _ _ _ _ | exact Kd.Q_nil _ _ _ _ _ | exact Kd.S_nil _ _ _ _ _⟩, ⟨blkd BK128⟩, ⟨belowg1 HB GE128⟩⟩
       case round =>
        clear H'
        (try clear c16b0)
        obtain ⟨x11_3, x65_3, rfl, HA, HK3, HO_6, HO_11, BK128, HB⟩ := hrel
        cases gk with
        | zero => exact absurd HA.out (by simp [spec_InboxOf.l2])
        | succ k3 =>
         have H := HA.out; clear HA
         simp only [spec_InboxOf.l2] at H
         by_cases c58 : x65_3 < (x6_2.length : Int)
         ·rw [if_pos c58] at H
          have c58b0 : decide (x65_3 < (x6_2.length : Int)) = true := decide_eq_true c58
          clear c58; replace H := ifS H; obtain ⟨c59, H⟩ := H; have c59b0 := decide_eq_true c59; clear c59; replace H := ifS H; obtain ⟨c60, H⟩ := H; have c60b0 := decide_eq_true c60; clear c60; replace H := ifS H; obtain ⟨c61, H⟩ := H; have c61b0 := eq_true c61
          have c61b1 : decide (1 ≤ ((rdOf ByteArray.empty x6_2 x65_3).size : Int)) = true := decide_eq_true c61
          clear c61; replace H := ifS H; obtain ⟨c62, H⟩ := H; have LMc62 := Aside0.mk c62; clear c62
          obtain ⟨y175, hy_⟩ : ∃ y_ : List ByteArray, y_ = (x11_3 ++ [(rdOf ByteArray.empty x6_2 x65_3).extract 1 (rdOf ByteArray.empty x6_2 x65_3).size]) := ⟨_, rfl⟩
          replace H : (spec_InboxOf.l2 k3 x6_2 y175 (x6_2.length : Int) (wrap64 (x65_3 + 1))) = some (r1, r2) := yH
          have Ny175 := ak hy_; clear hy_
          have H' := Aside0.mk H
          clear H
          have p174 : 0 ≤ (x65_3 : Int) := da
          have q174 : x65_3 < (x6_2.length : Int) := da
          obtain ⟨ad174, e174, hx174_0⟩ := Kd.at_string (Kd.R_reads' HO_6.out).2.2 x65_3 p174 q174
          cases e174
          replace p174 := eq_true p174; replace q174 := eq_true q174
          go_wp2_with (first | ((with_reducible refine gate_builtin (b := .append) (xs := #[.tmp 69, .tmp 72]) rfl ?_); at_builtin; refine Kd.R_append Kd.string (w0 := w) w.heap.size rfl (.tmp 69) (.tmp 72) 27 9 (.string ⟨#[]⟩) 16 rfl Try.underlying27 info9 rfl (by decide) (by omega) u11 x11_3 ((rdOf ByteArray.empty x6_2 x65_3).extract 1 (rdOf ByteArray.empty x6_2 x65_3).size) [.string ((rdOf ByteArray.empty x6_2 x65_3).extract 1 (rdOf ByteArray.empty x6_2 x65_3).size)] (fun k_ => some k_ ≠ (.slice (some ad174) x6_2.length co57 : Value).ownBlock) (fun _ => False) rfl rfl ?aP (fun _ hk => hk.elim) ?aF ?aO ?aB ?aS ?aL ?_; (case aP => exact rfl); (case aB => exact (belowg1 HB GE128)); (case aF => exact (fun k_ hk => Kd.fresh' (Kd.R_lt (rdl HO_6)) k_ hk)); (case aO => exact (rdl HO_11)); (case aS => exact (below_size (belowg1 HB GE128))); (case aL => have := LMc62.out; omega); intro v176 w63 ho hb hg hat; rw [← Ny175.out] at ho; replace HO_6 := ak (Kd.R_after (ok := (fun _ => True)) (by (with_reducible repeat (first | apply Kd.R_alloc | apply Kd.R_drewN | apply Kd.R_drew)); exact Kd.R_mono HO_6.out (fun _ hk => ⟨trivial, hk⟩)) hg hat); replace BK128 := ak (blk_grown (blkd BK128) hg (Kd.R_ne HO_11.out BK128.out (by decide))); replace HB := ak (hb); have HO177 := ak (ho); clear HO_11; clear ho hb hg hat))
          repeat (go_quiet (first | ((with_reducible refine gate_builtin (b := .append) (xs := #[.tmp 69, .tmp 72]) rfl ?_); at_builtin; refine Kd.R_append Kd.string (w0 := w) w.heap.size rfl (.tmp 69) (.tmp 72) 27 9 (.string ⟨#[]⟩) 16 rfl Try.underlying27 info9 rfl (by decide) (by omega) u11 x11_3 ((rdOf ByteArray.empty x6_2 x65_3).extract 1 (rdOf ByteArray.empty x6_2 x65_3).size) [.string ((rdOf ByteArray.empty x6_2 x65_3).extract 1 (rdOf ByteArray.empty x6_2 x65_3).size)] (fun k_ => some k_ ≠ (.slice (some ad174) x6_2.length co57 : Value).ownBlock) (fun _ => False) rfl rfl ?aP (fun _ hk => hk.elim) ?aF ?aO ?aB ?aS ?aL ?_; (case aP => exact rfl); (case aB => exact (belowg1 HB GE128)); (case aF => exact (fun k_ hk => Kd.fresh' (Kd.R_lt (rdl HO_6)) k_ hk)); (case aO => exact (rdl HO_11)); (case aS => exact (below_size (belowg1 HB GE128))); (case aL => have := LMc62.out; omega); intro v176 w63 ho hb hg hat; rw [← Ny175.out] at ho; replace HO_6 := ak (Kd.R_after (ok := (fun _ => True)) (by (with_reducible repeat (first | apply Kd.R_alloc | apply Kd.R_drewN | apply Kd.R_drew)); exact Kd.R_mono HO_6.out (fun _ hk => ⟨trivial, hk⟩)) hg hat); replace BK128 := ak (blk_grown (blkd BK128) hg (Kd.R_ne HO_11.out BK128.out (by decide))); replace HB := ak (hb); have HO177 := ak (ho); clear HO_11; clear ho hb hg hat)); try go_wp2_with (first | ((with_reducible refine gate_builtin (b := .append) (xs := #[.tmp 69, .tmp 72]) rfl ?_); at_builtin; refine Kd.R_append Kd.string (w0 := w) w.heap.size rfl (.tmp 69) (.tmp 72) 27 9 (.string ⟨#[]⟩) 16 rfl Try.underlying27 info9 rfl (by decide) (by omega) u11 x11_3 ((rdOf ByteArray.empty x6_2 x65_3).extract 1 (rdOf ByteArray.empty x6_2 x65_3).size) [.string ((rdOf ByteArray.empty x6_2 x65_3).extract 1 (rdOf ByteArray.empty x6_2 x65_3).size)] (fun k_ => some k_ ≠ (.slice (some ad174) x6_2.length co57 : Value).ownBlock) (fun _ => False) rfl rfl ?aP (fun _ hk => hk.elim) ?aF ?aO ?aB ?aS ?aL ?_; (case aP => exact rfl); (case aB => exact (belowg1 HB GE128)); (case aF => exact (fun k_ hk => Kd.fresh' (Kd.R_lt (rdl HO_6)) k_ hk)); (case aO => exact (rdl HO_11)); (case aS => exact (below_size (belowg1 HB GE128))); (case aL => have := LMc62.out; omega); intro v176 w63 ho hb hg hat; rw [← Ny175.out] at ho; replace HO_6 := ak (Kd.R_after (ok := (fun _ => True)) (by (with_reducible repeat (first | apply Kd.R_alloc | apply Kd.R_drewN | apply Kd.R_drew)); exact Kd.R_mono HO_6.out (fun _ hk => ⟨trivial, hk⟩)) hg hat); replace BK128 := ak (blk_grown (blkd BK128) hg (Kd.R_ne HO_11.out BK128.out (by decide))); replace HB := ak (hb); have HO177 := ak (ho); clear HO_11; clear ho hb hg hat)))
          go_roundg k3
          case measure => have := HJ2.out; have := HK2.out; have := HK3.out; omega
          case rel => exact ⟨(y175), (wrap64 (x65_3 + 1)), er, H', ⟨by have := HJ2.out; have := HK2.out; have := HK3.out; omega⟩, ⟨by (with_reducible repeat (first | apply Kd.R_alloc | apply Kd.R_drewN | apply Kd.R_drew)); exact Kd.R_mono HO_6.out (fun _ hk => hk.2)⟩, ⟨rdl HO177⟩, ⟨blkd BK128⟩, ⟨belowg1 HB GE128⟩⟩
         ·rw [if_neg c58] at H
          have c58b0 : decide (x65_3 < (x6_2.length : Int)) = false := decide_eq_false c58
          clear c58
          simp only [Option.some.injEq, Prod.mk.injEq] at H
          obtain ⟨rfl, rfl⟩ := H; go_wp2
          repeat (go_quiet (fail); try go_wp2)
          go_ret2
          exact ⟨_, er2, by (with_reducible repeat (first | apply Kd.R_alloc | apply Kd.R_drewN | apply Kd.R_drew)); exact Kd.R_mono HO_11.out (fun _ hk => trivial), belowg1 HB GE128⟩

/-! ### laws_toIntS: function 17 -/
def laws_toIntS.l0 : Nat → List Int → List Int → Int → Option (List Int)
  | 0, _, _, _ => none
  | k + 1, x0, x3, x4 => if x4 < (x0.length : Int) then (if 0 ≤ x4 then (if x4 < (x3.length : Int) then (laws_toIntS.l0 k x0 (x3.set (x4 : Int).toNat (rd x0 x4)) (wrap64 (x4 + 1))) else (none)) else (none)) else (some x3)
def laws_toIntS.f (k : Nat) (l0 : List Int) : Option (List Int) := if 0 ≤ (l0.length : Int) then (if ((l0.length : Int) : Int).toNat ≤ 35184372088832 then (laws_toIntS.l0 k l0 (List.replicate ((l0.length : Int) : Int).toNat 0) 0) else (none)) else (none)
theorem laws_toIntS.mono_l : ∀ k, (∀ y0 y1 y2, LeO (laws_toIntS.l0 k y0 y1 y2) (laws_toIntS.l0 (k + 1) y0 y1 y2))
 | 0 => fun _ _ _ r h => by simp [laws_toIntS.l0] at h
 | k + 1 => by
  have ih0 := laws_toIntS.mono_l k
  ·intro y0 y1 y2
   unfold laws_toIntS.l0
   repeat' (first | (with_reducible first | exact ih0 _ _ _ | exact LeO.refl _ | exact LeO.none _ | refine LeO.ite ?_ ?_ | refine LeO.bind ?_ (fun _ => ?_)) | exact ih0 _ _ _ | exact LeO.none _ | refine LeO.ite ?_ ?_ | refine LeO.bind ?_ (fun _ => ?_))
theorem laws_toIntS.mono : ∀ a0 k, LeO (laws_toIntS.f k a0) (laws_toIntS.f (k + 1) a0) := by
 intro a0 k
 have ih0 := laws_toIntS.mono_l k
 unfold laws_toIntS.f
 repeat' (first | (with_reducible first | exact ih0 _ _ _ | exact LeO.refl _ | exact LeO.none _ | refine LeO.ite ?_ ?_ | refine LeO.bind ?_ (fun _ => ?_)) | exact ih0 _ _ _ | exact LeO.none _ | refine LeO.ite ?_ ?_ | refine LeO.bind ?_ (fun _ => ?_))
set_option maxHeartbeats 8000000 in
set_option maxRecDepth 100000 in
theorem laws_toIntS.calls (k : Nat) (A0 : Option Addr) (c0 : Nat) (l0 : List Int) (r : List Int) (w : World) (hr0 : Kd.C (Kd.int .i64) w A0 l0.length l0) (hc0 : l0.length ≤ c0) (h : laws_toIntS.f k l0 = some r) :
  Calls Try.prog 17 #[.slice A0 l0.length c0] w fun e w' => ∃ v0_ : Value, e = .returned (v0_) ∧ Kd.R (Kd.int .i64) 3 w' w.heap.size (fun _ => True) v0_ r ∧ Below w.heap.size w w' := by
 have HR0 := Aside0.mk hr0; have HC0 := Aside0.mk hc0; clear hr0 hc0
 have HB := Aside0.mk (Below.refl w.heap.size w)
 have H : (if 0 ≤ (l0.length : Int) then (if ((l0.length : Int) : Int).toNat ≤ 35184372088832 then (laws_toIntS.l0 k l0 (List.replicate ((l0.length : Int) : Int).toNat 0) 0) else (none)) else (none)) = some r := h
 clear h; replace H := ifS H; obtain ⟨c2, H⟩ := H; have c2b0 := eq_true c2
 have c2b1 : decide (0 ≤ (l0.length : Int)) = true := decide_eq_true c2
 clear c2; replace H := ifS H; obtain ⟨c3, H⟩ := H; have c3b0 := eq_true c3
 have c3b1 : decide (((l0.length : Int) : Int).toNat ≤ 35184372088832) = true := decide_eq_true c3
 clear c3
 obtain ⟨y178, hy_⟩ : ∃ y_ : List Int, y_ = (List.replicate ((l0.length : Int) : Int).toNat 0) := ⟨_, rfl⟩
 replace H : (laws_toIntS.l0 k l0 y178 0) = some r := yH
 have Ny178 := ak hy_; clear hy_
 have H' := Aside0.mk H
 clear H
 go_enter Try.func17, Try.ntmps17
 go_wp2_with (first | ((with_reducible refine gate_dst (N := 7) rfl ?_); refine Kd.R_make (Kd.int .i64) _ 3 rfl (N := 7) rfl 22 _ _ rfl (l0.length : Int) rfl rfl Try.underlying22 (.int .i64 0) 8 info3 rfl (by decide) (by omega) 0 (ok := fun _ => True) (okp := fun _ => True) rfl (fun _ hk => hk) trivial (da) (Nat.le_trans (Nat.mul_le_mul_right _ (da : (l0.length : Int).toNat ≤ 35184372088832)) (by omega)) (Below.refl _ _) (Nat.le_refl _) ?_; intro v179 w4 ho5 hb hg_ hnew_; clear hg_ hnew_; (first | rw [← Ny178.out] at ho5 | (simp only [Int.reduceToNat] at ho5; rw [← Ny178.out] at ho5)); have HO180 := ak (Kd.R_lower ho5 (below_size (belowd HB))); replace HB := ak (below_step (belowd HB) hb); clear hb ho5))
 go_loopg [4] k (fun kq v4 w' => ∃ (x3_1 : List Int) (x4_1 : Int), v4 = .int .i64 x4_1 ∧ Aside0 (laws_toIntS.l0 kq l0 x3_1 x4_1 = some r) ∧ Aside0 (kq ≤ k) ∧ Aside0 (Kd.R (Kd.int .i64) 3 w' w.heap.size (fun _ => True) v179 x3_1) ∧ Aside0 (Below w.heap.size w w'))
 case atStart => exact ⟨(y178), (0), er, H', ⟨Nat.le_refl _⟩, ⟨rdl HO180⟩, ⟨belowd HB⟩⟩
 case round =>
  clear H'
  (try clear c2b0); (try clear c2b1); (try clear c3b0); (try clear c3b1)
  obtain ⟨x3_1, x4_1, rfl, HA, HK1, HO_3, HB⟩ := hrel
  cases gk with
  | zero => exact absurd HA.out (by simp [laws_toIntS.l0])
  | succ k1 =>
   have H := HA.out; clear HA
   simp only [laws_toIntS.l0] at H
   by_cases c6 : x4_1 < (l0.length : Int)
   ·rw [if_pos c6] at H
    have c6b0 : decide (x4_1 < (l0.length : Int)) = true := decide_eq_true c6
    clear c6; replace H := ifS H; obtain ⟨c7, H⟩ := H; have c7b0 := decide_eq_true c7; clear c7; replace H := ifS H; obtain ⟨c8, H⟩ := H; have c8b0 := decide_eq_true c8; clear c8
    obtain ⟨y182, hy_⟩ : ∃ y_ : List Int, y_ = (x3_1.set (x4_1 : Int).toNat (rd l0 x4_1)) := ⟨_, rfl⟩
    replace H : (laws_toIntS.l0 k1 l0 y182 (wrap64 (x4_1 + 1))) = some r := yH
    have Ny182 := ak hy_; clear hy_
    have H' := Aside0.mk H
    clear H
    have p181 : 0 ≤ (x4_1 : Int) := da
    have q181 : x4_1 < (l0.length : Int) := da
    obtain ⟨ad181, e181, hx181_0⟩ := Kd.at_int HR0.out x4_1 p181 q181
    cases e181
    replace hx181_0 := (HB.out.cell (World.block_lt_of_cell? w _ hx181_0)).trans hx181_0
    replace p181 := eq_true p181; replace q181 := eq_true q181
    have p9 : 0 ≤ (x4_1 : Int) := da
    have q9 : (x4_1 : Int) < ((x3_1.length : Int) : Int) := da
    obtain ⟨go9, co9, eo9, gb9, gl9, cl9, HG9⟩ := Kd.R_form HO_3.out (by omega)
    (first | cases eo9 | (injection eo9 with ea_ en_ ec_; (first | subst ea_ | (injection ea_ with ea_; subst ea_)); subst ec_; clear en_))
    have GB9 := Aside0.mk gb9; have GG9 := Aside0.mk HG9; clear gb9 gl9 HG9
    obtain ⟨hx9_0, hf9_0⟩ := Kd.R_celln 0 HO_3.out (x4_1 : Int) p9 q9
    replace p9 := eq_true p9; replace q9 := eq_true q9
    have HP10 := Kd.R_putg HO_3.out (x4_1 : Int) (rd l0 x4_1)
    go_wp2_with (first | ((with_reducible refine gate_store (t := 3) (p := 20) rfl ?_); refine store_event (t := 3) (p := 20) (v := ?vo_w11) (w1 := (wr.setCell ⟨go9, (x4_1 : Int).toNat, none⟩ (.int .i64 (rd l0 x4_1)))) ?hg ?ho ?hn ?hr ?_; (case ho => rfl); (case hg => rfl); (case hn => rfl); (case hr => first | (go_simp; done) | (go_simp; rfl)); intro w11 hw; have hg : wr.grownBy w11 (some go9) := (by rw [hw]; exact HP10.2); have hp_ : Kd.R (Kd.int .i64) 3 w11 w.heap.size (fun _ => True) (.slice (some ⟨go9, 0, none⟩) x3_1.length co9) y182 := (by rw [hw, Ny182.out]; exact HP10.1); clear HP10; replace HO_3 := ak (hp_); replace HB := ak ((by rw [hw]; exact below_set (HB.out) GB9.out : Below w.heap.size w w11)); clear hg hw hp_))
    go_roundg k1
    case measure => have := HK1.out; omega
    case rel => exact ⟨(y182), (wrap64 (x4_1 + 1)), er, H', ⟨by have := HK1.out; omega⟩, ⟨rdl HO_3⟩, ⟨belowd HB⟩⟩
   ·rw [if_neg c6] at H
    have c6b0 : decide (x4_1 < (l0.length : Int)) = false := decide_eq_false c6
    clear c6
    obtain rfl := Option.some.inj H
    go_wp2
    go_ret
    exact ⟨_, er2, by (with_reducible repeat (first | apply Kd.R_alloc | apply Kd.R_drewN | apply Kd.R_drew)); exact HO_3.out, belowd HB⟩

end Go.Proofs.Ytmhdjkbfghfajaa.QFnExactInboxOf
