-- printed by this session's own program (wip/tools/pp.py: the kit's print.py with changes); Lean checks it
import Derived.Test.YtkgogglnipdcfaaQFnScoresx0
import Derived.Test.YtkgogglnipdcfaaQFnScoresx5
import Derived.Test.YtkgogglnipdcfaaQFnScoresx6
import Derived.Test.YtkgogglnipdcfaaQFnScoresx7
namespace Go.Proofs.Ytkgogglnipdcfaa.QFnScores
open Go.RowKit Go.Proofs.YtkgogglnipdcfaaW.PrintWords Go.Proofs.YtkgogglnipdcfaaW.PrintLast Go.Proofs.YtkgogglnipdcfaaW.PrintMore
attribute [local go_sem] max2_int min2_int max_two min_two max_three min_three max_four min_four strLss strGtr strLeq strGeq   -- for this text's walks alone
set_option linter.unusedVariables false
set_option linter.unusedSimpArgs false

/-! ### slices_IndexFunc_208_at_159: function 208 -/
def slices_IndexFunc_208_at_159.l0 : Nat → List (S85) → Int → Int → Option (Int)
  | 0, _, _, _ => none
  | k + 1, x0, x7, x8 => if x8 < x7 then (if 0 ≤ x8 then (if x8 < (x0.length : Int) then ((impl_TallyOf_1.f ((rd_T85 x0 x8).f0) ((rd_T85 x0 x8).f1) ((rd_T85 x0 x8).f2)).bind fun t283 => (if t283 = true then (some x8) else (slices_IndexFunc_208_at_159.l0 k x0 x7 (wrap64 (x8 + 1))))) else (none)) else (none)) else (some (-1))
def slices_IndexFunc_208_at_159.f (k : Nat) (l0 : List (S85))  : Option (Int) := slices_IndexFunc_208_at_159.l0 k l0 (l0.length : Int) 0
theorem slices_IndexFunc_208_at_159.mono_l : ∀ k, (∀ y0 y1 y2, LeO (slices_IndexFunc_208_at_159.l0 k y0 y1 y2) (slices_IndexFunc_208_at_159.l0 (k + 1) y0 y1 y2))
 | 0 => fun _ _ _ r h => by simp [slices_IndexFunc_208_at_159.l0] at h
 | k + 1 => by
  have ih0 := slices_IndexFunc_208_at_159.mono_l k
  ·intro y0 y1 y2
   unfold slices_IndexFunc_208_at_159.l0
   repeat' (first | (with_reducible first | exact ih0 _ _ _ | exact LeO.refl _ | exact LeO.none _ | refine LeO.ite ?_ ?_ | refine LeO.bind ?_ (fun _ => ?_)) | exact ih0 _ _ _ | exact LeO.none _ | refine LeO.ite ?_ ?_ | refine LeO.bind ?_ (fun _ => ?_))
theorem slices_IndexFunc_208_at_159.mono : ∀ a0 k, LeO (slices_IndexFunc_208_at_159.f k a0) (slices_IndexFunc_208_at_159.f (k + 1) a0) := by
 intro a0 k
 have ih0 := slices_IndexFunc_208_at_159.mono_l k
 unfold slices_IndexFunc_208_at_159.f
 repeat' (first | (with_reducible first | exact ih0 _ _ _ | exact LeO.refl _ | exact LeO.none _ | refine LeO.ite ?_ ?_ | refine LeO.bind ?_ (fun _ => ?_)) | exact ih0 _ _ _ | exact LeO.none _ | refine LeO.ite ?_ ?_ | refine LeO.bind ?_ (fun _ => ?_))
set_option maxHeartbeats 8000000 in
set_option maxRecDepth 100000 in
theorem slices_IndexFunc_208_at_159.calls (k : Nat) (A0 : Option Addr) (c0 : Nat) (l0 : List (S85))  (r : Int) (w : World) (hr0 : Kd.C k85 w A0 l0.length l0) (hc0 : l0.length ≤ c0) (h : slices_IndexFunc_208_at_159.f k l0 = some r) :
  Calls Try.prog 208 #[.slice A0 l0.length c0, .func (.func 159) #[] #[]] w fun e w' => e = .returned (.int .i64 r) ∧ Below w.heap.size w w' := by
 have hu85 := Try.underlying85
 have HR0 := Aside0.mk hr0; have HC0 := Aside0.mk hc0; clear hr0 hc0
 have HB := Aside0.mk (Below.refl w.heap.size w)
 have H : (slices_IndexFunc_208_at_159.l0 k l0 (l0.length : Int) 0) = some r := h
 clear h
 have H' := Aside0.mk H
 clear H
 go_enter Try.func208, Try.ntmps208
 go_wp2
 go_loopg [8] k (fun kq v8 w' => ∃ (x8_1 : Int), v8 = .int .i64 x8_1 ∧ Aside0 (slices_IndexFunc_208_at_159.l0 kq l0 (l0.length : Int) x8_1 = some r) ∧ Aside0 (kq ≤ k) ∧ Aside0 (Below w.heap.size w w'))
 case atStart => exact ⟨(0), er, H', ⟨Nat.le_refl _⟩, ⟨belowd HB⟩⟩
 case round =>
  clear H'
  obtain ⟨x8_1, rfl, HA, HK1, HB⟩ := hrel
  cases gk with
  | zero => exact absurd HA.out (by simp [slices_IndexFunc_208_at_159.l0])
  | succ k1 =>
   have H := HA.out; clear HA
   simp only [slices_IndexFunc_208_at_159.l0] at H
   by_cases c3 : x8_1 < (l0.length : Int)
   ·rw [if_pos c3] at H
    have c3b0 : decide (x8_1 < (l0.length : Int)) = true := decide_eq_true c3
    clear c3; replace H := ifS H; obtain ⟨c4, H⟩ := H; have c4b0 := decide_eq_true c4; clear c4; replace H := ifS H; obtain ⟨c5, H⟩ := H; have c5b0 := decide_eq_true c5; clear c5; replace H := bS H; obtain ⟨t283, A6, H⟩ := H
    replace H : (if t283 = true then (some x8_1) else (slices_IndexFunc_208_at_159.l0 k1 l0 (l0.length : Int) (wrap64 (x8_1 + 1)))) = some r := H
    by_cases c7 : t283 = true
    ·subst c7
     have H1 : (some x8_1) = some r := by rw [if_pos rfl] at H; exact H
     clear H
     have H := H1
     clear H1
     obtain rfl := Option.some.inj H
     have p282 : 0 ≤ (x8_1 : Int) := da
     have q282 : x8_1 < (l0.length : Int) := da
     obtain ⟨ad282, e282, hx282_0, hx282_1, hx282_2⟩ := at_T85 HR0.out x8_1 p282 q282
     cases e282
     replace hx282_0 := (HB.out.cell (World.block_lt_of_cell? w _ hx282_0)).trans hx282_0
     replace hx282_1 := (HB.out.cell (World.block_lt_of_cell? w _ hx282_1)).trans hx282_1
     replace hx282_2 := (HB.out.cell (World.block_lt_of_cell? w _ hx282_2)).trans hx282_2
     replace p282 := eq_true p282; replace q282 := eq_true q282
     go_wp2_with (first | ((with_reducible refine gate_value (f := 159) rfl rfl ?_); refine goesV_ (some 16) rfl rfl Try.func159 (by kernel_rfl) rfl #[.agg #[.int .i64 ((rd_T85 l0 x8_1).f0), .int .i64 ((rd_T85 l0 x8_1).f1), .int .i64 ((rd_T85 l0 x8_1).f2)]] rfl rfl (by (try simp only [List.map_toArray, List.map_cons, List.map_nil]); first | done | rfl | (simp only [List.length_drop, List.length_take]; rfl)) ?_; (with_reducible refine (impl_TallyOf_1.calls ((rd_T85 l0 x8_1).f0) ((rd_T85 l0 x8_1).f1) ((rd_T85 l0 x8_1).f2) true _ A6.out).mono ?_); rintro e w8 ⟨rfl, hb⟩; refine ⟨_, rfl, ?_⟩; replace HB := ak (below_step (belowd HB) hb); (try clear hb)))
     go_ret
     exact ⟨er2, belowd HB⟩
    ·replace c7 := Bool.eq_false_iff.mpr c7
     subst c7
     have H1 : (slices_IndexFunc_208_at_159.l0 k1 l0 (l0.length : Int) (wrap64 (x8_1 + 1))) = some r := by rw [if_neg (show ¬ (false = true) by decide)] at H; exact H
     clear H
     have H := H1
     clear H1
     have H' := Aside0.mk H
     clear H
     have p282 : 0 ≤ (x8_1 : Int) := da
     have q282 : x8_1 < (l0.length : Int) := da
     obtain ⟨ad282, e282, hx282_0, hx282_1, hx282_2⟩ := at_T85 HR0.out x8_1 p282 q282
     cases e282
     replace hx282_0 := (HB.out.cell (World.block_lt_of_cell? w _ hx282_0)).trans hx282_0
     replace hx282_1 := (HB.out.cell (World.block_lt_of_cell? w _ hx282_1)).trans hx282_1
     replace hx282_2 := (HB.out.cell (World.block_lt_of_cell? w _ hx282_2)).trans hx282_2
     replace p282 := eq_true p282; replace q282 := eq_true q282
     go_wp2_with (first | ((with_reducible refine gate_value (f := 159) rfl rfl ?_); refine goesV_ (some 16) rfl rfl Try.func159 (by kernel_rfl) rfl #[.agg #[.int .i64 ((rd_T85 l0 x8_1).f0), .int .i64 ((rd_T85 l0 x8_1).f1), .int .i64 ((rd_T85 l0 x8_1).f2)]] rfl rfl (by (try simp only [List.map_toArray, List.map_cons, List.map_nil]); first | done | rfl | (simp only [List.length_drop, List.length_take]; rfl)) ?_; (with_reducible refine (impl_TallyOf_1.calls ((rd_T85 l0 x8_1).f0) ((rd_T85 l0 x8_1).f1) ((rd_T85 l0 x8_1).f2) false _ A6.out).mono ?_); rintro e w9 ⟨rfl, hb⟩; refine ⟨_, rfl, ?_⟩; replace HB := ak (below_step (belowd HB) hb); (try clear hb)))
     go_roundg k1
     case measure => have := HK1.out; omega
     case rel => exact ⟨(wrap64 (x8_1 + 1)), er, H', ⟨by have := HK1.out; omega⟩, ⟨belowd HB⟩⟩
   ·rw [if_neg c3] at H
    have c3b0 : decide (x8_1 < (l0.length : Int)) = false := decide_eq_false c3
    clear c3
    obtain rfl := Option.some.inj H
    go_wp2
    go_ret
    exact ⟨er2, belowd HB⟩

/-! ### slices_ContainsFunc_158_at_159: function 158 -/
def slices_ContainsFunc_158_at_159.f (k : Nat) (l0 : List (S85))  : Option (Bool) := (slices_IndexFunc_208_at_159.f k l0).bind fun t284 => (some (decide (t284 ≥ 0)))
theorem slices_ContainsFunc_158_at_159.mono : ∀ a0 k, LeO (slices_ContainsFunc_158_at_159.f k a0) (slices_ContainsFunc_158_at_159.f (k + 1) a0) := by
 intro a0 k
 unfold slices_ContainsFunc_158_at_159.f
 repeat' (first | (with_reducible first | exact slices_IndexFunc_208_at_159.mono _ _ | exact LeO.refl _ | exact LeO.none _ | refine LeO.ite ?_ ?_ | refine LeO.bind ?_ (fun _ => ?_)) | exact slices_IndexFunc_208_at_159.mono _ _ | exact LeO.none _ | refine LeO.ite ?_ ?_ | refine LeO.bind ?_ (fun _ => ?_))
set_option maxHeartbeats 8000000 in
set_option maxRecDepth 100000 in
theorem slices_ContainsFunc_158_at_159.calls (k : Nat) (A0 : Option Addr) (c0 : Nat) (l0 : List (S85))  (r : Bool) (w : World) (hr0 : Kd.C k85 w A0 l0.length l0) (hc0 : l0.length ≤ c0) (h : slices_ContainsFunc_158_at_159.f k l0 = some r) :
  Calls Try.prog 158 #[.slice A0 l0.length c0, .func (.func 159) #[] #[]] w fun e w' => e = .returned (.bool r) ∧ Below w.heap.size w w' := by
 have HR0 := Aside0.mk hr0; have HC0 := Aside0.mk hc0; clear hr0 hc0
 have HB := Aside0.mk (Below.refl w.heap.size w)
 have H : ((slices_IndexFunc_208_at_159.f k l0).bind fun t284 => (some (decide (t284 ≥ 0)))) = some r := h
 clear h; replace H := bS H; obtain ⟨t284, A3, H⟩ := H
 replace H : (some (decide (t284 ≥ 0))) = some r := H
 obtain rfl := Option.some.inj H
 go_enter Try.func158, Try.ntmps158
 go_wp2_with (first | ((with_reducible refine gate_callee (f := 208) rfl ?_); refine goesLa (some 7) rfl Try.func208 #[.slice A0 l0.length c0, .func (.func 159) #[] #[]] rfl ?_; (with_reducible refine (slices_IndexFunc_208_at_159.calls k _ _ l0  t284 _ ?side1 ?side2 A3.out).mono ?_); (case side1 => exact cd HR0.out); (case side2 => exact HC0.out); rintro e w4 ⟨rfl, hb⟩; refine ⟨_, rfl, ?_⟩; replace HB := ak (below_step (belowd HB) hb); (try clear hb)))
 go_ret
 exact ⟨er2, belowd HB⟩

/-! ### impl_TallyOf: function 71 -/
mutual
def impl_TallyOf.j0 : Nat → Int → Int → List (S85) → List (S91) → Bool → Option ((List (S110)) × Bool)
  | 0, _, _, _, _, _ => none
  | k + 1, x0, x1, x2, x3, x37 => if x37 = true then (some (([] : List (S110)), false)) else (impl_TallyOf.l0 k x1 x2 x3 (([] : List (S110))) x0 0)
def impl_TallyOf.l0 : Nat → Int → List (S85) → List (S91) → List (S110) → Int → Int → Option ((List (S110)) × Bool)
  | 0, _, _, _, _, _, _ => none
  | k + 1, x1, x2, x3, x10, x39, x40 => if x40 < x39 then ((impl_debits.f k x1 x3 x40).bind fun t292 => (impl_TallyOf.l1 k x1 x2 x3 x10 x40 t292 0 x39 x40 x2 (x2.length : Int) 0)) else (some (x10, true))
def impl_TallyOf.l1 : Nat → Int → List (S85) → List (S91) → List (S110) → Int → List (S85) → Int → Int → Int → List (S85) → Int → Int → Option ((List (S110)) × Bool)
  | 0, _, _, _, _, _, _, _, _, _, _, _, _ => none
  | k + 1, x1, x2, x3, x10, x11, x12, x13, x39, x40, x47, x48, x49 => if x49 < x48 then (if 0 ≤ x49 then (if x49 < (x47.length : Int) then (if ((rd_T85 x47 x49).f0) = x11 then (if x49 ≤ (x2.length : Int) then ((impl_Claim_160.f k (x2.take (x49 : Int).toNat) ((rd_T85 x47 x49).f0) ((rd_T85 x47 x49).f1) ((rd_T85 x47 x49).f2)).bind fun t304 => (if t304 = true then (impl_TallyOf.l1 k x1 x2 x3 x10 x11 x12 x13 x39 x40 x47 x48 (wrap64 (x49 + 1))) else ((impl_Claim_160.f k x12 ((rd_T85 x47 x49).f0) ((rd_T85 x47 x49).f1) ((rd_T85 x47 x49).f2)).bind fun t305 => (if t305 = true then (impl_TallyOf.l1 k x1 x2 x3 x10 x11 x12 x13 x39 x40 x47 x48 (wrap64 (x49 + 1))) else (impl_TallyOf.l1 k x1 x2 x3 x10 x11 x12 (wrap64 (x13 + 1)) x39 x40 x47 x48 (wrap64 (x49 + 1))))))) else (none)) else (impl_TallyOf.l1 k x1 x2 x3 x10 x11 x12 x13 x39 x40 x47 x48 (wrap64 (x49 + 1)))) else (none)) else (none)) else (if x10.length < 5864062014805 then (impl_TallyOf.l0 k x1 x2 x3 (x10 ++ [(⟨x11, x13, (x12.length : Int)⟩ : S110)]) x39 (wrap64 (x40 + 1))) else (none))
end
def impl_TallyOf.f (k : Nat) (a0 : Int) (a1 : Int) (l2 : List (S85)) (l3 : List (S91)) : Option ((List (S110)) × Bool) := (impl_within.f a0 1 12).bind fun t285 => (if t285 = true then ((impl_areFaults.f a1).bind fun t286 => (if t286 = true then (if (l2.length : Int) > 60 then (impl_TallyOf.j0 k a0 a1 l2 l3 true) else ((slices_ContainsFunc_158_at_159.f k l2).bind fun t287 => (if t287 = true then (impl_TallyOf.j0 k a0 a1 l2 l3 true) else ((impl_areStatements.f k l3).bind fun t288 => (impl_TallyOf.j0 k a0 a1 l2 l3 (!t288)))))) else (impl_TallyOf.j0 k a0 a1 l2 l3 true))) else (impl_TallyOf.j0 k a0 a1 l2 l3 true))
theorem impl_TallyOf.mono_l : ∀ k, (∀ y0 y1 y2 y3 y4, LeO (impl_TallyOf.j0 k y0 y1 y2 y3 y4) (impl_TallyOf.j0 (k + 1) y0 y1 y2 y3 y4)) ∧ (∀ y0 y1 y2 y3 y4 y5, LeO (impl_TallyOf.l0 k y0 y1 y2 y3 y4 y5) (impl_TallyOf.l0 (k + 1) y0 y1 y2 y3 y4 y5)) ∧ (∀ y0 y1 y2 y3 y4 y5 y6 y7 y8 y9 y10 y11, LeO (impl_TallyOf.l1 k y0 y1 y2 y3 y4 y5 y6 y7 y8 y9 y10 y11) (impl_TallyOf.l1 (k + 1) y0 y1 y2 y3 y4 y5 y6 y7 y8 y9 y10 y11))
 | 0 => ⟨fun _ _ _ _ _ r h => by simp [impl_TallyOf.j0] at h, fun _ _ _ _ _ _ r h => by simp [impl_TallyOf.l0] at h, fun _ _ _ _ _ _ _ _ _ _ _ _ r h => by simp [impl_TallyOf.l1] at h⟩
 | k + 1 => by
  obtain ⟨ih0, ih1, ih2⟩ := impl_TallyOf.mono_l k
  refine ⟨?_, ?_, ?_⟩
  ·intro y0 y1 y2 y3 y4
   unfold impl_TallyOf.j0
   repeat' (first | (with_reducible first | exact ih0 _ _ _ _ _ | exact ih1 _ _ _ _ _ _ | exact ih2 _ _ _ _ _ _ _ _ _ _ _ _ | exact impl_Claim_160.mono _ _ _ _ _ | exact impl_areStatements.mono _ _ | exact impl_debits.mono _ _ _ _ | exact slices_ContainsFunc_158_at_159.mono _ _ | exact LeO.refl _ | exact LeO.none _ | refine LeO.ite ?_ ?_ | refine LeO.bind ?_ (fun _ => ?_)) | exact ih0 _ _ _ _ _ | exact ih1 _ _ _ _ _ _ | exact ih2 _ _ _ _ _ _ _ _ _ _ _ _ | exact impl_Claim_160.mono _ _ _ _ _ | exact impl_areStatements.mono _ _ | exact impl_debits.mono _ _ _ _ | exact slices_ContainsFunc_158_at_159.mono _ _ | exact LeO.none _ | refine LeO.ite ?_ ?_ | refine LeO.bind ?_ (fun _ => ?_))
  ·intro y0 y1 y2 y3 y4 y5
   unfold impl_TallyOf.l0
   repeat' (first | (with_reducible first | exact ih0 _ _ _ _ _ | exact ih1 _ _ _ _ _ _ | exact ih2 _ _ _ _ _ _ _ _ _ _ _ _ | exact impl_Claim_160.mono _ _ _ _ _ | exact impl_areStatements.mono _ _ | exact impl_debits.mono _ _ _ _ | exact slices_ContainsFunc_158_at_159.mono _ _ | exact LeO.refl _ | exact LeO.none _ | refine LeO.ite ?_ ?_ | refine LeO.bind ?_ (fun _ => ?_)) | exact ih0 _ _ _ _ _ | exact ih1 _ _ _ _ _ _ | exact ih2 _ _ _ _ _ _ _ _ _ _ _ _ | exact impl_Claim_160.mono _ _ _ _ _ | exact impl_areStatements.mono _ _ | exact impl_debits.mono _ _ _ _ | exact slices_ContainsFunc_158_at_159.mono _ _ | exact LeO.none _ | refine LeO.ite ?_ ?_ | refine LeO.bind ?_ (fun _ => ?_))
  ·intro y0 y1 y2 y3 y4 y5 y6 y7 y8 y9 y10 y11
   unfold impl_TallyOf.l1
   repeat' (first | (with_reducible first | exact ih0 _ _ _ _ _ | exact ih1 _ _ _ _ _ _ | exact ih2 _ _ _ _ _ _ _ _ _ _ _ _ | exact impl_Claim_160.mono _ _ _ _ _ | exact impl_areStatements.mono _ _ | exact impl_debits.mono _ _ _ _ | exact slices_ContainsFunc_158_at_159.mono _ _ | exact LeO.refl _ | exact LeO.none _ | refine LeO.ite ?_ ?_ | refine LeO.bind ?_ (fun _ => ?_)) | exact ih0 _ _ _ _ _ | exact ih1 _ _ _ _ _ _ | exact ih2 _ _ _ _ _ _ _ _ _ _ _ _ | exact impl_Claim_160.mono _ _ _ _ _ | exact impl_areStatements.mono _ _ | exact impl_debits.mono _ _ _ _ | exact slices_ContainsFunc_158_at_159.mono _ _ | exact LeO.none _ | refine LeO.ite ?_ ?_ | refine LeO.bind ?_ (fun _ => ?_))
theorem impl_TallyOf.mono : ∀ a0 a1 a2 a3 k, LeO (impl_TallyOf.f k a0 a1 a2 a3) (impl_TallyOf.f (k + 1) a0 a1 a2 a3) := by
 intro a0 a1 a2 a3 k
 obtain ⟨ih0, ih1, ih2⟩ := impl_TallyOf.mono_l k
 unfold impl_TallyOf.f
 repeat' (first | (with_reducible first | exact ih0 _ _ _ _ _ | exact ih1 _ _ _ _ _ _ | exact ih2 _ _ _ _ _ _ _ _ _ _ _ _ | exact impl_Claim_160.mono _ _ _ _ _ | exact impl_areStatements.mono _ _ | exact impl_debits.mono _ _ _ _ | exact slices_ContainsFunc_158_at_159.mono _ _ | exact LeO.refl _ | exact LeO.none _ | refine LeO.ite ?_ ?_ | refine LeO.bind ?_ (fun _ => ?_)) | exact ih0 _ _ _ _ _ | exact ih1 _ _ _ _ _ _ | exact ih2 _ _ _ _ _ _ _ _ _ _ _ _ | exact impl_Claim_160.mono _ _ _ _ _ | exact impl_areStatements.mono _ _ | exact impl_debits.mono _ _ _ _ | exact slices_ContainsFunc_158_at_159.mono _ _ | exact LeO.none _ | refine LeO.ite ?_ ?_ | refine LeO.bind ?_ (fun _ => ?_))
def impl_TallyOf.T11 : Bool × List (List Nat × List Nat) := (true, [([], []), ([0], [0]), ([], []), ([1, 2], [1, 2]), ([3], [3]), ([4], [4]), ([4], [4]), ([5, 6, 4], [4, 5, 6]), ([4], [4]), ([7, 8, 4, 4], [4, 7, 8]), ([9, 4], [4, 9]), ([4, 10], [4, 10]), ([11, 9], [11]), ([12], [12]), ([12], [12]), ([13, 14, 12, 12], [12, 13, 14]), ([15, 12], [12, 15]), ([12, 16], [12, 16])])
def impl_TallyOf.B11 : List Nat := [0, 1, 0, 7, 15, 31, 31, 127, 31, 511, 1023, 2047, 4095, 8191, 8191, 32767, 65535, 131071]
theorem impl_TallyOf.tab11 : rtab .any (opsOf Try.f71 11) = impl_TallyOf.T11 := by kernel_rfl
theorem impl_TallyOf.bits11 : waitsOk impl_TallyOf.T11.2 impl_TallyOf.B11 = true := by kernel_rfl
set_option maxHeartbeats 8000000 in
set_option maxRecDepth 100000 in
theorem impl_TallyOf.calls (k : Nat) (a0 : Int) (a1 : Int) (A2 : Option Addr) (c2 : Nat) (l2 : List (S85)) (A3 : Option Addr) (c3 : Nat) (l3 : List (S91)) (r1 : List (S110)) (r2 : Bool) (w : World) (hr2 : Kd.C k85 w A2 l2.length l2) (hc2 : l2.length ≤ c2) (hr3 : Kd.C k91 w A3 l3.length l3) (hc3 : l3.length ≤ c3) (h : impl_TallyOf.f k a0 a1 l2 l3 = some (r1, r2)) :
  Calls Try.prog 71 #[.int .i64 a0, .int .i64 a1, .slice A2 l2.length c2, .slice A3 l3.length c3] w fun e w' => ∃ v0_ : Value, e = .returned (.tuple #[v0_, .bool r2]) ∧ Kd.R k110 110 w' w.heap.size (fun _ => True) v0_ r1 ∧ Below w.heap.size w w' := by
 have hu85 := Try.underlying85
 have hu110 := Try.underlying110
 have HR2 := Aside0.mk hr2; have HC2 := Aside0.mk hc2; clear hr2 hc2; have HR3 := Aside0.mk hr3; have HC3 := Aside0.mk hc3; clear hr3 hc3
 have HB := Aside0.mk (Below.refl w.heap.size w)
 have H : ((impl_within.f a0 1 12).bind fun t285 => (if t285 = true then ((impl_areFaults.f a1).bind fun t286 => (if t286 = true then (if (l2.length : Int) > 60 then (impl_TallyOf.j0 k a0 a1 l2 l3 true) else ((slices_ContainsFunc_158_at_159.f k l2).bind fun t287 => (if t287 = true then (impl_TallyOf.j0 k a0 a1 l2 l3 true) else ((impl_areStatements.f k l3).bind fun t288 => (impl_TallyOf.j0 k a0 a1 l2 l3 (!t288)))))) else (impl_TallyOf.j0 k a0 a1 l2 l3 true))) else (impl_TallyOf.j0 k a0 a1 l2 l3 true))) = some (r1, r2) := h
 clear h; have HC5 := Aside0.mk H; clear H
 go_enter Try.func71, Try.ntmps71
 go_upto_region 1 with (fail)
 go_cut [37] (fun v37 wc => ∃ (kq : Nat) (x37_4 : Bool), v37 = .bool x37_4 ∧ Aside0 (impl_TallyOf.j0 kq a0 a1 l2 l3 x37_4 = some (r1, r2)) ∧ Aside0 (kq ≤ k) ∧ Aside0 (Below w.heap.size w wc))
 case first =>
  have H := HC5.out; clear HC5; replace H := bS H; obtain ⟨t285, A6, H⟩ := H
  replace H : (if t285 = true then ((impl_areFaults.f a1).bind fun t286 => (if t286 = true then (if (l2.length : Int) > 60 then (impl_TallyOf.j0 k a0 a1 l2 l3 true) else ((slices_ContainsFunc_158_at_159.f k l2).bind fun t287 => (if t287 = true then (impl_TallyOf.j0 k a0 a1 l2 l3 true) else ((impl_areStatements.f k l3).bind fun t288 => (impl_TallyOf.j0 k a0 a1 l2 l3 (!t288)))))) else (impl_TallyOf.j0 k a0 a1 l2 l3 true))) else (impl_TallyOf.j0 k a0 a1 l2 l3 true)) = some (r1, r2) := H
  by_cases c7 : t285 = true
  ·subst c7
   have H1 : ((impl_areFaults.f a1).bind fun t286 => (if t286 = true then (if (l2.length : Int) > 60 then (impl_TallyOf.j0 k a0 a1 l2 l3 true) else ((slices_ContainsFunc_158_at_159.f k l2).bind fun t287 => (if t287 = true then (impl_TallyOf.j0 k a0 a1 l2 l3 true) else ((impl_areStatements.f k l3).bind fun t288 => (impl_TallyOf.j0 k a0 a1 l2 l3 (!t288)))))) else (impl_TallyOf.j0 k a0 a1 l2 l3 true))) = some (r1, r2) := by rw [if_pos rfl] at H; exact H
   clear H
   have H := H1
   clear H1; replace H := bS H; obtain ⟨t286, A8, H⟩ := H
   replace H : (if t286 = true then (if (l2.length : Int) > 60 then (impl_TallyOf.j0 k a0 a1 l2 l3 true) else ((slices_ContainsFunc_158_at_159.f k l2).bind fun t287 => (if t287 = true then (impl_TallyOf.j0 k a0 a1 l2 l3 true) else ((impl_areStatements.f k l3).bind fun t288 => (impl_TallyOf.j0 k a0 a1 l2 l3 (!t288)))))) else (impl_TallyOf.j0 k a0 a1 l2 l3 true)) = some (r1, r2) := H
   by_cases c9 : t286 = true
   ·subst c9
    have H1 : (if (l2.length : Int) > 60 then (impl_TallyOf.j0 k a0 a1 l2 l3 true) else ((slices_ContainsFunc_158_at_159.f k l2).bind fun t287 => (if t287 = true then (impl_TallyOf.j0 k a0 a1 l2 l3 true) else ((impl_areStatements.f k l3).bind fun t288 => (impl_TallyOf.j0 k a0 a1 l2 l3 (!t288)))))) = some (r1, r2) := by rw [if_pos rfl] at H; exact H
    clear H
    have H := H1
    clear H1
    by_cases c10 : (l2.length : Int) > 60
    ·rw [if_pos c10] at H
     have c10b0 : decide (60 < (l2.length : Int)) = true := decide_eq_true c10
     have c10b1 : decide (60 < l2.length) = true := decide_eq_true (by omega)
     clear c10
     (first | rw [c10b0] | (simp only [i64_w, i32_w]; rw [c10b0]) | skip)
     have H' := Aside0.mk H
     clear H
     go_wp2_with (first | ((with_reducible refine gate_callee (f := 125) rfl ?_); refine goesLa (some 17) rfl Try.func125 #[.int .i64 a0, .int .i64 1, .int .i64 12] rfl ?_; (with_reducible refine (impl_within.calls a0 1 12 true _ A6.out).mono ?_); rintro e w' ⟨rfl, ⟨nd, rfl⟩⟩; refine ⟨_, rfl, ?_⟩) | (go_at_call 124; (with_reducible refine (impl_areFaults.calls a1 true _ A8.out).mono ?_); rintro e w' ⟨rfl, ⟨nd, rfl⟩⟩))
     go_meet
     case rel => exact ⟨_, (true), er, H', ⟨by first | omega | exact Nat.le_refl _⟩, ⟨belowd HB⟩⟩
    ·rw [if_neg c10] at H
     have c10b0 : decide (60 < (l2.length : Int)) = false := decide_eq_false c10
     have c10b1 : decide (60 < l2.length) = false := decide_eq_false (by omega)
     clear c10
     (first | rw [c10b0] | (simp only [i64_w, i32_w]; rw [c10b0]) | skip)
     replace H := bS H; obtain ⟨t287, A11, H⟩ := H
     replace H : (if t287 = true then (impl_TallyOf.j0 k a0 a1 l2 l3 true) else ((impl_areStatements.f k l3).bind fun t288 => (impl_TallyOf.j0 k a0 a1 l2 l3 (!t288)))) = some (r1, r2) := H
     by_cases c12 : t287 = true
     ·subst c12
      have H1 : (impl_TallyOf.j0 k a0 a1 l2 l3 true) = some (r1, r2) := by rw [if_pos rfl] at H; exact H
      clear H
      have H := H1
      clear H1
      have H' := Aside0.mk H
      clear H
      go_wp2_with (first | ((with_reducible refine gate_callee (f := 125) rfl ?_); refine goesLa (some 17) rfl Try.func125 #[.int .i64 a0, .int .i64 1, .int .i64 12] rfl ?_; (with_reducible refine (impl_within.calls a0 1 12 true _ A6.out).mono ?_); rintro e w' ⟨rfl, ⟨nd, rfl⟩⟩; refine ⟨_, rfl, ?_⟩) | (go_at_call 124; (with_reducible refine (impl_areFaults.calls a1 true _ A8.out).mono ?_); rintro e w' ⟨rfl, ⟨nd, rfl⟩⟩) | (go_at_call 158; (with_reducible refine (slices_ContainsFunc_158_at_159.calls k _ _ l2  true _ ?side1 ?side2 A11.out).mono ?_); (case side1 => exact cd (Kd.C_below HR2.out (belowd HB))); (case side2 => exact HC2.out); rintro e w13 ⟨rfl, hb⟩; replace HB := ak (below_step (belowd HB) hb); (try clear hb)))
      go_meet
      case rel => exact ⟨_, (true), er, H', ⟨by first | omega | exact Nat.le_refl _⟩, ⟨belowd HB⟩⟩
     ·replace c12 := Bool.eq_false_iff.mpr c12
      subst c12
      have H1 : ((impl_areStatements.f k l3).bind fun t288 => (impl_TallyOf.j0 k a0 a1 l2 l3 (!t288))) = some (r1, r2) := by rw [if_neg (show ¬ (false = true) by decide)] at H; exact H
      clear H
      have H := H1
      clear H1; replace H := bS H; obtain ⟨t288, A14, H⟩ := H
      replace H : (impl_TallyOf.j0 k a0 a1 l2 l3 (!t288)) = some (r1, r2) := H
      have H' := Aside0.mk H
      clear H
      go_wp2_with (first | ((with_reducible refine gate_callee (f := 125) rfl ?_); refine goesLa (some 17) rfl Try.func125 #[.int .i64 a0, .int .i64 1, .int .i64 12] rfl ?_; (with_reducible refine (impl_within.calls a0 1 12 true _ A6.out).mono ?_); rintro e w' ⟨rfl, ⟨nd, rfl⟩⟩; refine ⟨_, rfl, ?_⟩) | (go_at_call 124; (with_reducible refine (impl_areFaults.calls a1 true _ A8.out).mono ?_); rintro e w' ⟨rfl, ⟨nd, rfl⟩⟩) | (go_at_call 158; (with_reducible refine (slices_ContainsFunc_158_at_159.calls k _ _ l2  false _ ?side1 ?side2 A11.out).mono ?_); (case side1 => exact cd (Kd.C_below HR2.out (belowd HB))); (case side2 => exact HC2.out); rintro e w15 ⟨rfl, hb⟩; replace HB := ak (below_step (belowd HB) hb); (try clear hb)) | (go_at_call 138; (with_reducible refine (impl_areStatements.calls k _ _ l3 t288 _ ?side1 ?side2 A14.out).mono ?_); (case side1 => exact cd (Kd.C_below HR3.out HB.out)); (case side2 => exact HC3.out); rintro e w16 ⟨rfl, hb⟩; replace HB := ak (below_step (belowd HB) hb); (try clear hb)))
      go_meet
      case rel => exact ⟨_, (!t288), er, H', ⟨by first | omega | exact Nat.le_refl _⟩, ⟨belowd HB⟩⟩
   ·replace c9 := Bool.eq_false_iff.mpr c9
    subst c9
    have H1 : (impl_TallyOf.j0 k a0 a1 l2 l3 true) = some (r1, r2) := by rw [if_neg (show ¬ (false = true) by decide)] at H; exact H
    clear H
    have H := H1
    clear H1
    have H' := Aside0.mk H
    clear H
    go_wp2_with (first | ((with_reducible refine gate_callee (f := 125) rfl ?_); refine goesLa (some 17) rfl Try.func125 #[.int .i64 a0, .int .i64 1, .int .i64 12] rfl ?_; (with_reducible refine (impl_within.calls a0 1 12 true _ A6.out).mono ?_); rintro e w' ⟨rfl, ⟨nd, rfl⟩⟩; refine ⟨_, rfl, ?_⟩) | (go_at_call 124; (with_reducible refine (impl_areFaults.calls a1 false _ A8.out).mono ?_); rintro e w' ⟨rfl, ⟨nd, rfl⟩⟩))
    go_meet
    case rel => exact ⟨_, (true), er, H', ⟨by first | omega | exact Nat.le_refl _⟩, ⟨belowd HB⟩⟩
  ·replace c7 := Bool.eq_false_iff.mpr c7
   subst c7
   have H1 : (impl_TallyOf.j0 k a0 a1 l2 l3 true) = some (r1, r2) := by rw [if_neg (show ¬ (false = true) by decide)] at H; exact H
   clear H
   have H := H1
   clear H1
   have H' := Aside0.mk H
   clear H
   go_wp2_with (first | ((with_reducible refine gate_callee (f := 125) rfl ?_); refine goesLa (some 17) rfl Try.func125 #[.int .i64 a0, .int .i64 1, .int .i64 12] rfl ?_; (with_reducible refine (impl_within.calls a0 1 12 false _ A6.out).mono ?_); rintro e w' ⟨rfl, ⟨nd, rfl⟩⟩; refine ⟨_, rfl, ?_⟩))
   go_meet
   case rel => exact ⟨_, (true), er, H', ⟨by first | omega | exact Nat.le_refl _⟩, ⟨belowd HB⟩⟩
 case rest =>
  clear HC5; (try clear c2); (try clear c3)
  obtain ⟨kq, x37_4, rfl, HA, HJ4, HB⟩ := hcut
  cases kq with
  | zero => exact absurd HA.out (by simp [impl_TallyOf.j0])
  | succ kj4 =>
   have H := HA.out; clear HA
   simp only [impl_TallyOf.j0] at H
   by_cases c17 : x37_4 = true
   ·subst c17
    have H1 : (some (([] : List (S110)), false)) = some (r1, r2) := by rw [if_pos rfl] at H; exact H
    clear H
    have H := H1
    clear H1
    simp only [Option.some.injEq, Prod.mk.injEq] at H
    obtain ⟨rfl, rfl⟩ := H; go_wp2
    go_ret2
    exact ⟨_, er2, by first | exact Kd.R_nil _ _ _ _ _ | exact Kd.N_nil _ _ _ _ _ | exact Kd.V_nil _ _ _ _ _ | exact Kd.Q_nil _ _ _ _ _ | exact Kd.S_nil _ _ _ _ _, belowd HB⟩
   ·replace c17 := Bool.eq_false_iff.mpr c17
    subst c17
    have H1 : (impl_TallyOf.l0 kj4 a1 l2 l3 (([] : List (S110))) a0 0) = some (r1, r2) := by rw [if_neg (show ¬ (false = true) by decide)] at H; exact H
    clear H
    have H := H1
    clear H1
    obtain ⟨y289, hy_⟩ : ∃ y_ : List (S110), y_ = (([] : List (S110))) := ⟨_, rfl⟩
    replace H : (impl_TallyOf.l0 kj4 a1 l2 l3 y289 a0 0) = some (r1, r2) := yH
    have Ny289 := ak hy_; clear hy_
    have H' := Aside0.mk H
    clear H
    go_wp2_with (first | ((with_reducible refine gate_dst (N := 38) rfl ?_); (try (refine gate_guard (by rfl) ?_; dsimp only)); refine Kd.R_lit k110 _ 110 ?hg (N := 38) ?hd (xs := ([] : List (S110))) (inner := []) (ok := fun _ => True) (okp := fun _ => True) ?hr ?hp (fun _ hk => hk) trivial (Below.refl _ _) (Nat.le_refl _) (by simp) ?_; (case hd => rfl); (case hg => rfl); (case hr => first | (go_simp; done) | (go_simp; rfl)); (case hp => exact (Reps.none _ _)); intro v290 w18 ho19 hb hg_ hnew_; clear hg_ hnew_; (first | rw [← Ny289.out] at ho19 | (simp only [Int.reduceToNat] at ho19; rw [← Ny289.out] at ho19)); have HO291 := ak (Kd.R_lower ho19 (below_size (belowd HB))); replace HB := ak (below_step (belowd HB) hb); clear hb ho19))
    go_loopg [10, 40] kj4 (fun kq v10 v40 w' => ∃ (x10_2 : List (S110)) (x40_2 : Int), v40 = .int .i64 x40_2 ∧ Aside0 (impl_TallyOf.l0 kq a1 l2 l3 x10_2 a0 x40_2 = some (r1, r2)) ∧ Aside0 (kq ≤ kj4) ∧ Aside0 (Kd.R k110 110 w' w.heap.size (fun _ => True) v10 x10_2) ∧ Aside0 (Below w.heap.size w w'))
    case atStart => exact ⟨(y289), (0), er, H', ⟨Nat.le_refl _⟩, ⟨rdl HO291⟩, ⟨belowd HB⟩⟩
    case round =>
     clear H'
     (try clear c17)
     obtain ⟨x10_2, x40_2, rfl, HA, HK2, HO_10, HB⟩ := hrel
     cases gk with
     | zero => exact absurd HA.out (by simp [impl_TallyOf.l0])
     | succ k2 =>
      have H := HA.out; clear HA
      simp only [impl_TallyOf.l0] at H
      by_cases c20 : x40_2 < a0
      ·rw [if_pos c20] at H
       have c20b0 : decide (x40_2 < a0) = true := decide_eq_true c20
       clear c20; replace H := bS H; obtain ⟨t292, A21, H⟩ := H
       replace H : (impl_TallyOf.l1 k2 a1 l2 l3 x10_2 x40_2 t292 0 a0 x40_2 l2 (l2.length : Int) 0) = some (r1, r2) := H
       have H' := Aside0.mk H
       clear H
       go_wp2_with (first | ((with_reducible refine gate_callee (f := 155) rfl ?_); refine goesLa (some 46) rfl Try.func155 #[.int .i64 a1, .slice A3 l3.length c3, .int .i64 x40_2] rfl ?_; (with_reducible refine (impl_debits.calls k2 a1 _ _ l3 x40_2 t292 _ ?side1 ?side2 A21.out).mono ?_); (case side1 => exact cd (Kd.C_below HR3.out HB.out)); (case side2 => exact HC3.out); rintro e w22 ⟨v293, rfl, ho0, hb⟩; refine ⟨_, rfl, ?_⟩; replace HO_10 := ak (Kd.R_below (rdl HO_10) hb); have HO294 := ak (Kd.R_lower ho0 (below_size (belowd HB))); replace HB := ak (below_step (belowd HB) hb); (try clear hb); (try clear ho0)))
       go_loopg [13, 49] k2 (fun kq v13 v49 w' => ∃ (x13_3 : Int) (x49_3 : Int), v13 = .int .i64 x13_3 ∧ v49 = .int .i64 x49_3 ∧ Aside0 (impl_TallyOf.l1 kq a1 l2 l3 x10_2 x40_2 t292 x13_3 a0 x40_2 l2 (l2.length : Int) x49_3 = some (r1, r2)) ∧ Aside0 (kq ≤ k2) ∧ Aside0 (Kd.R k110 110 w' w.heap.size (fun _ => True) u10 x10_2) ∧ Aside0 (Kd.R k85 85 w' w.heap.size (fun _ => True) v293 t292) ∧ Aside0 (Below w.heap.size w w'))
       case atStart => exact ⟨(0), (0), er, er, H', ⟨Nat.le_refl _⟩, ⟨rdl HO_10⟩, ⟨rdl HO294⟩, ⟨belowd HB⟩⟩
       case round =>
        clear H'
        (try clear c3); (try clear c20b0)
        obtain ⟨x13_3, x49_3, rfl, rfl, HA, HK3, HO_10, HO_12, HB⟩ := hrel
        cases gk with
        | zero => exact absurd HA.out (by simp [impl_TallyOf.l1])
        | succ k3 =>
         have H := HA.out; clear HA
         simp only [impl_TallyOf.l1] at H
         by_cases c23 : x49_3 < (l2.length : Int)
         ·rw [if_pos c23] at H
          have c23b0 : decide (x49_3 < (l2.length : Int)) = true := decide_eq_true c23
          clear c23; replace H := ifS H; obtain ⟨c24, H⟩ := H; have c24b0 := decide_eq_true c24; clear c24; replace H := ifS H; obtain ⟨c25, H⟩ := H; have c25b0 := decide_eq_true c25; clear c25
          by_cases c26 : ((rd_T85 l2 x49_3).f0) = x40_2
          ·rw [if_pos c26] at H
           have c26b0 : (((rd_T85 l2 x49_3).f0) == x40_2) = true := beq_iff_eq.mpr c26
           have c26b1 : (((rd_T85 l2 x49_3).f0) != x40_2) = false := bne_eq_false_iff_eq.mpr c26
           clear c26
           have c27b0 := eq_true (da : 0 ≤ x49_3)
           replace H := ifS H; obtain ⟨c28, H⟩ := H; have c28b0 := eq_true c28
           have c28b1 : decide (x49_3 ≤ (l2.length : Int)) = true := decide_eq_true c28
           clear c28
           obtain ⟨y300, hy_⟩ : ∃ y_ : List (S85), y_ = (l2.take (x49_3 : Int).toNat) := ⟨_, rfl⟩
           replace H : ((impl_Claim_160.f k3 y300 ((rd_T85 l2 x49_3).f0) ((rd_T85 l2 x49_3).f1) ((rd_T85 l2 x49_3).f2)).bind fun t304 => (if t304 = true then (impl_TallyOf.l1 k3 a1 l2 l3 x10_2 x40_2 t292 x13_3 a0 x40_2 l2 (l2.length : Int) (wrap64 (x49_3 + 1))) else ((impl_Claim_160.f k3 t292 ((rd_T85 l2 x49_3).f0) ((rd_T85 l2 x49_3).f1) ((rd_T85 l2 x49_3).f2)).bind fun t305 => (if t305 = true then (impl_TallyOf.l1 k3 a1 l2 l3 x10_2 x40_2 t292 x13_3 a0 x40_2 l2 (l2.length : Int) (wrap64 (x49_3 + 1))) else (impl_TallyOf.l1 k3 a1 l2 l3 x10_2 x40_2 t292 (wrap64 (x13_3 + 1)) a0 x40_2 l2 (l2.length : Int) (wrap64 (x49_3 + 1))))))) = some (r1, r2) := yH
           have Ny300 := ak hy_; clear hy_; replace H := bS H; obtain ⟨t304, A29, H⟩ := H
           replace H : (if t304 = true then (impl_TallyOf.l1 k3 a1 l2 l3 x10_2 x40_2 t292 x13_3 a0 x40_2 l2 (l2.length : Int) (wrap64 (x49_3 + 1))) else ((impl_Claim_160.f k3 t292 ((rd_T85 l2 x49_3).f0) ((rd_T85 l2 x49_3).f1) ((rd_T85 l2 x49_3).f2)).bind fun t305 => (if t305 = true then (impl_TallyOf.l1 k3 a1 l2 l3 x10_2 x40_2 t292 x13_3 a0 x40_2 l2 (l2.length : Int) (wrap64 (x49_3 + 1))) else (impl_TallyOf.l1 k3 a1 l2 l3 x10_2 x40_2 t292 (wrap64 (x13_3 + 1)) a0 x40_2 l2 (l2.length : Int) (wrap64 (x49_3 + 1)))))) = some (r1, r2) := H
           by_cases c30 : t304 = true
           ·subst c30
            have H1 : (impl_TallyOf.l1 k3 a1 l2 l3 x10_2 x40_2 t292 x13_3 a0 x40_2 l2 (l2.length : Int) (wrap64 (x49_3 + 1))) = some (r1, r2) := by rw [if_pos rfl] at H; exact H
            clear H
            have H := H1
            clear H1
            have H' := Aside0.mk H
            clear H
            have p298 : 0 ≤ (x49_3 : Int) := da
            have q298 : x49_3 < (l2.length : Int) := da
            obtain ⟨ad298, e298, hx298_0, hx298_1, hx298_2⟩ := at_T85 HR2.out x49_3 p298 q298
            cases e298
            replace hx298_0 := (HB.out.cell (World.block_lt_of_cell? w _ hx298_0)).trans hx298_0
            replace hx298_1 := (HB.out.cell (World.block_lt_of_cell? w _ hx298_1)).trans hx298_1
            replace hx298_2 := (HB.out.cell (World.block_lt_of_cell? w _ hx298_2)).trans hx298_2
            replace p298 := eq_true p298; replace q298 := eq_true q298
            try go_wp2_with (first | ((with_reducible refine gate_dst (N := 15) rfl ?_); (try (refine gate_guard (by rfl) ?_; dsimp only)); refine boxev 15 #[.int .i64 0, .int .i64 0, .int .i64 0] 85 ?_; intro gb299 hg w31 hbox hb; replace HO_10 := ak (Kd.R_below (rdl HO_10) hb); replace HO_12 := ak (Kd.R_below (Kd.R_elderB (rdl HO_12) gb299 (Nat.le_of_eq hg.symm)) hb); have BK299 := ak (hbox); have GW299 := ak (hgl hg (belowd HB)); have GE299 := ak (hgl hg (belowd HB)); replace HB := ak (below_step (belowd HB) hb); clear hb hbox hg; obtain ⟨hcz32_0, hcz32_1, hcz32_2, hfz32_0, hfz32_1, hfz32_2⟩ := box3 BK299))
            have n0_ : Aside0 (Kd.R k110 110 (((w31.setCell ⟨gb299, 0, none⟩ (.int .i64 ((rd_T85 l2 x49_3).f0))).setCell ⟨gb299, 1, none⟩ (.int .i64 ((rd_T85 l2 x49_3).f1))).setCell ⟨gb299, 2, none⟩ (.int .i64 ((rd_T85 l2 x49_3).f2))) w.heap.size (fun _ => True) u10 x10_2) := ⟨by (with_reducible repeat (first | apply Kd.R_alloc | apply Kd.R_drewN | apply Kd.R_drew)); exact Kd.R_mono (farsR (Kd.R_types HO_10.out BK299.out (by decide))) (fun _ hk => trivial)⟩
            have n1_ : Aside0 (Kd.R k85 85 (((w31.setCell ⟨gb299, 0, none⟩ (.int .i64 ((rd_T85 l2 x49_3).f0))).setCell ⟨gb299, 1, none⟩ (.int .i64 ((rd_T85 l2 x49_3).f1))).setCell ⟨gb299, 2, none⟩ (.int .i64 ((rd_T85 l2 x49_3).f2))) w.heap.size (fun k_ => k_ ≠ gb299) v293 t292) := ⟨by (with_reducible repeat (first | apply Kd.R_alloc | apply Kd.R_drewN | apply Kd.R_drew)); exact Kd.R_mono (farsR (Kd.R_mono HO_12.out (fun k_ hk => (⟨hk, hk.2⟩ : _ ∧ k_ ≠ gb299)))) (fun _ hk => hk.1.2)⟩
            have n2_ : Aside0 ((((w31.setCell ⟨gb299, 0, none⟩ (.int .i64 ((rd_T85 l2 x49_3).f0))).setCell ⟨gb299, 1, none⟩ (.int .i64 ((rd_T85 l2 x49_3).f1))).setCell ⟨gb299, 2, none⟩ (.int .i64 ((rd_T85 l2 x49_3).f2))).heap[gb299]? = some (.cells #[.int .i64 ((rd_T85 l2 x49_3).f0), .int .i64 ((rd_T85 l2 x49_3).f1), .int .i64 ((rd_T85 l2 x49_3).f2)] 85 (0, 0))) := ⟨by (with_reducible repeat (first | refine blk_drewN ?_ _ | refine blk_drew ?_ | refine blk_alloc ?_ _)); refine blk_put (cs := #[.int .i64 ((rd_T85 l2 x49_3).f0), .int .i64 ((rd_T85 l2 x49_3).f1), .int .i64 0]) ?_ 2 _ rfl; (with_reducible repeat (first | refine blk_drewN ?_ _ | refine blk_drew ?_ | refine blk_alloc ?_ _)); refine blk_put (cs := #[.int .i64 ((rd_T85 l2 x49_3).f0), .int .i64 0, .int .i64 0]) ?_ 1 _ rfl; (with_reducible repeat (first | refine blk_drewN ?_ _ | refine blk_drew ?_ | refine blk_alloc ?_ _)); refine blk_put (cs := #[.int .i64 0, .int .i64 0, .int .i64 0]) ?_ 0 _ rfl; (with_reducible repeat (first | refine blk_drewN ?_ _ | refine blk_drew ?_ | refine blk_alloc ?_ _)); exact BK299.out⟩
            have n3_ : Aside0 (Below w.heap.size w (((w31.setCell ⟨gb299, 0, none⟩ (.int .i64 ((rd_T85 l2 x49_3).f0))).setCell ⟨gb299, 1, none⟩ (.int .i64 ((rd_T85 l2 x49_3).f1))).setCell ⟨gb299, 2, none⟩ (.int .i64 ((rd_T85 l2 x49_3).f2)))) := ⟨belowg1 HB GE299⟩
            (try clear HO_10); (try clear HO_12); (try clear BK299); (try clear HB)
            generalize (((w31.setCell ⟨gb299, 0, none⟩ (.int .i64 ((rd_T85 l2 x49_3).f0))).setCell ⟨gb299, 1, none⟩ (.int .i64 ((rd_T85 l2 x49_3).f1))).setCell ⟨gb299, 2, none⟩ (.int .i64 ((rd_T85 l2 x49_3).f2))) = w33 at n0_ n1_ n2_ n3_ ⊢
            have HO_10 := n0_
            have HO_12 := n1_
            have BK299 := n2_
            have HB := n3_
            clear n0_ n1_ n2_ n3_
            replace HO_10 := ak (Kd.R_drew HO_10.out)
            replace HO_12 := ak (Kd.R_drew HO_12.out)
            replace BK299 := ak (blk_drew BK299.out)
            replace HB := ak (below_drew1 HB.out)
            have q35 : (x49_3 : Int) ≤ ((l2.length : Int) : Int) := da
            obtain ⟨i035, hi035, _, hsz35, _⟩ := info_parts info85
            have hroom35 : l2.length ≤ c2 := HC2.out
            have hC35 : Kd.C k85 _ (some ad298) l2.length l2 := HR2.out
            have hcut35 := cut_to (P := Try.prog) 70 85 .i64 Try.underlying70 hi035 (some ad298) l2.length c2 x49_3 (da) q35 hroom35
            have hr35 := Kd.C_take (m := (x49_3 : Int).toNat) hC35 (by omega)
            have hy35 : y300.length = (x49_3 : Int).toNat := (by rw [Ny300.out, List.length_take]; omega)
            rw [← Ny300.out] at hr35
            rw [← hy35] at hcut35
            have HR303 := Aside0.mk hr35
            have HC303 := Aside0.mk (show y300.length ≤ c2 from by omega)
            clear hr35 hC35 hroom35 hi035 hsz35; have KY35 := Aside0.mk hy35; clear hy35; replace q35 := eq_true q35
            refine start_ (n := 18) (S := fun w' => w'.cell? ⟨gb299, 0, none⟩ = some (.int .i64 ((rd_T85 l2 x49_3).f0)) ∧ w'.cell? ⟨gb299, 1, none⟩ = some (.int .i64 ((rd_T85 l2 x49_3).f1)) ∧ w'.cell? ⟨gb299, 2, none⟩ = some (.int .i64 ((rd_T85 l2 x49_3).f2))) (ds := []) (bl 18 0) (by kernel_rfl) rfl rfl ⟨bq BK299 0, bq BK299 1, bq BK299 2⟩ (fun hHeld => ?_); refine with_tabW impl_TallyOf.tab11 impl_TallyOf.bits11 (fun HT_ HW_ => ?_)
            generalize w33.drew = w34 at HO_10 HO_12 BK299 HB HR303 hHeld ⊢
            refine pureA 0 (some 54) 18 1 HT_ ?_
            refine pureA 2 (some 56) 18 5 HT_ ?_
            refine takeA 1 (some 55) 18 7 HT_ HW_ hHeld ?_ (hy := by rintro w' ⟨s0, s1, s2⟩; go_simp; with_reducible rfl)
            refine pureA 3 (some 57) 18 15 HT_ ?_
            refine pureA 4 (some 58) 18 31 HT_ ?_
            refine pureA 5 (some 59) 18 63 HT_ ?_
            refine pureA 6 (some 60) 18 127 HT_ ?_
            refine pureA 7 (some 61) 18 255 HT_ ?_
            refine takeA 8 (some 62) 18 511 HT_ HW_ hHeld ?_ (hy := by rintro w' ⟨s0, s1, s2⟩; go_simp; with_reducible rfl)
            refine oneA 9 (some 63) 18 1023 HT_ (fun K hK => ?_)
            refine goes_ Try.func160 (by kernel_rfl) rfl #[.slice (some ad298) y300.length c2, .agg #[.int .i64 ((rd_T85 l2 x49_3).f0), .int .i64 ((rd_T85 l2 x49_3).f1), .int .i64 ((rd_T85 l2 x49_3).f2)]] (by rfl) rfl rfl (by (try simp only [List.map_toArray, List.map_cons, List.map_nil]); first | done | rfl | (simp only [List.length_drop, List.length_take]; rfl)) ?_
            with_reducible refine (impl_Claim_160.calls k3 _ _ y300 ((rd_T85 l2 x49_3).f0) ((rd_T85 l2 x49_3).f1) ((rd_T85 l2 x49_3).f2) true _ ?side1 ?side2 A29.out).mono ?_
            (case side1 => exact cd (Kd.C_below HR303.out HB.out))
            (case side2 => exact HC303.out)
            rintro e w36 ⟨rfl, hb⟩
            refine ⟨_, rfl, ?_⟩
            replace HO_10 := ak (Kd.R_below (rdl HO_10) hb)
            replace HO_12 := ak (Kd.R_below (rdl HO_12) hb)
            replace BK299 := ak (blk_below (blkd BK299) hb)
            replace HB := ak (below_step (belowg1 HB GE299) hb)
            (try clear hb); (try clear hb2); (try clear hk); (try clear hi)
            refine hK.out _ _ ⟨bq BK299 0, bq BK299 1, bq BK299 2⟩ (fun hHeld => ?_)
            clear hK K
            refine norm_ (a' := ?_) ?_ ?_
            rotate_left
            ·show Act.put _ (some 63) _ = _
             simp only [Act.put, List.setIfInBounds_toArray, List.set_cons_zero, List.set_cons_succ, i64_w, i32_w]
             rfl
            refine pureA 10 (some 64) 18 2047 HT_ ?_
            refine pureA 11 (some 65) 18 4095 HT_ ?_
            refine pureA 12 (some 66) 18 8191 HT_ ?_
            refine pureB 13 (some 67) 18 16383 HT_ ?_
            refine pureB 14 (some 68) 18 32767 HT_ ?_
            refine pureB 15 (some 69) 18 65535 HT_ ?_
            refine pureB 16 (some 70) 18 131071 HT_ ?_
            refine pureA 17 (some 71) 18 262143 HT_ ?_
            refine done_ (done_of HT_.out (by kernel_rfl)) ?_
            try go_wp2
            go_roundg k3
            case measure => have := HJ4.out; have := HK2.out; have := HK3.out; omega
            case rel => exact ⟨(x13_3), (wrap64 (x49_3 + 1)), er, er, H', ⟨by have := HJ4.out; have := HK2.out; have := HK3.out; omega⟩, ⟨rdl HO_10⟩, ⟨by (with_reducible repeat (first | apply Kd.R_alloc | apply Kd.R_drewN | apply Kd.R_drew)); exact Kd.R_mono HO_12.out (fun _ hk => trivial)⟩, ⟨belowg1 HB GE299⟩⟩
           ·replace c30 := Bool.eq_false_iff.mpr c30
            subst c30
            have H1 : ((impl_Claim_160.f k3 t292 ((rd_T85 l2 x49_3).f0) ((rd_T85 l2 x49_3).f1) ((rd_T85 l2 x49_3).f2)).bind fun t305 => (if t305 = true then (impl_TallyOf.l1 k3 a1 l2 l3 x10_2 x40_2 t292 x13_3 a0 x40_2 l2 (l2.length : Int) (wrap64 (x49_3 + 1))) else (impl_TallyOf.l1 k3 a1 l2 l3 x10_2 x40_2 t292 (wrap64 (x13_3 + 1)) a0 x40_2 l2 (l2.length : Int) (wrap64 (x49_3 + 1))))) = some (r1, r2) := by rw [if_neg (show ¬ (false = true) by decide)] at H; exact H
            clear H
            have H := H1
            clear H1; replace H := bS H; obtain ⟨t305, A37, H⟩ := H
            replace H : (if t305 = true then (impl_TallyOf.l1 k3 a1 l2 l3 x10_2 x40_2 t292 x13_3 a0 x40_2 l2 (l2.length : Int) (wrap64 (x49_3 + 1))) else (impl_TallyOf.l1 k3 a1 l2 l3 x10_2 x40_2 t292 (wrap64 (x13_3 + 1)) a0 x40_2 l2 (l2.length : Int) (wrap64 (x49_3 + 1)))) = some (r1, r2) := H
            by_cases c38 : t305 = true
            ·subst c38
             have H1 : (impl_TallyOf.l1 k3 a1 l2 l3 x10_2 x40_2 t292 x13_3 a0 x40_2 l2 (l2.length : Int) (wrap64 (x49_3 + 1))) = some (r1, r2) := by rw [if_pos rfl] at H; exact H
             clear H
             have H := H1
             clear H1
             have H' := Aside0.mk H
             clear H
             have p298 : 0 ≤ (x49_3 : Int) := da
             have q298 : x49_3 < (l2.length : Int) := da
             obtain ⟨ad298, e298, hx298_0, hx298_1, hx298_2⟩ := at_T85 HR2.out x49_3 p298 q298
             cases e298
             replace hx298_0 := (HB.out.cell (World.block_lt_of_cell? w _ hx298_0)).trans hx298_0
             replace hx298_1 := (HB.out.cell (World.block_lt_of_cell? w _ hx298_1)).trans hx298_1
             replace hx298_2 := (HB.out.cell (World.block_lt_of_cell? w _ hx298_2)).trans hx298_2
             replace p298 := eq_true p298; replace q298 := eq_true q298
             try go_wp2_with (first | ((with_reducible refine gate_dst (N := 15) rfl ?_); (try (refine gate_guard (by rfl) ?_; dsimp only)); refine boxev 15 #[.int .i64 0, .int .i64 0, .int .i64 0] 85 ?_; intro gb299 hg w39 hbox hb; replace HO_10 := ak (Kd.R_below (rdl HO_10) hb); replace HO_12 := ak (Kd.R_below (Kd.R_elderB (rdl HO_12) gb299 (Nat.le_of_eq hg.symm)) hb); have BK299 := ak (hbox); have GW299 := ak (hgl hg (belowd HB)); have GE299 := ak (hgl hg (belowd HB)); replace HB := ak (below_step (belowd HB) hb); clear hb hbox hg; obtain ⟨hcz40_0, hcz40_1, hcz40_2, hfz40_0, hfz40_1, hfz40_2⟩ := box3 BK299))
             have n0_ : Aside0 (Kd.R k110 110 (((w39.setCell ⟨gb299, 0, none⟩ (.int .i64 ((rd_T85 l2 x49_3).f0))).setCell ⟨gb299, 1, none⟩ (.int .i64 ((rd_T85 l2 x49_3).f1))).setCell ⟨gb299, 2, none⟩ (.int .i64 ((rd_T85 l2 x49_3).f2))) w.heap.size (fun _ => True) u10 x10_2) := ⟨by (with_reducible repeat (first | apply Kd.R_alloc | apply Kd.R_drewN | apply Kd.R_drew)); exact Kd.R_mono (farsR (Kd.R_types HO_10.out BK299.out (by decide))) (fun _ hk => trivial)⟩
             have n1_ : Aside0 (Kd.R k85 85 (((w39.setCell ⟨gb299, 0, none⟩ (.int .i64 ((rd_T85 l2 x49_3).f0))).setCell ⟨gb299, 1, none⟩ (.int .i64 ((rd_T85 l2 x49_3).f1))).setCell ⟨gb299, 2, none⟩ (.int .i64 ((rd_T85 l2 x49_3).f2))) w.heap.size (fun k_ => k_ ≠ gb299) v293 t292) := ⟨by (with_reducible repeat (first | apply Kd.R_alloc | apply Kd.R_drewN | apply Kd.R_drew)); exact Kd.R_mono (farsR (Kd.R_mono HO_12.out (fun k_ hk => (⟨hk, hk.2⟩ : _ ∧ k_ ≠ gb299)))) (fun _ hk => hk.1.2)⟩
             have n2_ : Aside0 ((((w39.setCell ⟨gb299, 0, none⟩ (.int .i64 ((rd_T85 l2 x49_3).f0))).setCell ⟨gb299, 1, none⟩ (.int .i64 ((rd_T85 l2 x49_3).f1))).setCell ⟨gb299, 2, none⟩ (.int .i64 ((rd_T85 l2 x49_3).f2))).heap[gb299]? = some (.cells #[.int .i64 ((rd_T85 l2 x49_3).f0), .int .i64 ((rd_T85 l2 x49_3).f1), .int .i64 ((rd_T85 l2 x49_3).f2)] 85 (0, 0))) := ⟨by (with_reducible repeat (first | refine blk_drewN ?_ _ | refine blk_drew ?_ | refine blk_alloc ?_ _)); refine blk_put (cs := #[.int .i64 ((rd_T85 l2 x49_3).f0), .int .i64 ((rd_T85 l2 x49_3).f1), .int .i64 0]) ?_ 2 _ rfl; (with_reducible repeat (first | refine blk_drewN ?_ _ | refine blk_drew ?_ | refine blk_alloc ?_ _)); refine blk_put (cs := #[.int .i64 ((rd_T85 l2 x49_3).f0), .int .i64 0, .int .i64 0]) ?_ 1 _ rfl; (with_reducible repeat (first | refine blk_drewN ?_ _ | refine blk_drew ?_ | refine blk_alloc ?_ _)); refine blk_put (cs := #[.int .i64 0, .int .i64 0, .int .i64 0]) ?_ 0 _ rfl; (with_reducible repeat (first | refine blk_drewN ?_ _ | refine blk_drew ?_ | refine blk_alloc ?_ _)); exact BK299.out⟩
             have n3_ : Aside0 (Below w.heap.size w (((w39.setCell ⟨gb299, 0, none⟩ (.int .i64 ((rd_T85 l2 x49_3).f0))).setCell ⟨gb299, 1, none⟩ (.int .i64 ((rd_T85 l2 x49_3).f1))).setCell ⟨gb299, 2, none⟩ (.int .i64 ((rd_T85 l2 x49_3).f2)))) := ⟨belowg1 HB GE299⟩
             (try clear HO_10); (try clear HO_12); (try clear BK299); (try clear HB)
             generalize (((w39.setCell ⟨gb299, 0, none⟩ (.int .i64 ((rd_T85 l2 x49_3).f0))).setCell ⟨gb299, 1, none⟩ (.int .i64 ((rd_T85 l2 x49_3).f1))).setCell ⟨gb299, 2, none⟩ (.int .i64 ((rd_T85 l2 x49_3).f2))) = w41 at n0_ n1_ n2_ n3_ ⊢
             have HO_10 := n0_
             have HO_12 := n1_
             have BK299 := n2_
             have HB := n3_
             clear n0_ n1_ n2_ n3_
             replace HO_10 := ak (Kd.R_drew HO_10.out)
             replace HO_12 := ak (Kd.R_drew HO_12.out)
             replace BK299 := ak (blk_drew BK299.out)
             replace HB := ak (below_drew1 HB.out)
             have q43 : (x49_3 : Int) ≤ ((l2.length : Int) : Int) := da
             obtain ⟨i043, hi043, _, hsz43, _⟩ := info_parts info85
             have hroom43 : l2.length ≤ c2 := HC2.out
             have hC43 : Kd.C k85 _ (some ad298) l2.length l2 := HR2.out
             have hcut43 := cut_to (P := Try.prog) 70 85 .i64 Try.underlying70 hi043 (some ad298) l2.length c2 x49_3 (da) q43 hroom43
             have hr43 := Kd.C_take (m := (x49_3 : Int).toNat) hC43 (by omega)
             have hy43 : y300.length = (x49_3 : Int).toNat := (by rw [Ny300.out, List.length_take]; omega)
             rw [← Ny300.out] at hr43
             rw [← hy43] at hcut43
             have HR303 := Aside0.mk hr43
             have HC303 := Aside0.mk (show y300.length ≤ c2 from by omega)
             clear hr43 hC43 hroom43 hi043 hsz43; have KY43 := Aside0.mk hy43; clear hy43; replace q43 := eq_true q43
             refine start_ (n := 18) (S := fun w' => w'.cell? ⟨gb299, 0, none⟩ = some (.int .i64 ((rd_T85 l2 x49_3).f0)) ∧ w'.cell? ⟨gb299, 1, none⟩ = some (.int .i64 ((rd_T85 l2 x49_3).f1)) ∧ w'.cell? ⟨gb299, 2, none⟩ = some (.int .i64 ((rd_T85 l2 x49_3).f2))) (ds := []) (bl 18 0) (by kernel_rfl) rfl rfl ⟨bq BK299 0, bq BK299 1, bq BK299 2⟩ (fun hHeld => ?_); refine with_tabW impl_TallyOf.tab11 impl_TallyOf.bits11 (fun HT_ HW_ => ?_)
             generalize w41.drew = w42 at HO_10 HO_12 BK299 HB HR303 hHeld ⊢
             refine pureA 0 (some 54) 18 1 HT_ ?_
             refine pureA 2 (some 56) 18 5 HT_ ?_
             refine takeA 1 (some 55) 18 7 HT_ HW_ hHeld ?_ (hy := by rintro w' ⟨s0, s1, s2⟩; go_simp; with_reducible rfl)
             refine pureA 3 (some 57) 18 15 HT_ ?_
             refine pureA 4 (some 58) 18 31 HT_ ?_
             refine pureA 5 (some 59) 18 63 HT_ ?_
             refine pureA 6 (some 60) 18 127 HT_ ?_
             refine pureA 7 (some 61) 18 255 HT_ ?_
             refine takeA 8 (some 62) 18 511 HT_ HW_ hHeld ?_ (hy := by rintro w' ⟨s0, s1, s2⟩; go_simp; with_reducible rfl)
             refine oneA 9 (some 63) 18 1023 HT_ (fun K hK => ?_)
             refine goes_ Try.func160 (by kernel_rfl) rfl #[.slice (some ad298) y300.length c2, .agg #[.int .i64 ((rd_T85 l2 x49_3).f0), .int .i64 ((rd_T85 l2 x49_3).f1), .int .i64 ((rd_T85 l2 x49_3).f2)]] (by rfl) rfl rfl (by (try simp only [List.map_toArray, List.map_cons, List.map_nil]); first | done | rfl | (simp only [List.length_drop, List.length_take]; rfl)) ?_
             with_reducible refine (impl_Claim_160.calls k3 _ _ y300 ((rd_T85 l2 x49_3).f0) ((rd_T85 l2 x49_3).f1) ((rd_T85 l2 x49_3).f2) false _ ?side1 ?side2 A29.out).mono ?_
             (case side1 => exact cd (Kd.C_below HR303.out HB.out))
             (case side2 => exact HC303.out)
             rintro e w44 ⟨rfl, hb⟩
             refine ⟨_, rfl, ?_⟩
             replace HO_10 := ak (Kd.R_below (rdl HO_10) hb)
             replace HO_12 := ak (Kd.R_below (rdl HO_12) hb)
             replace BK299 := ak (blk_below (blkd BK299) hb)
             replace HB := ak (below_step (belowg1 HB GE299) hb)
             (try clear hb); (try clear hb2); (try clear hk); (try clear hi)
             obtain ⟨Ao45, co45, eo45⟩ := Kd.R_slice HO_12.out
             (first | subst eo45 | (injection eo45 with f1_ f2_ f3_; have f4_ := f1_.symm; have f5_ := f3_.symm; clear f1_ f2_ f3_; subst f4_; subst f5_))
             refine hK.out _ _ ⟨bq BK299 0, bq BK299 1, bq BK299 2⟩ (fun hHeld => ?_)
             clear hK K
             refine norm_ (a' := ?_) ?_ ?_
             rotate_left
             ·show Act.put _ (some 63) _ = _
              simp only [Act.put, List.setIfInBounds_toArray, List.set_cons_zero, List.set_cons_succ, i64_w, i32_w]
              rfl
             refine pureA 10 (some 64) 18 2047 HT_ ?_
             refine pureA 11 (some 65) 18 4095 HT_ ?_
             refine pureA 12 (some 66) 18 8191 HT_ ?_
             refine pureA 13 (some 67) 18 16383 HT_ ?_
             refine takeA 14 (some 68) 18 32767 HT_ HW_ hHeld ?_ (hy := by rintro w' ⟨s0, s1, s2⟩; go_simp; with_reducible rfl)
             refine oneA 15 (some 69) 18 65535 HT_ (fun K hK => ?_)
             refine goes_ Try.func160 (by kernel_rfl) rfl #[.slice Ao45 t292.length co45, .agg #[.int .i64 ((rd_T85 l2 x49_3).f0), .int .i64 ((rd_T85 l2 x49_3).f1), .int .i64 ((rd_T85 l2 x49_3).f2)]] (by rfl) rfl rfl (by (try simp only [List.map_toArray, List.map_cons, List.map_nil]); first | done | rfl | (simp only [List.length_drop, List.length_take]; rfl)) ?_
             with_reducible refine (impl_Claim_160.calls k3 _ _ t292 ((rd_T85 l2 x49_3).f0) ((rd_T85 l2 x49_3).f1) ((rd_T85 l2 x49_3).f2) true _ ?side1 ?side2 A37.out).mono ?_
             (case side1 => exact cd (Kd.R_reads' HO_12.out).2.2)
             (case side2 => exact (Kd.R_reads' HO_12.out).2.1)
             rintro e w46 ⟨rfl, hb⟩
             refine ⟨_, rfl, ?_⟩
             replace HO_10 := ak (Kd.R_below (rdl HO_10) hb)
             replace HO_12 := ak (Kd.R_below (rdl HO_12) hb)
             replace BK299 := ak (blk_below (blkd BK299) hb)
             replace HB := ak (below_step (belowg1 HB GE299) hb)
             (try clear hb); (try clear hb2); (try clear hk); (try clear hi)
             refine hK.out _ _ ⟨bq BK299 0, bq BK299 1, bq BK299 2⟩ (fun hHeld => ?_)
             clear hK K
             refine norm_ (a' := ?_) ?_ ?_
             rotate_left
             ·show Act.put _ (some 69) _ = _
              simp only [Act.put, List.setIfInBounds_toArray, List.set_cons_zero, List.set_cons_succ, i64_w, i32_w]
              rfl
             refine pureA 16 (some 70) 18 131071 HT_ ?_
             refine pureA 17 (some 71) 18 262143 HT_ ?_
             refine done_ (done_of HT_.out (by kernel_rfl)) ?_
             try go_wp2
             go_roundg k3
             case measure => have := HJ4.out; have := HK2.out; have := HK3.out; omega
             case rel => exact ⟨(x13_3), (wrap64 (x49_3 + 1)), er, er, H', ⟨by have := HJ4.out; have := HK2.out; have := HK3.out; omega⟩, ⟨rdl HO_10⟩, ⟨by (with_reducible repeat (first | apply Kd.R_alloc | apply Kd.R_drewN | apply Kd.R_drew)); exact Kd.R_mono HO_12.out (fun _ hk => trivial)⟩, ⟨belowg1 HB GE299⟩⟩
            ·replace c38 := Bool.eq_false_iff.mpr c38
             subst c38
             have H1 : (impl_TallyOf.l1 k3 a1 l2 l3 x10_2 x40_2 t292 (wrap64 (x13_3 + 1)) a0 x40_2 l2 (l2.length : Int) (wrap64 (x49_3 + 1))) = some (r1, r2) := by rw [if_neg (show ¬ (false = true) by decide)] at H; exact H
             clear H
             have H := H1
             clear H1
             have H' := Aside0.mk H
             clear H
             have p298 : 0 ≤ (x49_3 : Int) := da
             have q298 : x49_3 < (l2.length : Int) := da
             obtain ⟨ad298, e298, hx298_0, hx298_1, hx298_2⟩ := at_T85 HR2.out x49_3 p298 q298
             cases e298
             replace hx298_0 := (HB.out.cell (World.block_lt_of_cell? w _ hx298_0)).trans hx298_0
             replace hx298_1 := (HB.out.cell (World.block_lt_of_cell? w _ hx298_1)).trans hx298_1
             replace hx298_2 := (HB.out.cell (World.block_lt_of_cell? w _ hx298_2)).trans hx298_2
             replace p298 := eq_true p298; replace q298 := eq_true q298
             try go_wp2_with (first | ((with_reducible refine gate_dst (N := 15) rfl ?_); (try (refine gate_guard (by rfl) ?_; dsimp only)); refine boxev 15 #[.int .i64 0, .int .i64 0, .int .i64 0] 85 ?_; intro gb299 hg w47 hbox hb; replace HO_10 := ak (Kd.R_below (rdl HO_10) hb); replace HO_12 := ak (Kd.R_below (Kd.R_elderB (rdl HO_12) gb299 (Nat.le_of_eq hg.symm)) hb); have BK299 := ak (hbox); have GW299 := ak (hgl hg (belowd HB)); have GE299 := ak (hgl hg (belowd HB)); replace HB := ak (below_step (belowd HB) hb); clear hb hbox hg; obtain ⟨hcz48_0, hcz48_1, hcz48_2, hfz48_0, hfz48_1, hfz48_2⟩ := box3 BK299))
             have n0_ : Aside0 (Kd.R k110 110 (((w47.setCell ⟨gb299, 0, none⟩ (.int .i64 ((rd_T85 l2 x49_3).f0))).setCell ⟨gb299, 1, none⟩ (.int .i64 ((rd_T85 l2 x49_3).f1))).setCell ⟨gb299, 2, none⟩ (.int .i64 ((rd_T85 l2 x49_3).f2))) w.heap.size (fun _ => True) u10 x10_2) := ⟨by (with_reducible repeat (first | apply Kd.R_alloc | apply Kd.R_drewN | apply Kd.R_drew)); exact Kd.R_mono (farsR (Kd.R_types HO_10.out BK299.out (by decide))) (fun _ hk => trivial)⟩
             have n1_ : Aside0 (Kd.R k85 85 (((w47.setCell ⟨gb299, 0, none⟩ (.int .i64 ((rd_T85 l2 x49_3).f0))).setCell ⟨gb299, 1, none⟩ (.int .i64 ((rd_T85 l2 x49_3).f1))).setCell ⟨gb299, 2, none⟩ (.int .i64 ((rd_T85 l2 x49_3).f2))) w.heap.size (fun k_ => k_ ≠ gb299) v293 t292) := ⟨by (with_reducible repeat (first | apply Kd.R_alloc | apply Kd.R_drewN | apply Kd.R_drew)); exact Kd.R_mono (farsR (Kd.R_mono HO_12.out (fun k_ hk => (⟨hk, hk.2⟩ : _ ∧ k_ ≠ gb299)))) (fun _ hk => hk.1.2)⟩
             have n2_ : Aside0 ((((w47.setCell ⟨gb299, 0, none⟩ (.int .i64 ((rd_T85 l2 x49_3).f0))).setCell ⟨gb299, 1, none⟩ (.int .i64 ((rd_T85 l2 x49_3).f1))).setCell ⟨gb299, 2, none⟩ (.int .i64 ((rd_T85 l2 x49_3).f2))).heap[gb299]? = some (.cells #[.int .i64 ((rd_T85 l2 x49_3).f0), .int .i64 ((rd_T85 l2 x49_3).f1), .int .i64 ((rd_T85 l2 x49_3).f2)] 85 (0, 0))) := ⟨by (with_reducible repeat (first | refine blk_drewN ?_ _ | refine blk_drew ?_ | refine blk_alloc ?_ _)); refine blk_put (cs := #[.int .i64 ((rd_T85 l2 x49_3).f0), .int .i64 ((rd_T85 l2 x49_3).f1), .int .i64 0]) ?_ 2 _ rfl; (with_reducible repeat (first | refine blk_drewN ?_ _ | refine blk_drew ?_ | refine blk_alloc ?_ _)); refine blk_put (cs := #[.int .i64 ((rd_T85 l2 x49_3).f0), .int .i64 0, .int .i64 0]) ?_ 1 _ rfl; (with_reducible repeat (first | refine blk_drewN ?_ _ | refine blk_drew ?_ | refine blk_alloc ?_ _)); refine blk_put (cs := #[.int .i64 0, .int .i64 0, .int .i64 0]) ?_ 0 _ rfl; (with_reducible repeat (first | refine blk_drewN ?_ _ | refine blk_drew ?_ | refine blk_alloc ?_ _)); exact BK299.out⟩
             have n3_ : Aside0 (Below w.heap.size w (((w47.setCell ⟨gb299, 0, none⟩ (.int .i64 ((rd_T85 l2 x49_3).f0))).setCell ⟨gb299, 1, none⟩ (.int .i64 ((rd_T85 l2 x49_3).f1))).setCell ⟨gb299, 2, none⟩ (.int .i64 ((rd_T85 l2 x49_3).f2)))) := ⟨belowg1 HB GE299⟩
             (try clear HO_10); (try clear HO_12); (try clear BK299); (try clear HB)
             generalize (((w47.setCell ⟨gb299, 0, none⟩ (.int .i64 ((rd_T85 l2 x49_3).f0))).setCell ⟨gb299, 1, none⟩ (.int .i64 ((rd_T85 l2 x49_3).f1))).setCell ⟨gb299, 2, none⟩ (.int .i64 ((rd_T85 l2 x49_3).f2))) = w49 at n0_ n1_ n2_ n3_ ⊢
             have HO_10 := n0_
             have HO_12 := n1_
             have BK299 := n2_
             have HB := n3_
             clear n0_ n1_ n2_ n3_
             replace HO_10 := ak (Kd.R_drew HO_10.out)
             replace HO_12 := ak (Kd.R_drew HO_12.out)
             replace BK299 := ak (blk_drew BK299.out)
             replace HB := ak (below_drew1 HB.out)
             have q51 : (x49_3 : Int) ≤ ((l2.length : Int) : Int) := da
             obtain ⟨i051, hi051, _, hsz51, _⟩ := info_parts info85
             have hroom51 : l2.length ≤ c2 := HC2.out
             have hC51 : Kd.C k85 _ (some ad298) l2.length l2 := HR2.out
             have hcut51 := cut_to (P := Try.prog) 70 85 .i64 Try.underlying70 hi051 (some ad298) l2.length c2 x49_3 (da) q51 hroom51
             have hr51 := Kd.C_take (m := (x49_3 : Int).toNat) hC51 (by omega)
             have hy51 : y300.length = (x49_3 : Int).toNat := (by rw [Ny300.out, List.length_take]; omega)
             rw [← Ny300.out] at hr51
             rw [← hy51] at hcut51
             have HR303 := Aside0.mk hr51
             have HC303 := Aside0.mk (show y300.length ≤ c2 from by omega)
             clear hr51 hC51 hroom51 hi051 hsz51; have KY51 := Aside0.mk hy51; clear hy51; replace q51 := eq_true q51
             refine start_ (n := 18) (S := fun w' => w'.cell? ⟨gb299, 0, none⟩ = some (.int .i64 ((rd_T85 l2 x49_3).f0)) ∧ w'.cell? ⟨gb299, 1, none⟩ = some (.int .i64 ((rd_T85 l2 x49_3).f1)) ∧ w'.cell? ⟨gb299, 2, none⟩ = some (.int .i64 ((rd_T85 l2 x49_3).f2))) (ds := []) (bl 18 0) (by kernel_rfl) rfl rfl ⟨bq BK299 0, bq BK299 1, bq BK299 2⟩ (fun hHeld => ?_); refine with_tabW impl_TallyOf.tab11 impl_TallyOf.bits11 (fun HT_ HW_ => ?_)
             generalize w49.drew = w50 at HO_10 HO_12 BK299 HB HR303 hHeld ⊢
             refine pureA 0 (some 54) 18 1 HT_ ?_
             refine pureA 2 (some 56) 18 5 HT_ ?_
             refine takeA 1 (some 55) 18 7 HT_ HW_ hHeld ?_ (hy := by rintro w' ⟨s0, s1, s2⟩; go_simp; with_reducible rfl)
             refine pureA 3 (some 57) 18 15 HT_ ?_
             refine pureA 4 (some 58) 18 31 HT_ ?_
             refine pureA 5 (some 59) 18 63 HT_ ?_
             refine pureA 6 (some 60) 18 127 HT_ ?_
             refine pureA 7 (some 61) 18 255 HT_ ?_
             refine takeA 8 (some 62) 18 511 HT_ HW_ hHeld ?_ (hy := by rintro w' ⟨s0, s1, s2⟩; go_simp; with_reducible rfl)
             refine oneA 9 (some 63) 18 1023 HT_ (fun K hK => ?_)
             refine goes_ Try.func160 (by kernel_rfl) rfl #[.slice (some ad298) y300.length c2, .agg #[.int .i64 ((rd_T85 l2 x49_3).f0), .int .i64 ((rd_T85 l2 x49_3).f1), .int .i64 ((rd_T85 l2 x49_3).f2)]] (by rfl) rfl rfl (by (try simp only [List.map_toArray, List.map_cons, List.map_nil]); first | done | rfl | (simp only [List.length_drop, List.length_take]; rfl)) ?_
             with_reducible refine (impl_Claim_160.calls k3 _ _ y300 ((rd_T85 l2 x49_3).f0) ((rd_T85 l2 x49_3).f1) ((rd_T85 l2 x49_3).f2) false _ ?side1 ?side2 A29.out).mono ?_
             (case side1 => exact cd (Kd.C_below HR303.out HB.out))
             (case side2 => exact HC303.out)
             rintro e w52 ⟨rfl, hb⟩
             refine ⟨_, rfl, ?_⟩
             replace HO_10 := ak (Kd.R_below (rdl HO_10) hb)
             replace HO_12 := ak (Kd.R_below (rdl HO_12) hb)
             replace BK299 := ak (blk_below (blkd BK299) hb)
             replace HB := ak (below_step (belowg1 HB GE299) hb)
             (try clear hb); (try clear hb2); (try clear hk); (try clear hi)
             obtain ⟨Ao53, co53, eo53⟩ := Kd.R_slice HO_12.out
             (first | subst eo53 | (injection eo53 with f1_ f2_ f3_; have f4_ := f1_.symm; have f5_ := f3_.symm; clear f1_ f2_ f3_; subst f4_; subst f5_))
             refine hK.out _ _ ⟨bq BK299 0, bq BK299 1, bq BK299 2⟩ (fun hHeld => ?_)
             clear hK K
             refine norm_ (a' := ?_) ?_ ?_
             rotate_left
             ·show Act.put _ (some 63) _ = _
              simp only [Act.put, List.setIfInBounds_toArray, List.set_cons_zero, List.set_cons_succ, i64_w, i32_w]
              rfl
             refine pureA 10 (some 64) 18 2047 HT_ ?_
             refine pureA 11 (some 65) 18 4095 HT_ ?_
             refine pureA 12 (some 66) 18 8191 HT_ ?_
             refine pureA 13 (some 67) 18 16383 HT_ ?_
             refine takeA 14 (some 68) 18 32767 HT_ HW_ hHeld ?_ (hy := by rintro w' ⟨s0, s1, s2⟩; go_simp; with_reducible rfl)
             refine oneA 15 (some 69) 18 65535 HT_ (fun K hK => ?_)
             refine goes_ Try.func160 (by kernel_rfl) rfl #[.slice Ao53 t292.length co53, .agg #[.int .i64 ((rd_T85 l2 x49_3).f0), .int .i64 ((rd_T85 l2 x49_3).f1), .int .i64 ((rd_T85 l2 x49_3).f2)]] (by rfl) rfl rfl (by (try simp only [List.map_toArray, List.map_cons, List.map_nil]); first | done | rfl | (simp only [List.length_drop, List.length_take]; rfl)) ?_
             with_reducible refine (impl_Claim_160.calls k3 _ _ t292 ((rd_T85 l2 x49_3).f0) ((rd_T85 l2 x49_3).f1) ((rd_T85 l2 x49_3).f2) false _ ?side1 ?side2 A37.out).mono ?_
             (case side1 => exact cd (Kd.R_reads' HO_12.out).2.2)
             (case side2 => exact (Kd.R_reads' HO_12.out).2.1)
             rintro e w54 ⟨rfl, hb⟩
             refine ⟨_, rfl, ?_⟩
             replace HO_10 := ak (Kd.R_below (rdl HO_10) hb)
             replace HO_12 := ak (Kd.R_below (rdl HO_12) hb)
             replace BK299 := ak (blk_below (blkd BK299) hb)
             replace HB := ak (below_step (belowg1 HB GE299) hb)
             (try clear hb); (try clear hb2); (try clear hk); (try clear hi)
             refine hK.out _ _ ⟨bq BK299 0, bq BK299 1, bq BK299 2⟩ (fun hHeld => ?_)
             clear hK K
             refine norm_ (a' := ?_) ?_ ?_
             rotate_left
             ·show Act.put _ (some 69) _ = _
              simp only [Act.put, List.setIfInBounds_toArray, List.set_cons_zero, List.set_cons_succ, i64_w, i32_w]
              rfl
             refine pureA 16 (some 70) 18 131071 HT_ ?_
             refine pureA 17 (some 71) 18 262143 HT_ ?_
             refine done_ (done_of HT_.out (by kernel_rfl)) ?_
             try go_wp2
             go_roundg k3
             case measure => have := HJ4.out; have := HK2.out; have := HK3.out; omega
             case rel => exact ⟨(wrap64 (x13_3 + 1)), (wrap64 (x49_3 + 1)), er, er, H', ⟨by have := HJ4.out; have := HK2.out; have := HK3.out; omega⟩, ⟨rdl HO_10⟩, ⟨by (with_reducible repeat (first | apply Kd.R_alloc | apply Kd.R_drewN | apply Kd.R_drew)); exact Kd.R_mono HO_12.out (fun _ hk => trivial)⟩, ⟨belowg1 HB GE299⟩⟩
          ·rw [if_neg c26] at H
           have c26b0 : (((rd_T85 l2 x49_3).f0) == x40_2) = false := beq_eq_false_iff_ne.mpr c26
           have c26b1 : (((rd_T85 l2 x49_3).f0) != x40_2) = true := bne_iff_ne.mpr c26
           have H' := Aside0.mk H
           clear H
           have p298 : 0 ≤ (x49_3 : Int) := da
           have q298 : x49_3 < (l2.length : Int) := da
           obtain ⟨ad298, e298, hx298_0, hx298_1, hx298_2⟩ := at_T85 HR2.out x49_3 p298 q298
           cases e298
           replace hx298_0 := (HB.out.cell (World.block_lt_of_cell? w _ hx298_0)).trans hx298_0
           replace hx298_1 := (HB.out.cell (World.block_lt_of_cell? w _ hx298_1)).trans hx298_1
           replace hx298_2 := (HB.out.cell (World.block_lt_of_cell? w _ hx298_2)).trans hx298_2
           replace p298 := eq_true p298; replace q298 := eq_true q298
           try go_wp2_with (first | ((with_reducible refine gate_dst (N := 15) rfl ?_); (try (refine gate_guard (by rfl) ?_; dsimp only)); refine boxev 15 #[.int .i64 0, .int .i64 0, .int .i64 0] 85 ?_; intro gb299 hg w55 hbox hb; replace HO_10 := ak (Kd.R_below (rdl HO_10) hb); replace HO_12 := ak (Kd.R_below (Kd.R_elderB (rdl HO_12) gb299 (Nat.le_of_eq hg.symm)) hb); have BK299 := ak (hbox); have GW299 := ak (hgl hg (belowd HB)); have GE299 := ak (hgl hg (belowd HB)); replace HB := ak (below_step (belowd HB) hb); clear hb hbox hg; obtain ⟨hcz56_0, hcz56_1, hcz56_2, hfz56_0, hfz56_1, hfz56_2⟩ := box3 BK299))
           have n0_ : Aside0 (Kd.R k110 110 (((w55.setCell ⟨gb299, 0, none⟩ (.int .i64 ((rd_T85 l2 x49_3).f0))).setCell ⟨gb299, 1, none⟩ (.int .i64 ((rd_T85 l2 x49_3).f1))).setCell ⟨gb299, 2, none⟩ (.int .i64 ((rd_T85 l2 x49_3).f2))) w.heap.size (fun _ => True) u10 x10_2) := ⟨by (with_reducible repeat (first | apply Kd.R_alloc | apply Kd.R_drewN | apply Kd.R_drew)); exact Kd.R_mono (farsR (Kd.R_types HO_10.out BK299.out (by decide))) (fun _ hk => trivial)⟩
           have n1_ : Aside0 (Kd.R k85 85 (((w55.setCell ⟨gb299, 0, none⟩ (.int .i64 ((rd_T85 l2 x49_3).f0))).setCell ⟨gb299, 1, none⟩ (.int .i64 ((rd_T85 l2 x49_3).f1))).setCell ⟨gb299, 2, none⟩ (.int .i64 ((rd_T85 l2 x49_3).f2))) w.heap.size (fun k_ => k_ ≠ gb299) v293 t292) := ⟨by (with_reducible repeat (first | apply Kd.R_alloc | apply Kd.R_drewN | apply Kd.R_drew)); exact Kd.R_mono (farsR (Kd.R_mono HO_12.out (fun k_ hk => (⟨hk, hk.2⟩ : _ ∧ k_ ≠ gb299)))) (fun _ hk => hk.1.2)⟩
           have n2_ : Aside0 ((((w55.setCell ⟨gb299, 0, none⟩ (.int .i64 ((rd_T85 l2 x49_3).f0))).setCell ⟨gb299, 1, none⟩ (.int .i64 ((rd_T85 l2 x49_3).f1))).setCell ⟨gb299, 2, none⟩ (.int .i64 ((rd_T85 l2 x49_3).f2))).heap[gb299]? = some (.cells #[.int .i64 ((rd_T85 l2 x49_3).f0), .int .i64 ((rd_T85 l2 x49_3).f1), .int .i64 ((rd_T85 l2 x49_3).f2)] 85 (0, 0))) := ⟨by (with_reducible repeat (first | refine blk_drewN ?_ _ | refine blk_drew ?_ | refine blk_alloc ?_ _)); refine blk_put (cs := #[.int .i64 ((rd_T85 l2 x49_3).f0), .int .i64 ((rd_T85 l2 x49_3).f1), .int .i64 0]) ?_ 2 _ rfl; (with_reducible repeat (first | refine blk_drewN ?_ _ | refine blk_drew ?_ | refine blk_alloc ?_ _)); refine blk_put (cs := #[.int .i64 ((rd_T85 l2 x49_3).f0), .int .i64 0, .int .i64 0]) ?_ 1 _ rfl; (with_reducible repeat (first | refine blk_drewN ?_ _ | refine blk_drew ?_ | refine blk_alloc ?_ _)); refine blk_put (cs := #[.int .i64 0, .int .i64 0, .int .i64 0]) ?_ 0 _ rfl; (with_reducible repeat (first | refine blk_drewN ?_ _ | refine blk_drew ?_ | refine blk_alloc ?_ _)); exact BK299.out⟩
           have n3_ : Aside0 (Below w.heap.size w (((w55.setCell ⟨gb299, 0, none⟩ (.int .i64 ((rd_T85 l2 x49_3).f0))).setCell ⟨gb299, 1, none⟩ (.int .i64 ((rd_T85 l2 x49_3).f1))).setCell ⟨gb299, 2, none⟩ (.int .i64 ((rd_T85 l2 x49_3).f2)))) := ⟨belowg1 HB GE299⟩
           (try clear HO_10); (try clear HO_12); (try clear BK299); (try clear HB)
           generalize (((w55.setCell ⟨gb299, 0, none⟩ (.int .i64 ((rd_T85 l2 x49_3).f0))).setCell ⟨gb299, 1, none⟩ (.int .i64 ((rd_T85 l2 x49_3).f1))).setCell ⟨gb299, 2, none⟩ (.int .i64 ((rd_T85 l2 x49_3).f2))) = w57 at n0_ n1_ n2_ n3_ ⊢
           have HO_10 := n0_
           have HO_12 := n1_
           have BK299 := n2_
           have HB := n3_
           clear n0_ n1_ n2_ n3_
           replace HO_10 := ak (Kd.R_drew HO_10.out)
           replace HO_12 := ak (Kd.R_drew HO_12.out)
           replace BK299 := ak (blk_drew BK299.out)
           replace HB := ak (below_drew1 HB.out)
           refine start_ (n := 18) (S := fun w' => w'.cell? ⟨gb299, 0, none⟩ = some (.int .i64 ((rd_T85 l2 x49_3).f0)) ∧ w'.cell? ⟨gb299, 1, none⟩ = some (.int .i64 ((rd_T85 l2 x49_3).f1)) ∧ w'.cell? ⟨gb299, 2, none⟩ = some (.int .i64 ((rd_T85 l2 x49_3).f2))) (ds := []) (bl 18 0) (by kernel_rfl) rfl rfl ⟨bq BK299 0, bq BK299 1, bq BK299 2⟩ (fun hHeld => ?_); refine with_tabW impl_TallyOf.tab11 impl_TallyOf.bits11 (fun HT_ HW_ => ?_)
           generalize w57.drew = w58 at HO_10 HO_12 BK299 HB hHeld ⊢
           refine pureA 0 (some 54) 18 1 HT_ ?_
           refine pureA 2 (some 56) 18 5 HT_ ?_
           refine takeA 1 (some 55) 18 7 HT_ HW_ hHeld ?_ (hy := by rintro w' ⟨s0, s1, s2⟩; go_simp; with_reducible rfl)
           refine pureA 3 (some 57) 18 15 HT_ ?_
           refine pureA 4 (some 58) 18 31 HT_ ?_
           refine pureB 5 (some 59) 18 63 HT_ ?_
           refine pureB 6 (some 60) 18 127 HT_ ?_
           refine pureB 7 (some 61) 18 255 HT_ ?_
           refine pureB 8 (some 62) 18 511 HT_ ?_
           refine pureB 9 (some 63) 18 1023 HT_ ?_
           refine pureB 10 (some 64) 18 2047 HT_ ?_
           refine pureA 11 (some 65) 18 4095 HT_ ?_
           refine pureA 12 (some 66) 18 8191 HT_ ?_
           refine pureB 13 (some 67) 18 16383 HT_ ?_
           refine pureB 14 (some 68) 18 32767 HT_ ?_
           refine pureB 15 (some 69) 18 65535 HT_ ?_
           refine pureB 16 (some 70) 18 131071 HT_ ?_
           refine pureA 17 (some 71) 18 262143 HT_ ?_
           refine done_ (done_of HT_.out (by kernel_rfl)) ?_
           try go_wp2
           go_roundg k3
           case measure => have := HJ4.out; have := HK2.out; have := HK3.out; omega
           case rel => exact ⟨(x13_3), (wrap64 (x49_3 + 1)), er, er, H', ⟨by have := HJ4.out; have := HK2.out; have := HK3.out; omega⟩, ⟨rdl HO_10⟩, ⟨by (with_reducible repeat (first | apply Kd.R_alloc | apply Kd.R_drewN | apply Kd.R_drew)); exact Kd.R_mono HO_12.out (fun _ hk => trivial)⟩, ⟨belowg1 HB GE299⟩⟩
         ·rw [if_neg c23] at H
          have c23b0 : decide (x49_3 < (l2.length : Int)) = false := decide_eq_false c23
          clear c23; replace H := ifS H; obtain ⟨c59, H⟩ := H; have LMc59 := Aside0.mk c59; clear c59
          obtain ⟨y295, hy_⟩ : ∃ y_ : List (S110), y_ = (x10_2 ++ [(⟨x40_2, x13_3, (t292.length : Int)⟩ : S110)]) := ⟨_, rfl⟩
          replace H : (impl_TallyOf.l0 k3 a1 l2 l3 y295 a0 (wrap64 (x40_2 + 1))) = some (r1, r2) := yH
          have Ny295 := ak hy_; clear hy_
          have H' := Aside0.mk H
          clear H
          obtain ⟨Ao60, co60, eo60⟩ := Kd.R_slice HO_12.out
          subst eo60
          go_wp2_with (first | ((with_reducible refine gate_builtin (b := .append) (xs := #[.tmp 75, .tmp 81]) rfl ?_); (try (refine gate_guard (by rfl) ?_; dsimp only)); at_builtin; refine Kd.R_append k110 (w0 := w) w.heap.size rfl (.tmp 75) (.tmp 81) 99 110 (.agg #[(.int .i64 0), (.int .i64 0), (.int .i64 0)]) 24 rfl Try.underlying99 info110 rfl (by decide) (by omega) u10 x10_2 (⟨x40_2, x13_3, (t292.length : Int)⟩ : S110) [.int .i64 x40_2, .int .i64 x13_3, .int .i64 (t292.length : Int)] (fun _ => True) (fun _ => False) rfl rfl ?aP (fun _ hk => hk.elim) ?aF ?aO ?aB ?aS ?aL ?_; (case aP => exact k110_mkM _ _ _ (⟨x40_2, x13_3, (t292.length : Int)⟩ : S110)); (case aB => exact (belowd HB)); (case aF => exact (fun _ _ => trivial)); (case aO => exact (rdl HO_10)); (case aS => exact (below_size (belowd HB))); (case aL => have := LMc59.out; omega); intro v296 w61 ho hb hg hat; rw [← Ny295.out] at ho; replace HO_12 := ak (Kd.R_over' (rdl HO_12) (Kd.R_typed (rdl HO_10)) (by decide) hg); replace HB := ak (hb); have HO297 := ak (ho); clear HO_10; clear ho hb hg hat))
          go_roundg k3
          case measure => have := HJ4.out; have := HK2.out; have := HK3.out; omega
          case rel => exact ⟨(y295), (wrap64 (x40_2 + 1)), er, H', ⟨by have := HJ4.out; have := HK2.out; have := HK3.out; omega⟩, ⟨rdl HO297⟩, ⟨belowd HB⟩⟩
      ·rw [if_neg c20] at H
       have c20b0 : decide (x40_2 < a0) = false := decide_eq_false c20
       clear c20
       simp only [Option.some.injEq, Prod.mk.injEq] at H
       obtain ⟨rfl, rfl⟩ := H; go_wp2
       go_ret2
       exact ⟨_, er2, by (with_reducible repeat (first | apply Kd.R_alloc | apply Kd.R_drewN | apply Kd.R_drew)); exact HO_10.out, belowd HB⟩

/-- A state of type 151 at block g of W; what its slices lead to came in by w0. -/
def IsS151 (w0 W : World) (g : Nat) (f0 : List Int) (f1 : Int) (f2 : Int) : Prop := ∃ A0 c0, W.heap[g]? = some (.cells #[.slice A0 f0.length c0, .int .i64 f1, .int .u64 f2] 151 (0, 0)) ∧ w0.heap.size ≤ g ∧ Kd.C (Kd.int .u8) w0 A0 f0.length f0
theorem IsS151.grown {w0 W : World} {g : Nat} {f0 : List Int} {f1 : Int} {f2 : Int} {W1 : World} {row : Option Nat} (h : IsS151 w0 W g f0 f1 f2) (hw : W.grownBy W1 row) (hne : some g ≠ row) : IsS151 w0 W1 g f0 f1 f2 := by
 obtain ⟨A0, c0, hb, hg, hr0⟩ := h
 exact ⟨A0, c0, blk_grown hb hw hne, hg, hr0⟩
theorem IsS151.own_neN {w0 W : World} {g : Nat} {f0 : List Int} {f1 : Int} {f2 : Int} {α : Type} {d : Kd α} {e : Nat} {base : Nat} {ok : Nat → Prop} {v : Value} {xs : List α} (h : IsS151 w0 W g f0 f1 f2) (ho : Kd.N d e W base ok v xs) (ht : e ≠ 151) : some g ≠ v.ownBlock := by
 obtain ⟨A0, c0, hb, hg, hr0⟩ := h
 exact Kd.N_ne ho hb ht
theorem IsS151.fresh {w0 W : World} {g : Nat} {f0 : List Int} {f1 : Int} {f2 : Int} (h : IsS151 w0 W g f0 f1 f2) : ∀ k, W.heap.size ≤ k → k ≠ g := by
 obtain ⟨A0, c0, hb, hg, hr0⟩ := h
 exact Kd.freshB hb
theorem IsS151.kept {w0 W : World} {g : Nat} {f0 : List Int} {f1 : Int} {f2 : Int} {W1 : World} {S : Nat → Prop} (h : IsS151 w0 W g f0 f1 f2) (hk : Kept W W1 S) (hne : ¬ S g) : IsS151 w0 W1 g f0 f1 f2 := by
 obtain ⟨A0, c0, hb, hg, hr0⟩ := h
 exact ⟨A0, c0, blk_kept hb hk hne, hg, hr0⟩
theorem IsS151.below {w0 W : World} {g : Nat} {f0 : List Int} {f1 : Int} {f2 : Int} {W1 : World} (h : IsS151 w0 W g f0 f1 f2) (hw : Below W.heap.size W W1) : IsS151 w0 W1 g f0 f1 f2 := h.grown (grown_of_below hw none) (by simp)
theorem IsS151.alloc {w0 W : World} {g : Nat} {f0 : List Int} {f1 : Int} {f2 : Int} (h : IsS151 w0 W g f0 f1 f2) (o : Obj) : IsS151 w0 (W.alloc o) g f0 f1 f2 := h.below (below_alloc (Below.refl _ _) o)
theorem IsS151.drewN {w0 W : World} {g : Nat} {f0 : List Int} {f1 : Int} {f2 : Int} (h : IsS151 w0 W g f0 f1 f2) (m : Nat) : IsS151 w0 (W.drewN m) g f0 f1 f2 := h
theorem IsS151.drew {w0 W : World} {g : Nat} {f0 : List Int} {f1 : Int} {f2 : Int} (h : IsS151 w0 W g f0 f1 f2) : IsS151 w0 W.drew g f0 f1 f2 := h
theorem IsS151.at_ {w0 W : World} {g : Nat} {f0 : List Int} {f1 : Int} {f2 : Int} {w' : World} {m : Nat} (hq : W.drewN m = w') (h : IsS151 w0 W g f0 f1 f2) : IsS151 w0 w' g f0 f1 f2 := by subst hq; exact IsS151.drewN h m
theorem IsS151.apart {w0 W : World} {g : Nat} {f0 : List Int} {f1 : Int} {f2 : Int} {α : Type} {d : Kd α} {e : Nat} {base : Nat} {ok : Nat → Prop} {v : Value} {xs : List α} (h : IsS151 w0 W g f0 f1 f2) (ho : d.R e W base ok v xs) (ht : ∀ q, q ∈ e :: d.E → q ≠ 151) : d.R e W base (fun k => ok k ∧ k ≠ g) v xs := by
 obtain ⟨A0, c0, hb, hg, hr0⟩ := h
 exact Kd.R_types ho hb ht
theorem IsS151.own_ne {w0 W : World} {g : Nat} {f0 : List Int} {f1 : Int} {f2 : Int} {α : Type} {d : Kd α} {e : Nat} {base : Nat} {ok : Nat → Prop} {v : Value} {xs : List α} (h : IsS151 w0 W g f0 f1 f2) (ho : d.R e W base ok v xs) (ht : e ≠ 151) : some g ≠ v.ownBlock := by
 obtain ⟨A0, c0, hb, hg, hr0⟩ := h
 exact Kd.R_ne ho hb ht
theorem IsS151.apartQ {w0 W : World} {g : Nat} {f0 : List Int} {f1 : Int} {f2 : Int} {α : Type} {d : Kd α} {e : Nat} {base : Nat} {ok : Nat → Prop} {v : Value} {xs : List α} (h : IsS151 w0 W g f0 f1 f2) (ho : d.Q e W base ok v xs) (ht : ∀ q, q ∈ e :: d.E → q ≠ 151) : d.Q e W base (fun k => ok k ∧ k ≠ g) v xs := by
 obtain ⟨A0, c0, hb, hg, hr0⟩ := h
 exact Kd.Q_types ho hb ht
theorem IsS151.own_neQ {w0 W : World} {g : Nat} {f0 : List Int} {f1 : Int} {f2 : Int} {α : Type} {d : Kd α} {e : Nat} {base : Nat} {ok : Nat → Prop} {v : Value} {xs : List α} (h : IsS151 w0 W g f0 f1 f2) (ho : d.Q e W base ok v xs) (ht : e ≠ 151) : some g ≠ v.ownBlock := by
 obtain ⟨A0, c0, hb, hg, hr0⟩ := h
 exact Kd.Q_ne ho hb ht
theorem IsS151.apartS {w0 W : World} {g : Nat} {f0 : List Int} {f1 : Int} {f2 : Int} {α : Type} {d : Kd α} {e : Nat} {base : Nat} {ok : Nat → Prop} {v : Value} {xs : List α} (h : IsS151 w0 W g f0 f1 f2) (ho : d.S e W base ok v xs) (ht : ∀ q, q ∈ e :: d.E → q ≠ 151) : d.S e W base (fun k => ok k ∧ k ≠ g) v xs := by
 obtain ⟨A0, c0, hb, hg, hr0⟩ := h
 exact Kd.S_types ho hb ht
theorem IsS151.own_neS {w0 W : World} {g : Nat} {f0 : List Int} {f1 : Int} {f2 : Int} {α : Type} {d : Kd α} {e : Nat} {base : Nat} {ok : Nat → Prop} {v : Value} {xs : List α} (h : IsS151 w0 W g f0 f1 f2) (ho : d.S e W base ok v xs) (ht : e ≠ 151) : some g ≠ v.ownBlock := by
 obtain ⟨A0, c0, hb, hg, hr0⟩ := h
 exact Kd.S_ne ho hb ht
theorem IsS151.of_blk {w0 W : World} {g : Nat} {f0 : List Int} {f1 : Int} {f2 : Int} {A0 : Option Addr} {c0 : Nat} (hb : W.heap[g]? = some (.cells #[.slice A0 f0.length c0, .int .i64 f1, .int .u64 f2] 151 (0, 0))) (hg : w0.heap.size ≤ g) (hr0 : Kd.C (Kd.int .u8) w0 A0 f0.length f0) : IsS151 w0 W g f0 f1 f2 := ⟨A0, c0, hb, hg, hr0⟩
theorem IsS151.lt {w0 W : World} {g : Nat} {f0 : List Int} {f1 : Int} {f2 : Int} (h : IsS151 w0 W g f0 f1 f2) : g < W.heap.size := by
 obtain ⟨A0, c0, hb, hg, hr0⟩ := h
 exact blk_lt hb
theorem IsS151.ge {w0 W : World} {g : Nat} {f0 : List Int} {f1 : Int} {f2 : Int} (h : IsS151 w0 W g f0 f1 f2) : w0.heap.size ≤ g := by
 obtain ⟨A0, c0, hb, hg, hr0⟩ := h
 exact hg
theorem IsS151.ne_blk {w0 W : World} {g : Nat} {f0 : List Int} {f1 : Int} {f2 : Int} {a : Nat} {cs : Array Value} {t : TypeId} {fr : Nat × Nat} (h : IsS151 w0 W g f0 f1 f2) (hb2 : W.heap[a]? = some (.cells cs t fr)) (ht : t ≠ 151) : g ≠ a := by
 obtain ⟨A0, c0, hb, hg, hr0⟩ := h
 rintro rfl
 rw [hb] at hb2
 injection hb2 with hb2
 injection hb2 with _ ht2
 exact ht ht2.symm
theorem IsS151.far {w0 W : World} {g : Nat} {f0 : List Int} {f1 : Int} {f2 : Int} {p : Addr} (h : IsS151 w0 W g f0 f1 f2) (hne : g ≠ p.block) (u : Value) : IsS151 w0 (W.setCell p u) g f0 f1 f2 := by
 obtain ⟨A0, c0, hb, hg, hr0⟩ := h
 exact ⟨A0, c0, blk_far hb hne u, hg, hr0⟩
theorem cellS151_0 {W : World} {g : Nat} {A0 : Option Addr} {c0 : Nat} {f0 : List Int} {f1 : Int} {f2 : Int} (h : W.heap[g]? = some (.cells #[.slice A0 f0.length c0, .int .i64 f1, .int .u64 f2] 151 (0, 0))) : W.cell? ⟨g, 0, none⟩ = some (.slice A0 f0.length c0) := (blk_cell h 0).trans rfl
theorem cellS151_1 {W : World} {g : Nat} {A0 : Option Addr} {c0 : Nat} {f0 : List Int} {f1 : Int} {f2 : Int} (h : W.heap[g]? = some (.cells #[.slice A0 f0.length c0, .int .i64 f1, .int .u64 f2] 151 (0, 0))) : W.cell? ⟨g, 1, none⟩ = some (.int .i64 f1) := (blk_cell h 1).trans rfl
theorem IsS151.set_1 {w0 W : World} {g : Nat} {f0 : List Int} {f1 : Int} {f2 : Int} (h : IsS151 w0 W g f0 f1 f2) (x : Int) : IsS151 w0 (W.setCell ⟨g, 1, none⟩ (.int .i64 x)) g f0 x f2 := by
 obtain ⟨A0, c0, hb, hg, hr0⟩ := h
 exact ⟨A0, c0, by simpa using blk_set hb 1 (.int .i64 x), hg, hr0⟩
theorem cellS151_2 {W : World} {g : Nat} {A0 : Option Addr} {c0 : Nat} {f0 : List Int} {f1 : Int} {f2 : Int} (h : W.heap[g]? = some (.cells #[.slice A0 f0.length c0, .int .i64 f1, .int .u64 f2] 151 (0, 0))) : W.cell? ⟨g, 2, none⟩ = some (.int .u64 f2) := (blk_cell h 2).trans rfl
theorem IsS151.set_2 {w0 W : World} {g : Nat} {f0 : List Int} {f1 : Int} {f2 : Int} (h : IsS151 w0 W g f0 f1 f2) (x : Int) : IsS151 w0 (W.setCell ⟨g, 2, none⟩ (.int .u64 x)) g f0 f1 x := by
 obtain ⟨A0, c0, hb, hg, hr0⟩ := h
 exact ⟨A0, c0, by simpa using blk_set hb 2 (.int .u64 x), hg, hr0⟩
theorem IsS151.new (w0 W : World) (A0 : Option Addr) (c0 : Nat) (f0 : List Int) (f1 : Int) (f2 : Int) (hB : Below w0.heap.size w0 W) (hr0 : Kd.C (Kd.int .u8) w0 A0 f0.length f0) : IsS151 w0 (W.alloc (.cells #[.slice A0 f0.length c0, .int .i64 f1, .int .u64 f2] 151)) W.heap.size f0 f1 f2 := ⟨A0, c0, by simpa using heap_alloc_new W _, hB.size, hr0⟩

/-! ### spec_l1Cur_next: function 206 -/
def spec_l1Cur_next.f (s0_0 : List Int) (s0_1 : Int) (s0_2 : Int) : Option (Int × Int × Int) := if s0_1 < (s0_0.length : Int) then (if 0 ≤ s0_1 then (if (wrap64 (s0_1 + 1)) ≤ (s0_0.length : Int) then (some (wrap64 (rd s0_0 s0_1), wrap64 (s0_1 + 1), IntKind.u64.wrap ((IntKind.u64.wrap ((IntKind.u64.wrap (s0_2 * 6364136223846793005)) + (IntKind.u64.wrap (wrap64 (rd s0_0 s0_1))))) + 1442695040888963407))) else (some (wrap64 (Go.bits .and .u64 ((IntKind.u64.wrap ((IntKind.u64.wrap ((IntKind.u64.wrap (s0_2 * 6364136223846793005)) + (IntKind.u64.wrap (wrap64 (rd s0_0 s0_1))))) + 1442695040888963407)) / 1099511627776) 255), wrap64 (s0_1 + 1), IntKind.u64.wrap ((IntKind.u64.wrap ((IntKind.u64.wrap (s0_2 * 6364136223846793005)) + (IntKind.u64.wrap (wrap64 (rd s0_0 s0_1))))) + 1442695040888963407)))) else (none)) else (if (wrap64 (s0_1 + 1)) ≤ (s0_0.length : Int) then (some (0, wrap64 (s0_1 + 1), IntKind.u64.wrap ((IntKind.u64.wrap ((IntKind.u64.wrap (s0_2 * 6364136223846793005)))) + 1442695040888963407))) else (some (wrap64 (Go.bits .and .u64 ((IntKind.u64.wrap ((IntKind.u64.wrap ((IntKind.u64.wrap (s0_2 * 6364136223846793005)))) + 1442695040888963407)) / 1099511627776) 255), wrap64 (s0_1 + 1), IntKind.u64.wrap ((IntKind.u64.wrap ((IntKind.u64.wrap (s0_2 * 6364136223846793005)))) + 1442695040888963407))))
set_option maxHeartbeats 8000000 in
set_option maxRecDepth 100000 in
theorem spec_l1Cur_next.calls (g : Nat) (s0_0 : List Int) (s0_1 : Int) (s0_2 : Int) (r1 : Int) (r2 : Int) (r3 : Int) (w0 w : World) (hI : IsS151 w0 w g s0_0 s0_1 s0_2) (hB : Below w0.heap.size w0 w) (h : spec_l1Cur_next.f s0_0 s0_1 s0_2 = some (r1, r2, r3)) :
  Calls Try.prog 206 #[.pointer (some ⟨g, 0, none⟩)] w fun e w' => e = .returned (.int .i64 r1) ∧ IsS151 w0 w' g s0_0 r2 r3 ∧ Below w0.heap.size w0 w' ∧ KeepBut w w' g none := by
 have HI0 := Aside0.mk hI
 have HK := Aside0.mk (KeepBut.refl w g none)
 have HL := Aside0.mk hB.size
 clear hI
 have HW0 := Aside0.mk hB.size
 have HB := Aside0.mk hB; clear hB
 have H : (if s0_1 < (s0_0.length : Int) then (if 0 ≤ s0_1 then (if (wrap64 (s0_1 + 1)) ≤ (s0_0.length : Int) then (some (wrap64 (rd s0_0 s0_1), wrap64 (s0_1 + 1), IntKind.u64.wrap ((IntKind.u64.wrap ((IntKind.u64.wrap (s0_2 * 6364136223846793005)) + (IntKind.u64.wrap (wrap64 (rd s0_0 s0_1))))) + 1442695040888963407))) else (some (wrap64 (Go.bits .and .u64 ((IntKind.u64.wrap ((IntKind.u64.wrap ((IntKind.u64.wrap (s0_2 * 6364136223846793005)) + (IntKind.u64.wrap (wrap64 (rd s0_0 s0_1))))) + 1442695040888963407)) / 1099511627776) 255), wrap64 (s0_1 + 1), IntKind.u64.wrap ((IntKind.u64.wrap ((IntKind.u64.wrap (s0_2 * 6364136223846793005)) + (IntKind.u64.wrap (wrap64 (rd s0_0 s0_1))))) + 1442695040888963407)))) else (none)) else (if (wrap64 (s0_1 + 1)) ≤ (s0_0.length : Int) then (some (0, wrap64 (s0_1 + 1), IntKind.u64.wrap ((IntKind.u64.wrap ((IntKind.u64.wrap (s0_2 * 6364136223846793005)))) + 1442695040888963407))) else (some (wrap64 (Go.bits .and .u64 ((IntKind.u64.wrap ((IntKind.u64.wrap ((IntKind.u64.wrap (s0_2 * 6364136223846793005)))) + 1442695040888963407)) / 1099511627776) 255), wrap64 (s0_1 + 1), IntKind.u64.wrap ((IntKind.u64.wrap ((IntKind.u64.wrap (s0_2 * 6364136223846793005)))) + 1442695040888963407))))) = some (r1, r2, r3) := h
 clear h
 by_cases c2 : s0_1 < (s0_0.length : Int)
 ·rw [if_pos c2] at H
  have c2b0 : decide (s0_1 < (s0_0.length : Int)) = true := decide_eq_true c2
  clear c2; replace H := ifS H; obtain ⟨c3, H⟩ := H; have c3b0 := decide_eq_true c3; clear c3
  by_cases c4 : (wrap64 (s0_1 + 1)) ≤ (s0_0.length : Int)
  ·rw [if_pos c4] at H
   have c4b0 : decide ((wrap64 (s0_1 + 1)) ≤ (s0_0.length : Int)) = true := decide_eq_true c4
   clear c4
   simp only [Option.some.injEq, Prod.mk.injEq] at H
   obtain ⟨rfl, rfl, rfl⟩ := H
   obtain ⟨ASz5_0, cSz5_0, HGz5, hgz5, HSz5_0⟩ := HI0.out
   have hcz5_0 := cellS151_0 HGz5
   have hcz5_1 := cellS151_1 HGz5
   have hcz5_2 := cellS151_2 HGz5
   have hfz5_1 := blk_frozen HGz5 1
   have hfz5_2 := blk_frozen HGz5 2
   clear HGz5 hgz5
   have p306 : 0 ≤ (s0_1 : Int) := da
   have q306 : s0_1 < (s0_0.length : Int) := da
   obtain ⟨ad306, e306, hx306_0⟩ := Kd.at_int HSz5_0 s0_1 p306 q306
   cases e306
   replace hx306_0 := pw_cell_below HB.out hx306_0
   replace p306 := eq_true p306; replace q306 := eq_true q306
   go_enter Try.func206, Try.ntmps206
   go_wp2
   repeat (go_quiet (fail); try go_wp2)
   go_ret
   exact ⟨er2, by repeat (first | (with_reducible first | exact HI0.out | apply IsS151.alloc | apply IsS151.drewN | apply IsS151.drew | apply IsS151.set_1 | apply IsS151.set_2) | exact HI0.out), by repeat (first | (with_reducible first | exact HB.out | apply below_alloc | apply pw_below_drewN | apply below_drew1 | refine below_set ?_ (IsS151.ge HI0.out)) | exact HB.out), by repeat (first | (with_reducible first | exact HK.out | apply KeepBut.set_ | apply keep_drewN | apply keep_drew | apply keep_alloc) | exact HK.out)⟩
  ·rw [if_neg c4] at H
   have c4b0 : decide ((wrap64 (s0_1 + 1)) ≤ (s0_0.length : Int)) = false := decide_eq_false c4
   clear c4
   simp only [Option.some.injEq, Prod.mk.injEq] at H
   obtain ⟨rfl, rfl, rfl⟩ := H
   obtain ⟨ASz6_0, cSz6_0, HGz6, hgz6, HSz6_0⟩ := HI0.out
   have hcz6_0 := cellS151_0 HGz6
   have hcz6_1 := cellS151_1 HGz6
   have hcz6_2 := cellS151_2 HGz6
   have hfz6_1 := blk_frozen HGz6 1
   have hfz6_2 := blk_frozen HGz6 2
   clear HGz6 hgz6
   have p306 : 0 ≤ (s0_1 : Int) := da
   have q306 : s0_1 < (s0_0.length : Int) := da
   obtain ⟨ad306, e306, hx306_0⟩ := Kd.at_int HSz6_0 s0_1 p306 q306
   cases e306
   replace hx306_0 := pw_cell_below HB.out hx306_0
   replace p306 := eq_true p306; replace q306 := eq_true q306
   go_enter Try.func206, Try.ntmps206
   go_wp2
   repeat (go_quiet (fail); try go_wp2)
   go_ret
   exact ⟨er2, by repeat (first | (with_reducible first | exact HI0.out | apply IsS151.alloc | apply IsS151.drewN | apply IsS151.drew | apply IsS151.set_1 | apply IsS151.set_2) | exact HI0.out), by repeat (first | (with_reducible first | exact HB.out | apply below_alloc | apply pw_below_drewN | apply below_drew1 | refine below_set ?_ (IsS151.ge HI0.out)) | exact HB.out), by repeat (first | (with_reducible first | exact HK.out | apply KeepBut.set_ | apply keep_drewN | apply keep_drew | apply keep_alloc) | exact HK.out)⟩
 ·rw [if_neg c2] at H
  have c2b0 : decide (s0_1 < (s0_0.length : Int)) = false := decide_eq_false c2
  clear c2
  by_cases c7 : (wrap64 (s0_1 + 1)) ≤ (s0_0.length : Int)
  ·rw [if_pos c7] at H
   have c7b0 : decide ((wrap64 (s0_1 + 1)) ≤ (s0_0.length : Int)) = true := decide_eq_true c7
   clear c7
   simp only [Option.some.injEq, Prod.mk.injEq] at H
   obtain ⟨rfl, rfl, rfl⟩ := H
   obtain ⟨ASz8_0, cSz8_0, HGz8, hgz8, HSz8_0⟩ := HI0.out
   have hcz8_0 := cellS151_0 HGz8
   have hcz8_1 := cellS151_1 HGz8
   have hcz8_2 := cellS151_2 HGz8
   have hfz8_1 := blk_frozen HGz8 1
   have hfz8_2 := blk_frozen HGz8 2
   clear HGz8 hgz8
   go_enter Try.func206, Try.ntmps206
   go_wp2
   repeat (go_quiet (fail); try go_wp2)
   go_ret
   exact ⟨er2, by repeat (first | (with_reducible first | exact HI0.out | apply IsS151.alloc | apply IsS151.drewN | apply IsS151.drew | apply IsS151.set_1 | apply IsS151.set_2) | exact HI0.out), by repeat (first | (with_reducible first | exact HB.out | apply below_alloc | apply pw_below_drewN | apply below_drew1 | refine below_set ?_ (IsS151.ge HI0.out)) | exact HB.out), by repeat (first | (with_reducible first | exact HK.out | apply KeepBut.set_ | apply keep_drewN | apply keep_drew | apply keep_alloc) | exact HK.out)⟩
  ·rw [if_neg c7] at H
   have c7b0 : decide ((wrap64 (s0_1 + 1)) ≤ (s0_0.length : Int)) = false := decide_eq_false c7
   clear c7
   simp only [Option.some.injEq, Prod.mk.injEq] at H
   obtain ⟨rfl, rfl, rfl⟩ := H
   obtain ⟨ASz9_0, cSz9_0, HGz9, hgz9, HSz9_0⟩ := HI0.out
   have hcz9_0 := cellS151_0 HGz9
   have hcz9_1 := cellS151_1 HGz9
   have hcz9_2 := cellS151_2 HGz9
   have hfz9_1 := blk_frozen HGz9 1
   have hfz9_2 := blk_frozen HGz9 2
   clear HGz9 hgz9
   go_enter Try.func206, Try.ntmps206
   go_wp2
   repeat (go_quiet (fail); try go_wp2)
   go_ret
   exact ⟨er2, by repeat (first | (with_reducible first | exact HI0.out | apply IsS151.alloc | apply IsS151.drewN | apply IsS151.drew | apply IsS151.set_1 | apply IsS151.set_2) | exact HI0.out), by repeat (first | (with_reducible first | exact HB.out | apply below_alloc | apply pw_below_drewN | apply below_drew1 | refine below_set ?_ (IsS151.ge HI0.out)) | exact HB.out), by repeat (first | (with_reducible first | exact HK.out | apply KeepBut.set_ | apply keep_drewN | apply keep_drew | apply keep_alloc) | exact HK.out)⟩

end Go.Proofs.Ytkgogglnipdcfaa.QFnScores
