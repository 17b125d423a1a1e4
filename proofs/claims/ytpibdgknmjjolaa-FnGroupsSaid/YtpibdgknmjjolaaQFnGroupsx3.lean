-- printed by this session's own program (wip/tools/pp.py: the kit's print.py with changes); Lean checks it
import Derived.Test.YtpibdgknmjjolaaQFnGroupsx0
import Derived.Test.YtpibdgknmjjolaaQFnGroupsx2
namespace Go.Proofs.Ytpibdgknmjjolaa.QFnGroups
open Go.RowKit Go.Proofs.YtpibdgknmjjolaaW.PrintWords Go.Proofs.YtpibdgknmjjolaaW.PrintLast Go.Proofs.YtpibdgknmjjolaaW.PrintMore
attribute [local go_sem] max2_int min2_int max_two min_two max_three min_three max_four min_four strLss strGtr strLeq strGeq   -- for this text's walks alone
set_option linter.unusedVariables false
set_option linter.unusedSimpArgs false

/-! ### impl_GoodTable_1: function 126 -/
def impl_GoodTable_1.f (k : Nat) (l0 : List Int) (l1_0 : List Int) : Option (Bool) := (slices_Equal_int_int.f k l0 l1_0).bind fun t166 => (some t166)
theorem impl_GoodTable_1.mono : ∀ a0 a1 k, LeO (impl_GoodTable_1.f k a0 a1) (impl_GoodTable_1.f (k + 1) a0 a1) := by
 intro a0 a1 k
 unfold impl_GoodTable_1.f
 repeat' (first | (with_reducible first | exact slices_Equal_int_int.mono _ _ _ | exact LeO.refl _ | exact LeO.none _ | refine LeO.ite ?_ ?_ | refine LeO.bind ?_ (fun _ => ?_)) | exact slices_Equal_int_int.mono _ _ _ | exact LeO.none _ | refine LeO.ite ?_ ?_ | refine LeO.bind ?_ (fun _ => ?_))
set_option maxHeartbeats 8000000 in
set_option maxRecDepth 100000 in
theorem impl_GoodTable_1.calls (k : Nat) (A0 : Option Addr) (c0 : Nat) (l0 : List Int) (g1_ : Nat) (A1_0 : Option Addr) (c1_0 : Nat) (l1_0 : List Int) (r : Bool) (w : World) (hr0 : Kd.C (Kd.int .i64) w A0 l0.length l0) (hc0 : l0.length ≤ c0) (hr1_0 : Kd.C (Kd.int .i64) w A1_0 l1_0.length l1_0) (hc1_0 : l1_0.length ≤ c1_0) (hq1_0 : w.heap[g1_]? = some (.cells #[.slice A1_0 l1_0.length c1_0] 22 (0, 0))) (h : impl_GoodTable_1.f k l0 l1_0 = some r) :
  Calls Try.prog 126 #[.slice A0 l0.length c0, .pointer (some ⟨g1_, 0, none⟩)] w fun e w' => e = .returned (.bool r) ∧ Drawn0 w w' := by
 have HR0 := Aside0.mk hr0; have HC0 := Aside0.mk hc0; clear hr0 hc0; have HR1_0 := Aside0.mk hr1_0; have HC1_0 := Aside0.mk hc1_0; clear hr1_0 hc1_0
 have hcq1_0_0 : w.cell? ⟨g1_, 0, none⟩ = some (.slice A1_0 l1_0.length c1_0) := (blk_cell hq1_0 0).trans rfl
 have H : ((slices_Equal_int_int.f k l0 l1_0).bind fun t166 => (some t166)) = some r := h
 clear h; replace H := bS H; obtain ⟨t166, A3, H⟩ := H
 replace H : (some t166) = some r := H
 obtain rfl := Option.some.inj H
 go_enter Try.func126, Try.ntmps126
 go_wp2_with (first | ((with_reducible refine gate_callee (f := 127) rfl ?_); refine goesLa (some 6) rfl Try.func127 #[.slice A0 l0.length c0, .slice A1_0 l1_0.length c1_0] rfl ?_; (with_reducible refine (slices_Equal_int_int.calls k _ _ l0 _ _ l1_0 t166 _ ?side1 ?side2 ?side3 ?side4 A3.out).mono ?_); (case side1 => exact cd HR0.out); (case side2 => exact HC0.out); (case side3 => exact cd HR1_0.out); (case side4 => exact HC1_0.out); rintro e w' ⟨rfl, ⟨nd, rfl⟩⟩; refine ⟨_, rfl, ?_⟩))
 go_ret
 exact ⟨er, drw⟩

/-! ### slices_IndexFunc_147_at_126_22: function 147 -/
def slices_IndexFunc_147_at_126_22.l0 : Nat → List (List Int) → Int → Int → List Int → Option (Int)
  | 0, _, _, _, _ => none
  | k + 1, x0, x7, x8, x511000 => if x8 < x7 then (if 0 ≤ x8 then (if x8 < (x0.length : Int) then ((impl_GoodTable_1.f k (rd_L1 x0 x8) x511000).bind fun t168 => (if t168 = true then (some x8) else (slices_IndexFunc_147_at_126_22.l0 k x0 x7 (wrap64 (x8 + 1)) x511000))) else (none)) else (none)) else (some (-1))
def slices_IndexFunc_147_at_126_22.f (k : Nat) (l0 : List (List Int)) (l1_0 : List Int) : Option (Int) := slices_IndexFunc_147_at_126_22.l0 k l0 (l0.length : Int) 0 l1_0
theorem slices_IndexFunc_147_at_126_22.mono_l : ∀ k, (∀ y0 y1 y2 y3, LeO (slices_IndexFunc_147_at_126_22.l0 k y0 y1 y2 y3) (slices_IndexFunc_147_at_126_22.l0 (k + 1) y0 y1 y2 y3))
 | 0 => fun _ _ _ _ r h => by simp [slices_IndexFunc_147_at_126_22.l0] at h
 | k + 1 => by
  have ih0 := slices_IndexFunc_147_at_126_22.mono_l k
  ·intro y0 y1 y2 y3
   unfold slices_IndexFunc_147_at_126_22.l0
   repeat' (first | (with_reducible first | exact ih0 _ _ _ _ | exact impl_GoodTable_1.mono _ _ _ | exact LeO.refl _ | exact LeO.none _ | refine LeO.ite ?_ ?_ | refine LeO.bind ?_ (fun _ => ?_)) | exact ih0 _ _ _ _ | exact impl_GoodTable_1.mono _ _ _ | exact LeO.none _ | refine LeO.ite ?_ ?_ | refine LeO.bind ?_ (fun _ => ?_))
theorem slices_IndexFunc_147_at_126_22.mono : ∀ a0 a1 k, LeO (slices_IndexFunc_147_at_126_22.f k a0 a1) (slices_IndexFunc_147_at_126_22.f (k + 1) a0 a1) := by
 intro a0 a1 k
 have ih0 := slices_IndexFunc_147_at_126_22.mono_l k
 unfold slices_IndexFunc_147_at_126_22.f
 repeat' (first | (with_reducible first | exact ih0 _ _ _ _ | exact impl_GoodTable_1.mono _ _ _ | exact LeO.refl _ | exact LeO.none _ | refine LeO.ite ?_ ?_ | refine LeO.bind ?_ (fun _ => ?_)) | exact ih0 _ _ _ _ | exact impl_GoodTable_1.mono _ _ _ | exact LeO.none _ | refine LeO.ite ?_ ?_ | refine LeO.bind ?_ (fun _ => ?_))
set_option maxHeartbeats 8000000 in
set_option maxRecDepth 100000 in
theorem slices_IndexFunc_147_at_126_22.calls (k : Nat) (A0 : Option Addr) (c0 : Nat) (l0 : List (List Int)) (g1_0_ : Nat) (A1_0 : Option Addr) (c1_0 : Nat) (l1_0 : List Int) (r : Int) (w : World) (hr0 : Kd.C (Kd.slice 3 (Kd.int .i64)) w A0 l0.length l0) (hc0 : l0.length ≤ c0) (hr1_0 : Kd.C (Kd.int .i64) w A1_0 l1_0.length l1_0) (hc1_0 : l1_0.length ≤ c1_0) (hq1_0 : w.heap[g1_0_]? = some (.cells #[.slice A1_0 l1_0.length c1_0] 22 (0, 0))) (h : slices_IndexFunc_147_at_126_22.f k l0 l1_0 = some r) :
  Calls Try.prog 147 #[.slice A0 l0.length c0, .func (.func 126) #[] #[.pointer (some ⟨g1_0_, 0, none⟩)]] w fun e w' => e = .returned (.int .i64 r) ∧ Drawn0 w w' := by
 have HR0 := Aside0.mk hr0; have HC0 := Aside0.mk hc0; clear hr0 hc0; have HR1_0 := Aside0.mk hr1_0; have HC1_0 := Aside0.mk hc1_0; clear hr1_0 hc1_0
 have hcq1_0_0 : w.cell? ⟨g1_0_, 0, none⟩ = some (.slice A1_0 l1_0.length c1_0) := (blk_cell hq1_0 0).trans rfl
 have H : (slices_IndexFunc_147_at_126_22.l0 k l0 (l0.length : Int) 0 l1_0) = some r := h
 clear h
 have H' := Aside0.mk H
 clear H
 go_enter Try.func147, Try.ntmps147
 go_wp2
 go_loopg [8] k (fun kq v8 w' => ∃ (x8_1 : Int), v8 = .int .i64 x8_1 ∧ Aside0 (slices_IndexFunc_147_at_126_22.l0 kq l0 (l0.length : Int) x8_1 l1_0 = some r) ∧ Aside0 (kq ≤ k) ∧ Drawn0 w w')
 case atStart => exact ⟨(0), er, H', ⟨Nat.le_refl _⟩, drw⟩
 case round =>
  clear H'
  obtain ⟨x8_1, rfl, HA, HK1, ⟨m1, rfl⟩⟩ := hrel
  cases gk with
  | zero => exact absurd HA.out (by simp [slices_IndexFunc_147_at_126_22.l0])
  | succ k1 =>
   have H := HA.out; clear HA
   simp only [slices_IndexFunc_147_at_126_22.l0] at H
   by_cases c3 : x8_1 < (l0.length : Int)
   ·rw [if_pos c3] at H
    have c3b0 : decide (x8_1 < (l0.length : Int)) = true := decide_eq_true c3
    clear c3; replace H := ifS H; obtain ⟨c4, H⟩ := H; have c4b0 := decide_eq_true c4; clear c4; replace H := ifS H; obtain ⟨c5, H⟩ := H; have c5b0 := decide_eq_true c5; clear c5; replace H := bS H; obtain ⟨t168, A6, H⟩ := H
    replace H : (if t168 = true then (some x8_1) else (slices_IndexFunc_147_at_126_22.l0 k1 l0 (l0.length : Int) (wrap64 (x8_1 + 1)) l1_0)) = some r := H
    by_cases c7 : t168 = true
    ·subst c7
     have H1 : (some x8_1) = some r := by rw [if_pos rfl] at H; exact H
     clear H
     have H := H1
     clear H1
     obtain rfl := Option.some.inj H
     have p167 : 0 ≤ (x8_1 : Int) := da
     have q167 : x8_1 < (l0.length : Int) := da
     obtain ⟨ad167, A167_0, c167_0, e167, hx167_0, hl167_0, hi167_0⟩ := at_L1 HR0.out x8_1 p167 q167
     cases e167
     have HR167_0 := Aside0.mk hi167_0; have HC167_0 := Aside0.mk hl167_0; clear hi167_0 hl167_0; replace p167 := eq_true p167; replace q167 := eq_true q167
     go_wp2_with (first | ((with_reducible refine gate_value (f := 126) rfl rfl ?_); refine goesV_ (some 16) rfl rfl Try.func126 (by kernel_rfl) rfl #[.slice A167_0 (rd_L1 l0 x8_1).length c167_0, .pointer (some ⟨g1_0_, 0, none⟩)] rfl rfl (by (try simp only [List.map_toArray, List.map_cons, List.map_nil]); first | done | rfl | (simp only [List.length_drop, List.length_take]; rfl)) ?_; (with_reducible refine (impl_GoodTable_1.calls k1 _ _ (rd_L1 l0 x8_1) g1_0_ ?ca1_0 ?cc1_0 l1_0 true _ ?side1 ?side2 ?side3 ?side4 ?side5 A6.out).mono ?_); (case side5 => first | ((with_reducible repeat (first | refine blk_drewN ?_ _ | refine blk_drew ?_ | refine blk_alloc ?_ _)); exact hq1_0)); (case side1 => repeat (first | exact HR167_0.out | (with_reducible refine Kd.C_alloc ?_ _) | (with_reducible refine Kd.C_drewN ?_ _) | (with_reducible refine Kd.C_drew ?_))); (case side2 => exact HC167_0.out); (case side3 => repeat (first | exact HR1_0.out | (with_reducible refine Kd.C_alloc ?_ _) | (with_reducible refine Kd.C_drewN ?_ _) | (with_reducible refine Kd.C_drew ?_))); (case side4 => exact HC1_0.out); rintro e w' ⟨rfl, ⟨nd, rfl⟩⟩; refine ⟨_, rfl, ?_⟩))
     go_ret
     exact ⟨er, drw⟩
    ·replace c7 := Bool.eq_false_iff.mpr c7
     subst c7
     have H1 : (slices_IndexFunc_147_at_126_22.l0 k1 l0 (l0.length : Int) (wrap64 (x8_1 + 1)) l1_0) = some r := by rw [if_neg (show ¬ (false = true) by decide)] at H; exact H
     clear H
     have H := H1
     clear H1
     have H' := Aside0.mk H
     clear H
     have p167 : 0 ≤ (x8_1 : Int) := da
     have q167 : x8_1 < (l0.length : Int) := da
     obtain ⟨ad167, A167_0, c167_0, e167, hx167_0, hl167_0, hi167_0⟩ := at_L1 HR0.out x8_1 p167 q167
     cases e167
     have HR167_0 := Aside0.mk hi167_0; have HC167_0 := Aside0.mk hl167_0; clear hi167_0 hl167_0; replace p167 := eq_true p167; replace q167 := eq_true q167
     go_wp2_with (first | ((with_reducible refine gate_value (f := 126) rfl rfl ?_); refine goesV_ (some 16) rfl rfl Try.func126 (by kernel_rfl) rfl #[.slice A167_0 (rd_L1 l0 x8_1).length c167_0, .pointer (some ⟨g1_0_, 0, none⟩)] rfl rfl (by (try simp only [List.map_toArray, List.map_cons, List.map_nil]); first | done | rfl | (simp only [List.length_drop, List.length_take]; rfl)) ?_; (with_reducible refine (impl_GoodTable_1.calls k1 _ _ (rd_L1 l0 x8_1) g1_0_ ?ca1_0 ?cc1_0 l1_0 false _ ?side1 ?side2 ?side3 ?side4 ?side5 A6.out).mono ?_); (case side5 => first | ((with_reducible repeat (first | refine blk_drewN ?_ _ | refine blk_drew ?_ | refine blk_alloc ?_ _)); exact hq1_0)); (case side1 => repeat (first | exact HR167_0.out | (with_reducible refine Kd.C_alloc ?_ _) | (with_reducible refine Kd.C_drewN ?_ _) | (with_reducible refine Kd.C_drew ?_))); (case side2 => exact HC167_0.out); (case side3 => repeat (first | exact HR1_0.out | (with_reducible refine Kd.C_alloc ?_ _) | (with_reducible refine Kd.C_drewN ?_ _) | (with_reducible refine Kd.C_drew ?_))); (case side4 => exact HC1_0.out); rintro e w' ⟨rfl, ⟨nd, rfl⟩⟩; refine ⟨_, rfl, ?_⟩))
     go_roundg k1
     case measure => have := HK1.out; omega
     case rel => exact ⟨(wrap64 (x8_1 + 1)), er, H', ⟨by have := HK1.out; omega⟩, drw⟩
   ·rw [if_neg c3] at H
    have c3b0 : decide (x8_1 < (l0.length : Int)) = false := decide_eq_false c3
    clear c3
    obtain rfl := Option.some.inj H
    go_wp2
    go_ret
    exact ⟨er, drw⟩

/-! ### slices_ContainsFunc_125_at_126_22: function 125 -/
def slices_ContainsFunc_125_at_126_22.f (k : Nat) (l0 : List (List Int)) (l1_0 : List Int) : Option (Bool) := (slices_IndexFunc_147_at_126_22.f k l0 l1_0).bind fun t169 => (some (decide (t169 ≥ 0)))
theorem slices_ContainsFunc_125_at_126_22.mono : ∀ a0 a1 k, LeO (slices_ContainsFunc_125_at_126_22.f k a0 a1) (slices_ContainsFunc_125_at_126_22.f (k + 1) a0 a1) := by
 intro a0 a1 k
 unfold slices_ContainsFunc_125_at_126_22.f
 repeat' (first | (with_reducible first | exact slices_IndexFunc_147_at_126_22.mono _ _ _ | exact LeO.refl _ | exact LeO.none _ | refine LeO.ite ?_ ?_ | refine LeO.bind ?_ (fun _ => ?_)) | exact slices_IndexFunc_147_at_126_22.mono _ _ _ | exact LeO.none _ | refine LeO.ite ?_ ?_ | refine LeO.bind ?_ (fun _ => ?_))
set_option maxHeartbeats 8000000 in
set_option maxRecDepth 100000 in
theorem slices_ContainsFunc_125_at_126_22.calls (k : Nat) (A0 : Option Addr) (c0 : Nat) (l0 : List (List Int)) (g1_0_ : Nat) (A1_0 : Option Addr) (c1_0 : Nat) (l1_0 : List Int) (r : Bool) (w : World) (hr0 : Kd.C (Kd.slice 3 (Kd.int .i64)) w A0 l0.length l0) (hc0 : l0.length ≤ c0) (hr1_0 : Kd.C (Kd.int .i64) w A1_0 l1_0.length l1_0) (hc1_0 : l1_0.length ≤ c1_0) (hq1_0 : w.heap[g1_0_]? = some (.cells #[.slice A1_0 l1_0.length c1_0] 22 (0, 0))) (h : slices_ContainsFunc_125_at_126_22.f k l0 l1_0 = some r) :
  Calls Try.prog 125 #[.slice A0 l0.length c0, .func (.func 126) #[] #[.pointer (some ⟨g1_0_, 0, none⟩)]] w fun e w' => e = .returned (.bool r) ∧ Drawn0 w w' := by
 have HR0 := Aside0.mk hr0; have HC0 := Aside0.mk hc0; clear hr0 hc0; have HR1_0 := Aside0.mk hr1_0; have HC1_0 := Aside0.mk hc1_0; clear hr1_0 hc1_0
 have hcq1_0_0 : w.cell? ⟨g1_0_, 0, none⟩ = some (.slice A1_0 l1_0.length c1_0) := (blk_cell hq1_0 0).trans rfl
 have H : ((slices_IndexFunc_147_at_126_22.f k l0 l1_0).bind fun t169 => (some (decide (t169 ≥ 0)))) = some r := h
 clear h; replace H := bS H; obtain ⟨t169, A3, H⟩ := H
 replace H : (some (decide (t169 ≥ 0))) = some r := H
 obtain rfl := Option.some.inj H
 go_enter Try.func125, Try.ntmps125
 go_wp2_with (first | ((with_reducible refine gate_callee (f := 147) rfl ?_); refine goesLa (some 7) rfl Try.func147 #[.slice A0 l0.length c0, .func (.func 126) #[] #[.pointer (some ⟨g1_0_, 0, none⟩)]] rfl ?_; (with_reducible refine (slices_IndexFunc_147_at_126_22.calls k _ _ l0 g1_0_ ?ca1_0 ?cc1_0 l1_0 t169 _ ?side1 ?side2 ?side3 ?side4 ?side5 A3.out).mono ?_); (case side5 => first | ((with_reducible repeat (first | refine blk_drewN ?_ _ | refine blk_drew ?_ | refine blk_alloc ?_ _)); exact hq1_0)); (case side1 => repeat (first | exact HR0.out | (with_reducible refine Kd.C_alloc ?_ _) | (with_reducible refine Kd.C_drewN ?_ _) | (with_reducible refine Kd.C_drew ?_))); (case side2 => exact HC0.out); (case side3 => repeat (first | exact HR1_0.out | (with_reducible refine Kd.C_alloc ?_ _) | (with_reducible refine Kd.C_drewN ?_ _) | (with_reducible refine Kd.C_drew ?_))); (case side4 => exact HC1_0.out); rintro e w' ⟨rfl, ⟨nd, rfl⟩⟩; refine ⟨_, rfl, ?_⟩))
 go_ret
 exact ⟨er, drw⟩

/-! ### impl_GoodTable: function 59 -/
mutual
def impl_GoodTable.j0 : Nat → Bool → Int → List (List Int) → List Int → Option (Bool)
  | 0, _, _, _, _ => none
  | k + 1, x29, x171000, x171001, x171002 => if x29 = true then (some false) else (impl_GoodTable.l0 k x171001 (x171001.length : Int) 0 x171000 x171001 x171002)
def impl_GoodTable.l0 : Nat → List (List Int) → Int → Int → Int → List (List Int) → List Int → Option (Bool)
  | 0, _, _, _, _, _, _ => none
  | k + 1, x31, x32, x33, x171000, x171001, x171002 => if x33 < x32 then (if 0 ≤ x33 then (if x33 < (x31.length : Int) then (if ((rd_L1 x31 x33).length : Int) = 2 then (if 0 < ((rd_L1 x31 x33).length : Int) then (if (rd (rd_L1 x31 x33) 0) < 0 then (impl_GoodTable.j2 k x33 x31 x32 x33 true x171000 x171001 x171002 (rd_L1 x31 x33)) else (if 1 < ((rd_L1 x31 x33).length : Int) then (if (rd (rd_L1 x31 x33) 0) ≥ (rd (rd_L1 x31 x33) 1) then (impl_GoodTable.j2 k x33 x31 x32 x33 true x171000 x171001 x171002 (rd_L1 x31 x33)) else (impl_GoodTable.j2 k x33 x31 x32 x33 (decide ((rd (rd_L1 x31 x33) 1) ≥ x171000)) x171000 x171001 x171002 (rd_L1 x31 x33))) else (none))) else (none)) else (impl_GoodTable.j2 k x33 x31 x32 x33 true x171000 x171001 x171002 (rd_L1 x31 x33))) else (none)) else (none)) else (some true)
def impl_GoodTable.j2 : Nat → Int → List (List Int) → Int → Int → Bool → Int → List (List Int) → List Int → List Int → Option (Bool)
  | 0, _, _, _, _, _, _, _, _, _ => none
  | k + 1, x3, x31, x32, x33, x63, x171000, x171001, x171002, x175000 => if x63 = true then (some false) else (if 0 ≤ x3 then (if x3 ≤ (x171001.length : Int) then ((slices_ContainsFunc_125_at_126_22.f k (x171001.take (x3 : Int).toNat) x175000).bind fun t183 => (if t183 = true then (some false) else (impl_GoodTable.l0 k x31 x32 (wrap64 (x33 + 1)) x171000 x171001 x171002))) else (none)) else (none))
end
def impl_GoodTable.f (k : Nat) (a0_0 : Int) (l0_1 : List (List Int)) (l0_2 : List Int) : Option (Bool) := (impl_within.f a0_0 1 6).bind fun t171 => (if t171 = true then (if (l0_1.length : Int) > 15 then (impl_GoodTable.j0 k true a0_0 l0_1 l0_2) else (if (l0_2.length : Int) = (l0_1.length : Int) then ((impl_allWithin.f k l0_2 0 255).bind fun t172 => (impl_GoodTable.j0 k (!t172) a0_0 l0_1 l0_2)) else (impl_GoodTable.j0 k true a0_0 l0_1 l0_2))) else (impl_GoodTable.j0 k true a0_0 l0_1 l0_2))
theorem impl_GoodTable.mono_l : ∀ k, (∀ y0 y1 y2 y3, LeO (impl_GoodTable.j0 k y0 y1 y2 y3) (impl_GoodTable.j0 (k + 1) y0 y1 y2 y3)) ∧ (∀ y0 y1 y2 y3 y4 y5, LeO (impl_GoodTable.l0 k y0 y1 y2 y3 y4 y5) (impl_GoodTable.l0 (k + 1) y0 y1 y2 y3 y4 y5)) ∧ (∀ y0 y1 y2 y3 y4 y5 y6 y7 y8, LeO (impl_GoodTable.j2 k y0 y1 y2 y3 y4 y5 y6 y7 y8) (impl_GoodTable.j2 (k + 1) y0 y1 y2 y3 y4 y5 y6 y7 y8))
 | 0 => ⟨fun _ _ _ _ r h => by simp [impl_GoodTable.j0] at h, fun _ _ _ _ _ _ r h => by simp [impl_GoodTable.l0] at h, fun _ _ _ _ _ _ _ _ _ r h => by simp [impl_GoodTable.j2] at h⟩
 | k + 1 => by
  obtain ⟨ih0, ih1, ih2⟩ := impl_GoodTable.mono_l k
  refine ⟨?_, ?_, ?_⟩
  ·intro y0 y1 y2 y3
   unfold impl_GoodTable.j0
   repeat' (first | (with_reducible first | exact ih0 _ _ _ _ | exact ih1 _ _ _ _ _ _ | exact ih2 _ _ _ _ _ _ _ _ _ | exact impl_allWithin.mono _ _ _ _ | exact slices_ContainsFunc_125_at_126_22.mono _ _ _ | exact LeO.refl _ | exact LeO.none _ | refine LeO.ite ?_ ?_ | refine LeO.bind ?_ (fun _ => ?_)) | exact ih0 _ _ _ _ | exact ih1 _ _ _ _ _ _ | exact ih2 _ _ _ _ _ _ _ _ _ | exact impl_allWithin.mono _ _ _ _ | exact slices_ContainsFunc_125_at_126_22.mono _ _ _ | exact LeO.none _ | refine LeO.ite ?_ ?_ | refine LeO.bind ?_ (fun _ => ?_))
  ·intro y0 y1 y2 y3 y4 y5
   unfold impl_GoodTable.l0
   repeat' (first | (with_reducible first | exact ih0 _ _ _ _ | exact ih1 _ _ _ _ _ _ | exact ih2 _ _ _ _ _ _ _ _ _ | exact impl_allWithin.mono _ _ _ _ | exact slices_ContainsFunc_125_at_126_22.mono _ _ _ | exact LeO.refl _ | exact LeO.none _ | refine LeO.ite ?_ ?_ | refine LeO.bind ?_ (fun _ => ?_)) | exact ih0 _ _ _ _ | exact ih1 _ _ _ _ _ _ | exact ih2 _ _ _ _ _ _ _ _ _ | exact impl_allWithin.mono _ _ _ _ | exact slices_ContainsFunc_125_at_126_22.mono _ _ _ | exact LeO.none _ | refine LeO.ite ?_ ?_ | refine LeO.bind ?_ (fun _ => ?_))
  ·intro y0 y1 y2 y3 y4 y5 y6 y7 y8
   unfold impl_GoodTable.j2
   repeat' (first | (with_reducible first | exact ih0 _ _ _ _ | exact ih1 _ _ _ _ _ _ | exact ih2 _ _ _ _ _ _ _ _ _ | exact impl_allWithin.mono _ _ _ _ | exact slices_ContainsFunc_125_at_126_22.mono _ _ _ | exact LeO.refl _ | exact LeO.none _ | refine LeO.ite ?_ ?_ | refine LeO.bind ?_ (fun _ => ?_)) | exact ih0 _ _ _ _ | exact ih1 _ _ _ _ _ _ | exact ih2 _ _ _ _ _ _ _ _ _ | exact impl_allWithin.mono _ _ _ _ | exact slices_ContainsFunc_125_at_126_22.mono _ _ _ | exact LeO.none _ | refine LeO.ite ?_ ?_ | refine LeO.bind ?_ (fun _ => ?_))
theorem impl_GoodTable.mono : ∀ a0 a1 a2 k, LeO (impl_GoodTable.f k a0 a1 a2) (impl_GoodTable.f (k + 1) a0 a1 a2) := by
 intro a0 a1 a2 k
 obtain ⟨ih0, ih1, ih2⟩ := impl_GoodTable.mono_l k
 unfold impl_GoodTable.f
 repeat' (first | (with_reducible first | exact ih0 _ _ _ _ | exact ih1 _ _ _ _ _ _ | exact ih2 _ _ _ _ _ _ _ _ _ | exact impl_allWithin.mono _ _ _ _ | exact slices_ContainsFunc_125_at_126_22.mono _ _ _ | exact LeO.refl _ | exact LeO.none _ | refine LeO.ite ?_ ?_ | refine LeO.bind ?_ (fun _ => ?_)) | exact ih0 _ _ _ _ | exact ih1 _ _ _ _ _ _ | exact ih2 _ _ _ _ _ _ _ _ _ | exact impl_allWithin.mono _ _ _ _ | exact slices_ContainsFunc_125_at_126_22.mono _ _ _ | exact LeO.none _ | refine LeO.ite ?_ ?_ | refine LeO.bind ?_ (fun _ => ?_))
set_option maxHeartbeats 8000000 in
set_option maxRecDepth 100000 in
theorem impl_GoodTable.calls (k : Nat) (a0_0 : Int) (A0_1 : Option Addr) (c0_1 : Nat) (l0_1 : List (List Int)) (A0_2 : Option Addr) (c0_2 : Nat) (l0_2 : List Int) (r : Bool) (w : World) (hr0_1 : Kd.C (Kd.slice 3 (Kd.int .i64)) w A0_1 l0_1.length l0_1) (hc0_1 : l0_1.length ≤ c0_1) (hr0_2 : Kd.C (Kd.int .i64) w A0_2 l0_2.length l0_2) (hc0_2 : l0_2.length ≤ c0_2) (h : impl_GoodTable.f k a0_0 l0_1 l0_2 = some r) :
  Calls Try.prog 59 #[.agg #[.int .i64 a0_0, .slice A0_1 l0_1.length c0_1, .slice A0_2 l0_2.length c0_2]] w fun e w' => e = .returned (.bool r) ∧ Below w.heap.size w w' := by
 have hu38 := Try.underlying38
 have HR0_1 := Aside0.mk hr0_1; have HC0_1 := Aside0.mk hc0_1; clear hr0_1 hc0_1; have HR0_2 := Aside0.mk hr0_2; have HC0_2 := Aside0.mk hc0_2; clear hr0_2 hc0_2
 have HB := Aside0.mk (Below.refl w.heap.size w)
 have H : ((impl_within.f a0_0 1 6).bind fun t171 => (if t171 = true then (if (l0_1.length : Int) > 15 then (impl_GoodTable.j0 k true a0_0 l0_1 l0_2) else (if (l0_2.length : Int) = (l0_1.length : Int) then ((impl_allWithin.f k l0_2 0 255).bind fun t172 => (impl_GoodTable.j0 k (!t172) a0_0 l0_1 l0_2)) else (impl_GoodTable.j0 k true a0_0 l0_1 l0_2))) else (impl_GoodTable.j0 k true a0_0 l0_1 l0_2))) = some r := h
 clear h; have HC2 := Aside0.mk H; clear H
 go_enter Try.func59, Try.ntmps59
 go_upto_region 1 with (first | ((with_reducible refine gate_dst (N := 1) rfl ?_); (try (refine gate_guard (by rfl) ?_; dsimp only)); refine boxev 1 #[.int .i64 a0_0, .slice A0_1 l0_1.length c0_1, .slice A0_2 l0_2.length c0_2] 38 ?_; intro gb170 hg w3 hbox hb; have BK170 := ak (hbox); have GW170 := ak (hgl hg (belowd HB)); have GE170 := ak (hgl hg (belowd HB)); replace HB := ak (below_step (belowd HB) hb); clear hb hbox hg))
 repeat (go_quiet (first | ((with_reducible refine gate_dst (N := 1) rfl ?_); (try (refine gate_guard (by rfl) ?_; dsimp only)); refine boxev 1 #[.int .i64 a0_0, .slice A0_1 l0_1.length c0_1, .slice A0_2 l0_2.length c0_2] 38 ?_; intro gb170 hg w3 hbox hb; have BK170 := ak (hbox); have GW170 := ak (hgl hg (belowd HB)); have GE170 := ak (hgl hg (belowd HB)); replace HB := ak (below_step (belowd HB) hb); clear hb hbox hg)); go_upto_region 1 with (first | ((with_reducible refine gate_dst (N := 1) rfl ?_); (try (refine gate_guard (by rfl) ?_; dsimp only)); refine boxev 1 #[.int .i64 a0_0, .slice A0_1 l0_1.length c0_1, .slice A0_2 l0_2.length c0_2] 38 ?_; intro gb170 hg w3 hbox hb; have BK170 := ak (hbox); have GW170 := ak (hgl hg (belowd HB)); have GE170 := ak (hgl hg (belowd HB)); replace HB := ak (below_step (belowd HB) hb); clear hb hbox hg)))
 (try simp only [Act.put, List.setIfInBounds_toArray, List.set_cons_zero, List.set_cons_succ])
 go_cut [29] (fun v29 wc => ∃ (kq : Nat) (x29_1 : Bool), v29 = .bool x29_1 ∧ Aside0 (impl_GoodTable.j0 kq x29_1 a0_0 l0_1 l0_2 = some r) ∧ Aside0 (kq ≤ k) ∧ Aside0 (wc.heap[gb170]? = some (.cells #[.int .i64 a0_0, (.slice A0_1 l0_1.length c0_1), (.slice A0_2 l0_2.length c0_2)] 38 (0, 0))) ∧ Aside0 (Below w.heap.size w wc))
 case first =>
  have H := HC2.out; clear HC2; replace H := bS H; obtain ⟨t171, A4, H⟩ := H
  replace H : (if t171 = true then (if (l0_1.length : Int) > 15 then (impl_GoodTable.j0 k true a0_0 l0_1 l0_2) else (if (l0_2.length : Int) = (l0_1.length : Int) then ((impl_allWithin.f k l0_2 0 255).bind fun t172 => (impl_GoodTable.j0 k (!t172) a0_0 l0_1 l0_2)) else (impl_GoodTable.j0 k true a0_0 l0_1 l0_2))) else (impl_GoodTable.j0 k true a0_0 l0_1 l0_2)) = some r := H
  by_cases c5 : t171 = true
  ·subst c5
   have H1 : (if (l0_1.length : Int) > 15 then (impl_GoodTable.j0 k true a0_0 l0_1 l0_2) else (if (l0_2.length : Int) = (l0_1.length : Int) then ((impl_allWithin.f k l0_2 0 255).bind fun t172 => (impl_GoodTable.j0 k (!t172) a0_0 l0_1 l0_2)) else (impl_GoodTable.j0 k true a0_0 l0_1 l0_2))) = some r := by rw [if_pos rfl] at H; exact H
   clear H
   have H := H1
   clear H1
   by_cases c6 : (l0_1.length : Int) > 15
   ·rw [if_pos c6] at H
    have c6b0 : decide (15 < (l0_1.length : Int)) = true := decide_eq_true c6
    have c6b1 : decide (15 < l0_1.length) = true := decide_eq_true (by omega)
    clear c6
    (first | rw [c6b0] | (simp only [i64_w, i32_w]; rw [c6b0]) | skip)
    have H' := Aside0.mk H
    clear H; obtain ⟨hcz7_0, hcz7_1, hcz7_2, hfz7_0, hfz7_1, hfz7_2⟩ := box3 BK170
    go_wp2_with (first | (go_at_call 87; (with_reducible refine (impl_within.calls a0_0 1 6 true _ A4.out).mono ?_); rintro e w' ⟨rfl, ⟨nd, rfl⟩⟩; (try first | exact ⟨rfl, _, World.drewN_drewN _ _ _⟩ | exact ⟨rfl, _, Eq.trans (World.drewN_drewN _ _ _) (congrArg (World.drewN _) (Nat.add_assoc _ _ _))⟩)))
    repeat (go_quiet (first | (go_at_call 87; (with_reducible refine (impl_within.calls a0_0 1 6 true _ A4.out).mono ?_); rintro e w' ⟨rfl, ⟨nd, rfl⟩⟩; (try first | exact ⟨rfl, _, World.drewN_drewN _ _ _⟩ | exact ⟨rfl, _, Eq.trans (World.drewN_drewN _ _ _) (congrArg (World.drewN _) (Nat.add_assoc _ _ _))⟩))); try go_wp2_with (first | (go_at_call 87; (with_reducible refine (impl_within.calls a0_0 1 6 true _ A4.out).mono ?_); rintro e w' ⟨rfl, ⟨nd, rfl⟩⟩; (try first | exact ⟨rfl, _, World.drewN_drewN _ _ _⟩ | exact ⟨rfl, _, Eq.trans (World.drewN_drewN _ _ _) (congrArg (World.drewN _) (Nat.add_assoc _ _ _))⟩))))
    go_meet
    case rel => exact ⟨_, (true), er, H', ⟨by first | omega | exact Nat.le_refl _⟩, ⟨blkd BK170⟩, ⟨belowg1 HB GE170⟩⟩
   ·rw [if_neg c6] at H
    have c6b0 : decide (15 < (l0_1.length : Int)) = false := decide_eq_false c6
    have c6b1 : decide (15 < l0_1.length) = false := decide_eq_false (by omega)
    clear c6
    (first | rw [c6b0] | (simp only [i64_w, i32_w]; rw [c6b0]) | skip)
    by_cases c8 : (l0_2.length : Int) = (l0_1.length : Int)
    ·rw [if_pos c8] at H
     have c8b0 : ((l0_2.length : Int) == (l0_1.length : Int)) = true := beq_iff_eq.mpr c8
     have c8b1 : ((l0_2.length : Int) != (l0_1.length : Int)) = false := bne_eq_false_iff_eq.mpr c8
     have c8b2 : (l0_2.length == l0_1.length) = true := by first | simpa using c8 | (simp at c8 ⊢; omega)
     clear c8; replace H := bS H; obtain ⟨t172, A9, H⟩ := H
     replace H : (impl_GoodTable.j0 k (!t172) a0_0 l0_1 l0_2) = some r := H
     have H' := Aside0.mk H
     clear H; obtain ⟨hcz10_0, hcz10_1, hcz10_2, hfz10_0, hfz10_1, hfz10_2⟩ := box3 BK170
     go_wp2_with (first | (go_at_call 87; (with_reducible refine (impl_within.calls a0_0 1 6 true _ A4.out).mono ?_); rintro e w' ⟨rfl, ⟨nd, rfl⟩⟩; (try first | exact ⟨rfl, _, World.drewN_drewN _ _ _⟩ | exact ⟨rfl, _, Eq.trans (World.drewN_drewN _ _ _) (congrArg (World.drewN _) (Nat.add_assoc _ _ _))⟩)) | (go_at_call 124; (with_reducible refine (impl_allWithin.calls k _ _ l0_2 0 255 t172 _ ?side1 ?side2 A9.out).mono ?_); (case side1 => exact cd (Kd.C_below HR0_2.out (belowg1 HB GE170))); (case side2 => exact HC0_2.out); rintro e w' ⟨rfl, ⟨nd, rfl⟩⟩; (try first | exact ⟨rfl, _, World.drewN_drewN _ _ _⟩ | exact ⟨rfl, _, Eq.trans (World.drewN_drewN _ _ _) (congrArg (World.drewN _) (Nat.add_assoc _ _ _))⟩)))
     repeat (go_quiet (first | (go_at_call 87; (with_reducible refine (impl_within.calls a0_0 1 6 true _ A4.out).mono ?_); rintro e w' ⟨rfl, ⟨nd, rfl⟩⟩; (try first | exact ⟨rfl, _, World.drewN_drewN _ _ _⟩ | exact ⟨rfl, _, Eq.trans (World.drewN_drewN _ _ _) (congrArg (World.drewN _) (Nat.add_assoc _ _ _))⟩)) | (go_at_call 124; (with_reducible refine (impl_allWithin.calls k _ _ l0_2 0 255 t172 _ ?side1 ?side2 A9.out).mono ?_); (case side1 => exact cd (Kd.C_below HR0_2.out (belowg1 HB GE170))); (case side2 => exact HC0_2.out); rintro e w' ⟨rfl, ⟨nd, rfl⟩⟩; (try first | exact ⟨rfl, _, World.drewN_drewN _ _ _⟩ | exact ⟨rfl, _, Eq.trans (World.drewN_drewN _ _ _) (congrArg (World.drewN _) (Nat.add_assoc _ _ _))⟩))); try go_wp2_with (first | (go_at_call 87; (with_reducible refine (impl_within.calls a0_0 1 6 true _ A4.out).mono ?_); rintro e w' ⟨rfl, ⟨nd, rfl⟩⟩; (try first | exact ⟨rfl, _, World.drewN_drewN _ _ _⟩ | exact ⟨rfl, _, Eq.trans (World.drewN_drewN _ _ _) (congrArg (World.drewN _) (Nat.add_assoc _ _ _))⟩)) | (go_at_call 124; (with_reducible refine (impl_allWithin.calls k _ _ l0_2 0 255 t172 _ ?side1 ?side2 A9.out).mono ?_); (case side1 => exact cd (Kd.C_below HR0_2.out (belowg1 HB GE170))); (case side2 => exact HC0_2.out); rintro e w' ⟨rfl, ⟨nd, rfl⟩⟩; (try first | exact ⟨rfl, _, World.drewN_drewN _ _ _⟩ | exact ⟨rfl, _, Eq.trans (World.drewN_drewN _ _ _) (congrArg (World.drewN _) (Nat.add_assoc _ _ _))⟩))))
     go_meet
     case rel => exact ⟨_, (!t172), er, H', ⟨by first | omega | exact Nat.le_refl _⟩, ⟨blkd BK170⟩, ⟨belowg1 HB GE170⟩⟩
    ·rw [if_neg c8] at H
     have c8b0 : ((l0_2.length : Int) == (l0_1.length : Int)) = false := beq_eq_false_iff_ne.mpr c8
     have c8b1 : ((l0_2.length : Int) != (l0_1.length : Int)) = true := bne_iff_ne.mpr c8
     have c8b2 : (l0_2.length == l0_1.length) = false := by first | simpa using c8 | (simp at c8 ⊢; omega)
     have H' := Aside0.mk H
     clear H; obtain ⟨hcz11_0, hcz11_1, hcz11_2, hfz11_0, hfz11_1, hfz11_2⟩ := box3 BK170
     go_wp2_with (first | (go_at_call 87; (with_reducible refine (impl_within.calls a0_0 1 6 true _ A4.out).mono ?_); rintro e w' ⟨rfl, ⟨nd, rfl⟩⟩; (try first | exact ⟨rfl, _, World.drewN_drewN _ _ _⟩ | exact ⟨rfl, _, Eq.trans (World.drewN_drewN _ _ _) (congrArg (World.drewN _) (Nat.add_assoc _ _ _))⟩)))
     repeat (go_quiet (first | (go_at_call 87; (with_reducible refine (impl_within.calls a0_0 1 6 true _ A4.out).mono ?_); rintro e w' ⟨rfl, ⟨nd, rfl⟩⟩; (try first | exact ⟨rfl, _, World.drewN_drewN _ _ _⟩ | exact ⟨rfl, _, Eq.trans (World.drewN_drewN _ _ _) (congrArg (World.drewN _) (Nat.add_assoc _ _ _))⟩))); try go_wp2_with (first | (go_at_call 87; (with_reducible refine (impl_within.calls a0_0 1 6 true _ A4.out).mono ?_); rintro e w' ⟨rfl, ⟨nd, rfl⟩⟩; (try first | exact ⟨rfl, _, World.drewN_drewN _ _ _⟩ | exact ⟨rfl, _, Eq.trans (World.drewN_drewN _ _ _) (congrArg (World.drewN _) (Nat.add_assoc _ _ _))⟩))))
     go_meet
     case rel => exact ⟨_, (true), er, H', ⟨by first | omega | exact Nat.le_refl _⟩, ⟨blkd BK170⟩, ⟨belowg1 HB GE170⟩⟩
  ·replace c5 := Bool.eq_false_iff.mpr c5
   subst c5
   have H1 : (impl_GoodTable.j0 k true a0_0 l0_1 l0_2) = some r := by rw [if_neg (show ¬ (false = true) by decide)] at H; exact H
   clear H
   have H := H1
   clear H1
   have H' := Aside0.mk H
   clear H; obtain ⟨hcz12_0, hcz12_1, hcz12_2, hfz12_0, hfz12_1, hfz12_2⟩ := box3 BK170
   go_wp2_with (first | (go_at_call 87; (with_reducible refine (impl_within.calls a0_0 1 6 false _ A4.out).mono ?_); rintro e w' ⟨rfl, ⟨nd, rfl⟩⟩; (try first | exact ⟨rfl, _, World.drewN_drewN _ _ _⟩ | exact ⟨rfl, _, Eq.trans (World.drewN_drewN _ _ _) (congrArg (World.drewN _) (Nat.add_assoc _ _ _))⟩)))
   repeat (go_quiet (first | (go_at_call 87; (with_reducible refine (impl_within.calls a0_0 1 6 false _ A4.out).mono ?_); rintro e w' ⟨rfl, ⟨nd, rfl⟩⟩; (try first | exact ⟨rfl, _, World.drewN_drewN _ _ _⟩ | exact ⟨rfl, _, Eq.trans (World.drewN_drewN _ _ _) (congrArg (World.drewN _) (Nat.add_assoc _ _ _))⟩))); try go_wp2_with (first | (go_at_call 87; (with_reducible refine (impl_within.calls a0_0 1 6 false _ A4.out).mono ?_); rintro e w' ⟨rfl, ⟨nd, rfl⟩⟩; (try first | exact ⟨rfl, _, World.drewN_drewN _ _ _⟩ | exact ⟨rfl, _, Eq.trans (World.drewN_drewN _ _ _) (congrArg (World.drewN _) (Nat.add_assoc _ _ _))⟩))))
   go_meet
   case rel => exact ⟨_, (true), er, H', ⟨by first | omega | exact Nat.le_refl _⟩, ⟨blkd BK170⟩, ⟨belowg1 HB GE170⟩⟩
 case rest =>
  clear HC2
  obtain ⟨kq, x29_1, rfl, HA, HJ1, BK170, HB⟩ := hcut
  cases kq with
  | zero => exact absurd HA.out (by simp [impl_GoodTable.j0])
  | succ kj1 =>
   have H := HA.out; clear HA
   simp only [impl_GoodTable.j0] at H
   by_cases c13 : x29_1 = true
   ·subst c13
    have H1 : (some false) = some r := by rw [if_pos rfl] at H; exact H
    clear H
    have H := H1
    clear H1
    obtain rfl := Option.some.inj H
    go_wp2
    repeat (go_quiet (fail); try go_wp2)
    go_ret
    exact ⟨er2, belowg1 HB GE170⟩
   ·replace c13 := Bool.eq_false_iff.mpr c13
    subst c13
    have H1 : (impl_GoodTable.l0 kj1 l0_1 (l0_1.length : Int) 0 a0_0 l0_1 l0_2) = some r := by rw [if_neg (show ¬ (false = true) by decide)] at H; exact H
    clear H
    have H := H1
    clear H1
    have H' := Aside0.mk H
    clear H; obtain ⟨hcz14_0, hcz14_1, hcz14_2, hfz14_0, hfz14_1, hfz14_2⟩ := box3 BK170; go_wp2
    repeat (go_quiet (fail); try go_wp2)
    go_loopg [33] kj1 (fun kq v33 w' => ∃ (x33_2 : Int), v33 = .int .i64 x33_2 ∧ Aside0 (impl_GoodTable.l0 kq l0_1 (l0_1.length : Int) x33_2 a0_0 l0_1 l0_2 = some r) ∧ Aside0 (kq ≤ kj1) ∧ Aside0 (w'.heap[gb170]? = some (.cells #[.int .i64 a0_0, (.slice A0_1 l0_1.length c0_1), (.slice A0_2 l0_2.length c0_2)] 38 (0, 0))) ∧ Aside0 (Below w.heap.size w w'))
    case atStart => exact ⟨(0), er, H', ⟨Nat.le_refl _⟩, ⟨blkd BK170⟩, ⟨belowg1 HB GE170⟩⟩
    case round =>
     clear H'
     (try clear c13); (try clear hcz14_0); (try clear hcz14_1); (try clear hcz14_2); (try clear hfz14_0); (try clear hfz14_1); (try clear hfz14_2)
     obtain ⟨x33_2, rfl, HA, HK2, BK170, HB⟩ := hrel
     cases gk with
     | zero => exact absurd HA.out (by simp [impl_GoodTable.l0])
     | succ k2 =>
      have H := HA.out; clear HA
      simp only [impl_GoodTable.l0] at H
      by_cases c15 : x33_2 < (l0_1.length : Int)
      ·rw [if_pos c15] at H
       have c15b0 : decide (x33_2 < (l0_1.length : Int)) = true := decide_eq_true c15
       clear c15; replace H := ifS H; obtain ⟨c16, H⟩ := H; have c16b0 := decide_eq_true c16; clear c16; replace H := ifS H; obtain ⟨c17, H⟩ := H; have c17b0 := decide_eq_true c17; clear c17; have HC18 := Aside0.mk H; clear H
       have p173 : 0 ≤ (x33_2 : Int) := da
       have q173 : x33_2 < (l0_1.length : Int) := da
       obtain ⟨ad173, A173_0, c173_0, e173, hx173_0, hl173_0, hi173_0⟩ := at_L1 HR0_1.out x33_2 p173 q173
       cases e173
       replace hx173_0 := (HB.out.cell (World.block_lt_of_cell? w _ hx173_0)).trans hx173_0
       have HR173_0 := Aside0.mk hi173_0; have HC173_0 := Aside0.mk hl173_0; clear hi173_0 hl173_0; replace p173 := eq_true p173; replace q173 := eq_true q173
       go_upto_region 6 with (first | ((with_reducible refine gate_dst (N := 4) rfl ?_); (try (refine gate_guard (by rfl) ?_; dsimp only)); refine boxev 4 #[.slice none 0 0] 22 ?_; intro gb174 hg w19 hbox hb; have BK174 := ak (hbox); have GW174 := ak (hgl hg (belowg1 HB GE170)); have GE174 := ak (hgl hg (belowg1 HB GE170)); replace HB := ak (below_step (belowg1 HB GE170) hb); have NB170_174 := ak ((by rw [hg]; exact Nat.ne_of_lt (blk_lt (blkd BK170)) : gb170 ≠ gb174)); have NB174_170 := ak ((by rw [hg]; exact Nat.ne_of_gt (blk_lt (blkd BK170)) : gb174 ≠ gb170)); replace BK170 := ak (blk_below (blkd BK170) hb); clear hb hbox hg; have hnb20 := NB174_170.out; have hnc20 := NB170_174.out; obtain ⟨hcz21_0, hfz21_0⟩ := box1 BK174))
       repeat (go_quiet (first | ((with_reducible refine gate_dst (N := 4) rfl ?_); (try (refine gate_guard (by rfl) ?_; dsimp only)); refine boxev 4 #[.slice none 0 0] 22 ?_; intro gb174 hg w19 hbox hb; have BK174 := ak (hbox); have GW174 := ak (hgl hg (belowg1 HB GE170)); have GE174 := ak (hgl hg (belowg1 HB GE170)); replace HB := ak (below_step (belowg1 HB GE170) hb); have NB170_174 := ak ((by rw [hg]; exact Nat.ne_of_lt (blk_lt (blkd BK170)) : gb170 ≠ gb174)); have NB174_170 := ak ((by rw [hg]; exact Nat.ne_of_gt (blk_lt (blkd BK170)) : gb174 ≠ gb170)); replace BK170 := ak (blk_below (blkd BK170) hb); clear hb hbox hg; have hnb20 := NB174_170.out; have hnc20 := NB170_174.out; obtain ⟨hcz21_0, hfz21_0⟩ := box1 BK174)); go_upto_region 6 with (first | ((with_reducible refine gate_dst (N := 4) rfl ?_); (try (refine gate_guard (by rfl) ?_; dsimp only)); refine boxev 4 #[.slice none 0 0] 22 ?_; intro gb174 hg w19 hbox hb; have BK174 := ak (hbox); have GW174 := ak (hgl hg (belowg1 HB GE170)); have GE174 := ak (hgl hg (belowg1 HB GE170)); replace HB := ak (below_step (belowg1 HB GE170) hb); have NB170_174 := ak ((by rw [hg]; exact Nat.ne_of_lt (blk_lt (blkd BK170)) : gb170 ≠ gb174)); have NB174_170 := ak ((by rw [hg]; exact Nat.ne_of_gt (blk_lt (blkd BK170)) : gb174 ≠ gb170)); replace BK170 := ak (blk_below (blkd BK170) hb); clear hb hbox hg; have hnb20 := NB174_170.out; have hnc20 := NB170_174.out; obtain ⟨hcz21_0, hfz21_0⟩ := box1 BK174)))
       (try simp only [Act.put, List.setIfInBounds_toArray, List.set_cons_zero, List.set_cons_succ])
       go_cut [63] (fun v63 wc => ∃ (kq : Nat) (x63_17 : Bool), v63 = .bool x63_17 ∧ Aside0 (impl_GoodTable.j2 kq x33_2 l0_1 (l0_1.length : Int) x33_2 x63_17 a0_0 l0_1 l0_2 (rd_L1 l0_1 x33_2) = some r) ∧ Aside0 (kq ≤ k2) ∧ Aside0 (wc.heap[gb170]? = some (.cells #[.int .i64 a0_0, (.slice (some ad173) l0_1.length c0_1), (.slice A0_2 l0_2.length c0_2)] 38 (0, 0))) ∧ Aside0 (wc.heap[gb174]? = some (.cells #[(.slice A173_0 (rd_L1 l0_1 x33_2).length c173_0)] 22 (0, 0))) ∧ Aside0 (Below w.heap.size w wc))
       case first =>
        have H := HC18.out; clear HC18
        by_cases c22 : ((rd_L1 l0_1 x33_2).length : Int) = 2
        ·rw [if_pos c22] at H
         have c22b0 : (((rd_L1 l0_1 x33_2).length : Int) == 2) = true := beq_iff_eq.mpr c22
         have c22b1 : (((rd_L1 l0_1 x33_2).length : Int) != 2) = false := bne_eq_false_iff_eq.mpr c22
         clear c22
         (first | rw [c22b0] | (simp only [i64_w, i32_w]; rw [c22b0]) | skip)
         replace H := ifS H; obtain ⟨c23, H⟩ := H; have c23b0 := decide_eq_true c23
         have c23b1 : decide (0 < (rd_L1 l0_1 x33_2).length) = true := decide_eq_true (by omega)
         clear c23
         by_cases c24 : (rd (rd_L1 l0_1 x33_2) 0) < 0
         ·rw [if_pos c24] at H
          have c24b0 : decide ((rd (rd_L1 l0_1 x33_2) 0) < 0) = true := decide_eq_true c24
          clear c24
          have H' := Aside0.mk H
          clear H; have hnb25 := NB174_170.out; have hnc25 := NB170_174.out; obtain ⟨hcz26_0, hfz26_0⟩ := box1 BK174
          have p175 : 0 ≤ (0 : Int) := (by omega)
          have q175 : 0 < ((rd_L1 l0_1 x33_2).length : Int) := da
          obtain ⟨ad175, e175, hx175_0⟩ := Kd.at_int HR173_0.out 0 p175 q175
          cases e175
          have qi175 : (0 < (rd_L1 l0_1 x33_2).length) = True := eq_true (by omega)
          (try rw [show ((0 : Int)).toNat = 0 from rfl] at hx175_0)
          (try rw [Addr.add_zero'] at hx175_0)
          have hn175_0 : ad175.block ≠ gb174 := Nat.ne_of_lt (Nat.lt_of_lt_of_le (by have := World.block_lt_of_cell? _ _ hx175_0; first | rwa [add_block] at this | exact this) GW174.out)
          replace hx175_0 := (HB.out.cell (World.block_lt_of_cell? w _ hx175_0)).trans hx175_0
          replace hx175_0 := (cell_far (p := ⟨gb174, 0, none⟩) (by first | (rw [add_block]; exact hn175_0) | (show (Addr.add _ _).block ≠ _; rw [add_block]; exact hn175_0) | exact hn175_0) (.slice (some ad175) (rd_L1 l0_1 x33_2).length c173_0)).trans hx175_0
          (try have hy175_0 := fun (n_ : Nat) => (show (((w19.drewN n_).setCell ⟨gb174, 0, none⟩ (.slice (some ad175) (rd_L1 l0_1 x33_2).length c173_0))).cell? _ = some _ from hx175_0))
          clear hn175_0; replace p175 := eq_true p175; replace q175 := eq_true q175; go_wp2
          repeat (go_quiet (fail); try go_wp2)
          go_meet
          case rel => exact ⟨_, (true), er, H', ⟨by have := HJ1.out; have := HK2.out; first | omega | exact Nat.le_refl _⟩, ⟨by (with_reducible repeat (first | refine blk_drewN ?_ _ | refine blk_drew ?_ | refine blk_alloc ?_ _)); refine blk_far ?_ NB170_174.out _; (with_reducible repeat (first | refine blk_drewN ?_ _ | refine blk_drew ?_ | refine blk_alloc ?_ _)); exact BK170.out⟩, ⟨by (with_reducible repeat (first | refine blk_drewN ?_ _ | refine blk_drew ?_ | refine blk_alloc ?_ _)); refine blk_put (cs := #[.slice none 0 0]) ?_ 0 _ rfl; (with_reducible repeat (first | refine blk_drewN ?_ _ | refine blk_drew ?_ | refine blk_alloc ?_ _)); exact BK174.out⟩, ⟨belowg2 HB GE170 GE174⟩⟩
         ·rw [if_neg c24] at H
          have c24b0 : decide ((rd (rd_L1 l0_1 x33_2) 0) < 0) = false := decide_eq_false c24
          clear c24; replace H := ifS H; obtain ⟨c27, H⟩ := H; have c27b0 := decide_eq_true c27
          have c27b1 : decide (1 < (rd_L1 l0_1 x33_2).length) = true := decide_eq_true (by omega)
          clear c27
          by_cases c28 : (rd (rd_L1 l0_1 x33_2) 0) ≥ (rd (rd_L1 l0_1 x33_2) 1)
          ·rw [if_pos c28] at H
           have c28b0 : decide ((rd (rd_L1 l0_1 x33_2) 1) ≤ (rd (rd_L1 l0_1 x33_2) 0)) = true := decide_eq_true c28
           clear c28
           have H' := Aside0.mk H
           clear H; have hnb29 := NB174_170.out; have hnc29 := NB170_174.out; obtain ⟨hcz30_0, hfz30_0⟩ := box1 BK174
           have p175 : 0 ≤ (0 : Int) := (by omega)
           have q175 : 0 < ((rd_L1 l0_1 x33_2).length : Int) := da
           obtain ⟨ad175, e175, hx175_0⟩ := Kd.at_int HR173_0.out 0 p175 q175
           cases e175
           have qi175 : (0 < (rd_L1 l0_1 x33_2).length) = True := eq_true (by omega)
           (try rw [show ((0 : Int)).toNat = 0 from rfl] at hx175_0)
           (try rw [Addr.add_zero'] at hx175_0)
           have hn175_0 : ad175.block ≠ gb174 := Nat.ne_of_lt (Nat.lt_of_lt_of_le (by have := World.block_lt_of_cell? _ _ hx175_0; first | rwa [add_block] at this | exact this) GW174.out)
           replace hx175_0 := (HB.out.cell (World.block_lt_of_cell? w _ hx175_0)).trans hx175_0
           replace hx175_0 := (cell_far (p := ⟨gb174, 0, none⟩) (by first | (rw [add_block]; exact hn175_0) | (show (Addr.add _ _).block ≠ _; rw [add_block]; exact hn175_0) | exact hn175_0) (.slice (some ad175) (rd_L1 l0_1 x33_2).length c173_0)).trans hx175_0
           (try have hy175_0 := fun (n_ : Nat) => (show (((w19.drewN n_).setCell ⟨gb174, 0, none⟩ (.slice (some ad175) (rd_L1 l0_1 x33_2).length c173_0))).cell? _ = some _ from hx175_0))
           clear hn175_0; replace p175 := eq_true p175; replace q175 := eq_true q175
           have p176 : 0 ≤ (0 : Int) := (by omega)
           have q176 : 0 < ((rd_L1 l0_1 x33_2).length : Int) := da
           obtain ⟨ad176, e176, hx176_0⟩ := Kd.at_int HR173_0.out 0 p176 q176
           obtain rfl : ad175 = ad176 := (by injection e176)
           have qi176 : (0 < (rd_L1 l0_1 x33_2).length) = True := eq_true (by omega)
           (try rw [show ((0 : Int)).toNat = 0 from rfl] at hx176_0)
           (try rw [Addr.add_zero'] at hx176_0)
           have hn176_0 : ad175.block ≠ gb174 := Nat.ne_of_lt (Nat.lt_of_lt_of_le (by have := World.block_lt_of_cell? _ _ hx176_0; first | rwa [add_block] at this | exact this) GW174.out)
           replace hx176_0 := (HB.out.cell (World.block_lt_of_cell? w _ hx176_0)).trans hx176_0
           replace hx176_0 := (cell_far (p := ⟨gb174, 0, none⟩) (by first | (rw [add_block]; exact hn176_0) | (show (Addr.add _ _).block ≠ _; rw [add_block]; exact hn176_0) | exact hn176_0) (.slice (some ad175) (rd_L1 l0_1 x33_2).length c173_0)).trans hx176_0
           (try have hy176_0 := fun (n_ : Nat) => (show (((w19.drewN n_).setCell ⟨gb174, 0, none⟩ (.slice (some ad175) (rd_L1 l0_1 x33_2).length c173_0))).cell? _ = some _ from hx176_0))
           clear hn176_0; replace p176 := eq_true p176; replace q176 := eq_true q176
           have p177 : 0 ≤ (1 : Int) := (by omega)
           have q177 : 1 < ((rd_L1 l0_1 x33_2).length : Int) := da
           obtain ⟨ad177, e177, hx177_0⟩ := Kd.at_int HR173_0.out 1 p177 q177
           obtain rfl : ad175 = ad177 := (by injection e177)
           (try simp only [show (1 : Int).toNat = 1 from rfl, Nat.reduceMul, Nat.reduceEqDiff, Go.Addr.add, ↓reduceIte] at hx177_0)
           have qi177 : (1 < (rd_L1 l0_1 x33_2).length) = True := eq_true (by omega)
           (try rw [show ((1 : Int)).toNat = 1 from rfl] at hx177_0)
           have hn177_0 : ad175.block ≠ gb174 := Nat.ne_of_lt (Nat.lt_of_lt_of_le (by have := World.block_lt_of_cell? _ _ hx177_0; first | rwa [add_block] at this | exact this) GW174.out)
           replace hx177_0 := (HB.out.cell (World.block_lt_of_cell? w _ hx177_0)).trans hx177_0
           replace hx177_0 := (cell_far (p := ⟨gb174, 0, none⟩) (by first | (rw [add_block]; exact hn177_0) | (show (Addr.add _ _).block ≠ _; rw [add_block]; exact hn177_0) | exact hn177_0) (.slice (some ad175) (rd_L1 l0_1 x33_2).length c173_0)).trans hx177_0
           (try have hy177_0 := fun (n_ : Nat) => (show (((w19.drewN n_).setCell ⟨gb174, 0, none⟩ (.slice (some ad175) (rd_L1 l0_1 x33_2).length c173_0))).cell? _ = some _ from hx177_0))
           clear hn177_0; replace p177 := eq_true p177; replace q177 := eq_true q177; go_wp2
           repeat (go_quiet (fail); try go_wp2)
           go_meet
           case rel => exact ⟨_, (true), er, H', ⟨by have := HJ1.out; have := HK2.out; first | omega | exact Nat.le_refl _⟩, ⟨by (with_reducible repeat (first | refine blk_drewN ?_ _ | refine blk_drew ?_ | refine blk_alloc ?_ _)); refine blk_far ?_ NB170_174.out _; (with_reducible repeat (first | refine blk_drewN ?_ _ | refine blk_drew ?_ | refine blk_alloc ?_ _)); exact BK170.out⟩, ⟨by (with_reducible repeat (first | refine blk_drewN ?_ _ | refine blk_drew ?_ | refine blk_alloc ?_ _)); refine blk_put (cs := #[.slice none 0 0]) ?_ 0 _ rfl; (with_reducible repeat (first | refine blk_drewN ?_ _ | refine blk_drew ?_ | refine blk_alloc ?_ _)); exact BK174.out⟩, ⟨belowg2 HB GE170 GE174⟩⟩
          ·rw [if_neg c28] at H
           have c28b0 : decide ((rd (rd_L1 l0_1 x33_2) 1) ≤ (rd (rd_L1 l0_1 x33_2) 0)) = false := decide_eq_false c28
           clear c28
           have H' := Aside0.mk H
           clear H; have hnb31 := NB174_170.out; have hnc31 := NB170_174.out; obtain ⟨hcz32_0, hfz32_0⟩ := box1 BK174
           have p175 : 0 ≤ (0 : Int) := (by omega)
           have q175 : 0 < ((rd_L1 l0_1 x33_2).length : Int) := da
           obtain ⟨ad175, e175, hx175_0⟩ := Kd.at_int HR173_0.out 0 p175 q175
           cases e175
           have qi175 : (0 < (rd_L1 l0_1 x33_2).length) = True := eq_true (by omega)
           (try rw [show ((0 : Int)).toNat = 0 from rfl] at hx175_0)
           (try rw [Addr.add_zero'] at hx175_0)
           have hn175_0 : ad175.block ≠ gb174 := Nat.ne_of_lt (Nat.lt_of_lt_of_le (by have := World.block_lt_of_cell? _ _ hx175_0; first | rwa [add_block] at this | exact this) GW174.out)
           replace hx175_0 := (HB.out.cell (World.block_lt_of_cell? w _ hx175_0)).trans hx175_0
           replace hx175_0 := (cell_far (p := ⟨gb174, 0, none⟩) (by first | (rw [add_block]; exact hn175_0) | (show (Addr.add _ _).block ≠ _; rw [add_block]; exact hn175_0) | exact hn175_0) (.slice (some ad175) (rd_L1 l0_1 x33_2).length c173_0)).trans hx175_0
           (try have hy175_0 := fun (n_ : Nat) => (show (((w19.drewN n_).setCell ⟨gb174, 0, none⟩ (.slice (some ad175) (rd_L1 l0_1 x33_2).length c173_0))).cell? _ = some _ from hx175_0))
           clear hn175_0; replace p175 := eq_true p175; replace q175 := eq_true q175
           have p176 : 0 ≤ (0 : Int) := (by omega)
           have q176 : 0 < ((rd_L1 l0_1 x33_2).length : Int) := da
           obtain ⟨ad176, e176, hx176_0⟩ := Kd.at_int HR173_0.out 0 p176 q176
           obtain rfl : ad175 = ad176 := (by injection e176)
           have qi176 : (0 < (rd_L1 l0_1 x33_2).length) = True := eq_true (by omega)
           (try rw [show ((0 : Int)).toNat = 0 from rfl] at hx176_0)
           (try rw [Addr.add_zero'] at hx176_0)
           have hn176_0 : ad175.block ≠ gb174 := Nat.ne_of_lt (Nat.lt_of_lt_of_le (by have := World.block_lt_of_cell? _ _ hx176_0; first | rwa [add_block] at this | exact this) GW174.out)
           replace hx176_0 := (HB.out.cell (World.block_lt_of_cell? w _ hx176_0)).trans hx176_0
           replace hx176_0 := (cell_far (p := ⟨gb174, 0, none⟩) (by first | (rw [add_block]; exact hn176_0) | (show (Addr.add _ _).block ≠ _; rw [add_block]; exact hn176_0) | exact hn176_0) (.slice (some ad175) (rd_L1 l0_1 x33_2).length c173_0)).trans hx176_0
           (try have hy176_0 := fun (n_ : Nat) => (show (((w19.drewN n_).setCell ⟨gb174, 0, none⟩ (.slice (some ad175) (rd_L1 l0_1 x33_2).length c173_0))).cell? _ = some _ from hx176_0))
           clear hn176_0; replace p176 := eq_true p176; replace q176 := eq_true q176
           have p177 : 0 ≤ (1 : Int) := (by omega)
           have q177 : 1 < ((rd_L1 l0_1 x33_2).length : Int) := da
           obtain ⟨ad177, e177, hx177_0⟩ := Kd.at_int HR173_0.out 1 p177 q177
           obtain rfl : ad175 = ad177 := (by injection e177)
           (try simp only [show (1 : Int).toNat = 1 from rfl, Nat.reduceMul, Nat.reduceEqDiff, Go.Addr.add, ↓reduceIte] at hx177_0)
           have qi177 : (1 < (rd_L1 l0_1 x33_2).length) = True := eq_true (by omega)
           (try rw [show ((1 : Int)).toNat = 1 from rfl] at hx177_0)
           have hn177_0 : ad175.block ≠ gb174 := Nat.ne_of_lt (Nat.lt_of_lt_of_le (by have := World.block_lt_of_cell? _ _ hx177_0; first | rwa [add_block] at this | exact this) GW174.out)
           replace hx177_0 := (HB.out.cell (World.block_lt_of_cell? w _ hx177_0)).trans hx177_0
           replace hx177_0 := (cell_far (p := ⟨gb174, 0, none⟩) (by first | (rw [add_block]; exact hn177_0) | (show (Addr.add _ _).block ≠ _; rw [add_block]; exact hn177_0) | exact hn177_0) (.slice (some ad175) (rd_L1 l0_1 x33_2).length c173_0)).trans hx177_0
           (try have hy177_0 := fun (n_ : Nat) => (show (((w19.drewN n_).setCell ⟨gb174, 0, none⟩ (.slice (some ad175) (rd_L1 l0_1 x33_2).length c173_0))).cell? _ = some _ from hx177_0))
           clear hn177_0; replace p177 := eq_true p177; replace q177 := eq_true q177
           have p178 : 0 ≤ (1 : Int) := (by omega)
           have q178 : 1 < ((rd_L1 l0_1 x33_2).length : Int) := da
           obtain ⟨ad178, e178, hx178_0⟩ := Kd.at_int HR173_0.out 1 p178 q178
           obtain rfl : ad175 = ad178 := (by injection e178)
           (try simp only [show (1 : Int).toNat = 1 from rfl, Nat.reduceMul, Nat.reduceEqDiff, Go.Addr.add, ↓reduceIte] at hx178_0)
           have qi178 : (1 < (rd_L1 l0_1 x33_2).length) = True := eq_true (by omega)
           (try rw [show ((1 : Int)).toNat = 1 from rfl] at hx178_0)
           have hn178_0 : ad175.block ≠ gb174 := Nat.ne_of_lt (Nat.lt_of_lt_of_le (by have := World.block_lt_of_cell? _ _ hx178_0; first | rwa [add_block] at this | exact this) GW174.out)
           replace hx178_0 := (HB.out.cell (World.block_lt_of_cell? w _ hx178_0)).trans hx178_0
           replace hx178_0 := (cell_far (p := ⟨gb174, 0, none⟩) (by first | (rw [add_block]; exact hn178_0) | (show (Addr.add _ _).block ≠ _; rw [add_block]; exact hn178_0) | exact hn178_0) (.slice (some ad175) (rd_L1 l0_1 x33_2).length c173_0)).trans hx178_0
           (try have hy178_0 := fun (n_ : Nat) => (show (((w19.drewN n_).setCell ⟨gb174, 0, none⟩ (.slice (some ad175) (rd_L1 l0_1 x33_2).length c173_0))).cell? _ = some _ from hx178_0))
           clear hn178_0; replace p178 := eq_true p178; replace q178 := eq_true q178; obtain ⟨hcz33_0, hcz33_1, hcz33_2, hfz33_0, hfz33_1, hfz33_2⟩ := box3 BK170; go_wp2
           repeat (go_quiet (fail); try go_wp2)
           go_meet
           case rel => exact ⟨_, (decide ((rd (rd_L1 l0_1 x33_2) 1) ≥ a0_0)), er, H', ⟨by have := HJ1.out; have := HK2.out; first | omega | exact Nat.le_refl _⟩, ⟨by (with_reducible repeat (first | refine blk_drewN ?_ _ | refine blk_drew ?_ | refine blk_alloc ?_ _)); refine blk_far ?_ NB170_174.out _; (with_reducible repeat (first | refine blk_drewN ?_ _ | refine blk_drew ?_ | refine blk_alloc ?_ _)); exact BK170.out⟩, ⟨by (with_reducible repeat (first | refine blk_drewN ?_ _ | refine blk_drew ?_ | refine blk_alloc ?_ _)); refine blk_put (cs := #[.slice none 0 0]) ?_ 0 _ rfl; (with_reducible repeat (first | refine blk_drewN ?_ _ | refine blk_drew ?_ | refine blk_alloc ?_ _)); exact BK174.out⟩, ⟨belowg2 HB GE170 GE174⟩⟩
        ·rw [if_neg c22] at H
         have c22b0 : (((rd_L1 l0_1 x33_2).length : Int) == 2) = false := beq_eq_false_iff_ne.mpr c22
         have c22b1 : (((rd_L1 l0_1 x33_2).length : Int) != 2) = true := bne_iff_ne.mpr c22
         (first | rw [c22b0] | (simp only [i64_w, i32_w]; rw [c22b0]) | skip)
         have H' := Aside0.mk H
         clear H; have hnb34 := NB174_170.out; have hnc34 := NB170_174.out; obtain ⟨hcz35_0, hfz35_0⟩ := box1 BK174; go_wp2
         repeat (go_quiet (fail); try go_wp2)
         go_meet
         case rel => exact ⟨_, (true), er, H', ⟨by have := HJ1.out; have := HK2.out; first | omega | exact Nat.le_refl _⟩, ⟨by (with_reducible repeat (first | refine blk_drewN ?_ _ | refine blk_drew ?_ | refine blk_alloc ?_ _)); refine blk_far ?_ NB170_174.out _; (with_reducible repeat (first | refine blk_drewN ?_ _ | refine blk_drew ?_ | refine blk_alloc ?_ _)); exact BK170.out⟩, ⟨by (with_reducible repeat (first | refine blk_drewN ?_ _ | refine blk_drew ?_ | refine blk_alloc ?_ _)); refine blk_put (cs := #[.slice none 0 0]) ?_ 0 _ rfl; (with_reducible repeat (first | refine blk_drewN ?_ _ | refine blk_drew ?_ | refine blk_alloc ?_ _)); exact BK174.out⟩, ⟨belowg2 HB GE170 GE174⟩⟩
       case rest =>
        clear HC18; (try clear c15b0); (try clear c16b0); (try clear c17b0); (try clear hcz21_0); (try clear hfz21_0); (try clear hx173_0); (try clear p173); (try clear q173)
        obtain ⟨kq, x63_17, rfl, HA, HJ17, BK170, BK174, HB⟩ := hcut
        cases kq with
        | zero => exact absurd HA.out (by simp [impl_GoodTable.j2])
        | succ kj17 =>
         have H := HA.out; clear HA
         simp only [impl_GoodTable.j2] at H
         by_cases c36 : x63_17 = true
         ·subst c36
          have H1 : (some false) = some r := by rw [if_pos rfl] at H; exact H
          clear H
          have H := H1
          clear H1
          obtain rfl := Option.some.inj H
          go_wp2
          repeat (go_quiet (fail); try go_wp2)
          go_ret
          exact ⟨er2, belowg2 HB GE170 GE174⟩
         ·replace c36 := Bool.eq_false_iff.mpr c36
          subst c36
          have H1 : (if 0 ≤ x33_2 then (if x33_2 ≤ (l0_1.length : Int) then ((slices_ContainsFunc_125_at_126_22.f kj17 (l0_1.take (x33_2 : Int).toNat) (rd_L1 l0_1 x33_2)).bind fun t183 => (if t183 = true then (some false) else (impl_GoodTable.l0 kj17 l0_1 (l0_1.length : Int) (wrap64 (x33_2 + 1)) a0_0 l0_1 l0_2))) else (none)) else (none)) = some r := by rw [if_neg (show ¬ (false = true) by decide)] at H; exact H
          clear H
          have H := H1
          clear H1; replace H := ifS H; obtain ⟨c37, H⟩ := H; have c37b0 := eq_true c37
          have c37b1 : decide (0 ≤ x33_2) = true := decide_eq_true c37
          clear c37; replace H := ifS H; obtain ⟨c38, H⟩ := H; have c38b0 := eq_true c38
          have c38b1 : decide (x33_2 ≤ (l0_1.length : Int)) = true := decide_eq_true c38
          clear c38
          obtain ⟨y179, hy_⟩ : ∃ y_ : List (List Int), y_ = (l0_1.take (x33_2 : Int).toNat) := ⟨_, rfl⟩
          replace H : ((slices_ContainsFunc_125_at_126_22.f kj17 y179 (rd_L1 l0_1 x33_2)).bind fun t183 => (if t183 = true then (some false) else (impl_GoodTable.l0 kj17 l0_1 (l0_1.length : Int) (wrap64 (x33_2 + 1)) a0_0 l0_1 l0_2))) = some r := yH
          have Ny179 := ak hy_; clear hy_; replace H := bS H; obtain ⟨t183, A39, H⟩ := H
          replace H : (if t183 = true then (some false) else (impl_GoodTable.l0 kj17 l0_1 (l0_1.length : Int) (wrap64 (x33_2 + 1)) a0_0 l0_1 l0_2)) = some r := H
          by_cases c40 : t183 = true
          ·subst c40
           have H1 : (some false) = some r := by rw [if_pos rfl] at H; exact H
           clear H
           have H := H1
           clear H1
           obtain rfl := Option.some.inj H
           have hnb41 := NB170_174.out; have hnc41 := NB174_170.out; obtain ⟨hcz42_0, hcz42_1, hcz42_2, hfz42_0, hfz42_1, hfz42_2⟩ := box3 BK170
           have q43 : (x33_2 : Int) ≤ ((l0_1.length : Int) : Int) := da
           obtain ⟨i043, hi043, _, hsz43, _⟩ := info_parts info22
           have hroom43 : l0_1.length ≤ c0_1 := HC0_1.out
           have hC43 : Kd.C (Kd.slice 3 (Kd.int .i64)) _ (some ad173) l0_1.length l0_1 := HR0_1.out
           have hcut43 := cut_to (P := Try.prog) 32 22 .i64 Try.underlying32 hi043 (some ad173) l0_1.length c0_1 x33_2 (da) q43 hroom43
           have hr43 := Kd.C_take (m := (x33_2 : Int).toNat) hC43 (by omega)
           have hy43 : y179.length = (x33_2 : Int).toNat := (by rw [Ny179.out, List.length_take]; omega)
           rw [← Ny179.out] at hr43
           rw [← hy43] at hcut43
           have HR182 := Aside0.mk hr43
           have HC182 := Aside0.mk (show y179.length ≤ c0_1 from by omega)
           clear hr43 hC43 hroom43 hi043 hsz43; have KY43 := Aside0.mk hy43; clear hy43; replace q43 := eq_true q43
           go_wp2_with (first | (go_at_call 125; (with_reducible refine (slices_ContainsFunc_125_at_126_22.calls kj17 _ _ y179 gb174 ?ca1_0 ?cc1_0 (rd_L1 l0_1 x33_2) true _ ?side1 ?side2 ?side3 ?side4 ?side5 A39.out).mono ?_); (case side5 => exact (by (with_reducible repeat (first | refine blk_drewN ?_ _ | refine blk_drew ?_ | refine blk_alloc ?_ _)); exact BK174.out)); (case side1 => repeat (first | exact (Kd.C_below HR182.out HB.out) | (with_reducible refine Kd.C_alloc ?_ _) | (with_reducible refine Kd.C_drewN ?_ _) | (with_reducible refine Kd.C_drew ?_))); (case side2 => exact HC182.out); (case side3 => repeat (first | exact (Kd.C_below HR173_0.out HB.out) | (with_reducible refine Kd.C_alloc ?_ _) | (with_reducible refine Kd.C_drewN ?_ _) | (with_reducible refine Kd.C_drew ?_))); (case side4 => exact HC173_0.out); rintro e w' ⟨rfl, ⟨nd, rfl⟩⟩; (try first | exact ⟨rfl, _, World.drewN_drewN _ _ _⟩ | exact ⟨rfl, _, Eq.trans (World.drewN_drewN _ _ _) (congrArg (World.drewN _) (Nat.add_assoc _ _ _))⟩)))
           repeat (go_quiet (first | (go_at_call 125; (with_reducible refine (slices_ContainsFunc_125_at_126_22.calls kj17 _ _ y179 gb174 ?ca1_0 ?cc1_0 (rd_L1 l0_1 x33_2) true _ ?side1 ?side2 ?side3 ?side4 ?side5 A39.out).mono ?_); (case side5 => exact (by (with_reducible repeat (first | refine blk_drewN ?_ _ | refine blk_drew ?_ | refine blk_alloc ?_ _)); exact BK174.out)); (case side1 => repeat (first | exact (Kd.C_below HR182.out HB.out) | (with_reducible refine Kd.C_alloc ?_ _) | (with_reducible refine Kd.C_drewN ?_ _) | (with_reducible refine Kd.C_drew ?_))); (case side2 => exact HC182.out); (case side3 => repeat (first | exact (Kd.C_below HR173_0.out HB.out) | (with_reducible refine Kd.C_alloc ?_ _) | (with_reducible refine Kd.C_drewN ?_ _) | (with_reducible refine Kd.C_drew ?_))); (case side4 => exact HC173_0.out); rintro e w' ⟨rfl, ⟨nd, rfl⟩⟩; (try first | exact ⟨rfl, _, World.drewN_drewN _ _ _⟩ | exact ⟨rfl, _, Eq.trans (World.drewN_drewN _ _ _) (congrArg (World.drewN _) (Nat.add_assoc _ _ _))⟩))); try go_wp2_with (first | (go_at_call 125; (with_reducible refine (slices_ContainsFunc_125_at_126_22.calls kj17 _ _ y179 gb174 ?ca1_0 ?cc1_0 (rd_L1 l0_1 x33_2) true _ ?side1 ?side2 ?side3 ?side4 ?side5 A39.out).mono ?_); (case side5 => exact (by (with_reducible repeat (first | refine blk_drewN ?_ _ | refine blk_drew ?_ | refine blk_alloc ?_ _)); exact BK174.out)); (case side1 => repeat (first | exact (Kd.C_below HR182.out HB.out) | (with_reducible refine Kd.C_alloc ?_ _) | (with_reducible refine Kd.C_drewN ?_ _) | (with_reducible refine Kd.C_drew ?_))); (case side2 => exact HC182.out); (case side3 => repeat (first | exact (Kd.C_below HR173_0.out HB.out) | (with_reducible refine Kd.C_alloc ?_ _) | (with_reducible refine Kd.C_drewN ?_ _) | (with_reducible refine Kd.C_drew ?_))); (case side4 => exact HC173_0.out); rintro e w' ⟨rfl, ⟨nd, rfl⟩⟩; (try first | exact ⟨rfl, _, World.drewN_drewN _ _ _⟩ | exact ⟨rfl, _, Eq.trans (World.drewN_drewN _ _ _) (congrArg (World.drewN _) (Nat.add_assoc _ _ _))⟩))))
           go_ret
           exact ⟨er2, belowg2 HB GE170 GE174⟩
          ·replace c40 := Bool.eq_false_iff.mpr c40
           subst c40
           have H1 : (impl_GoodTable.l0 kj17 l0_1 (l0_1.length : Int) (wrap64 (x33_2 + 1)) a0_0 l0_1 l0_2) = some r := by rw [if_neg (show ¬ (false = true) by decide)] at H; exact H
           clear H
           have H := H1
           clear H1
           have H' := Aside0.mk H
           clear H; have hnb44 := NB170_174.out; have hnc44 := NB174_170.out; obtain ⟨hcz45_0, hcz45_1, hcz45_2, hfz45_0, hfz45_1, hfz45_2⟩ := box3 BK170
           have q46 : (x33_2 : Int) ≤ ((l0_1.length : Int) : Int) := da
           obtain ⟨i046, hi046, _, hsz46, _⟩ := info_parts info22
           have hroom46 : l0_1.length ≤ c0_1 := HC0_1.out
           have hC46 : Kd.C (Kd.slice 3 (Kd.int .i64)) _ (some ad173) l0_1.length l0_1 := HR0_1.out
           have hcut46 := cut_to (P := Try.prog) 32 22 .i64 Try.underlying32 hi046 (some ad173) l0_1.length c0_1 x33_2 (da) q46 hroom46
           have hr46 := Kd.C_take (m := (x33_2 : Int).toNat) hC46 (by omega)
           have hy46 : y179.length = (x33_2 : Int).toNat := (by rw [Ny179.out, List.length_take]; omega)
           rw [← Ny179.out] at hr46
           rw [← hy46] at hcut46
           have HR182 := Aside0.mk hr46
           have HC182 := Aside0.mk (show y179.length ≤ c0_1 from by omega)
           clear hr46 hC46 hroom46 hi046 hsz46; have KY46 := Aside0.mk hy46; clear hy46; replace q46 := eq_true q46
           go_wp2_with (first | (go_at_call 125; (with_reducible refine (slices_ContainsFunc_125_at_126_22.calls kj17 _ _ y179 gb174 ?ca1_0 ?cc1_0 (rd_L1 l0_1 x33_2) false _ ?side1 ?side2 ?side3 ?side4 ?side5 A39.out).mono ?_); (case side5 => exact (by (with_reducible repeat (first | refine blk_drewN ?_ _ | refine blk_drew ?_ | refine blk_alloc ?_ _)); exact BK174.out)); (case side1 => repeat (first | exact (Kd.C_below HR182.out HB.out) | (with_reducible refine Kd.C_alloc ?_ _) | (with_reducible refine Kd.C_drewN ?_ _) | (with_reducible refine Kd.C_drew ?_))); (case side2 => exact HC182.out); (case side3 => repeat (first | exact (Kd.C_below HR173_0.out HB.out) | (with_reducible refine Kd.C_alloc ?_ _) | (with_reducible refine Kd.C_drewN ?_ _) | (with_reducible refine Kd.C_drew ?_))); (case side4 => exact HC173_0.out); rintro e w' ⟨rfl, ⟨nd, rfl⟩⟩; (try first | exact ⟨rfl, _, World.drewN_drewN _ _ _⟩ | exact ⟨rfl, _, Eq.trans (World.drewN_drewN _ _ _) (congrArg (World.drewN _) (Nat.add_assoc _ _ _))⟩)))
           repeat (go_quiet (first | (go_at_call 125; (with_reducible refine (slices_ContainsFunc_125_at_126_22.calls kj17 _ _ y179 gb174 ?ca1_0 ?cc1_0 (rd_L1 l0_1 x33_2) false _ ?side1 ?side2 ?side3 ?side4 ?side5 A39.out).mono ?_); (case side5 => exact (by (with_reducible repeat (first | refine blk_drewN ?_ _ | refine blk_drew ?_ | refine blk_alloc ?_ _)); exact BK174.out)); (case side1 => repeat (first | exact (Kd.C_below HR182.out HB.out) | (with_reducible refine Kd.C_alloc ?_ _) | (with_reducible refine Kd.C_drewN ?_ _) | (with_reducible refine Kd.C_drew ?_))); (case side2 => exact HC182.out); (case side3 => repeat (first | exact (Kd.C_below HR173_0.out HB.out) | (with_reducible refine Kd.C_alloc ?_ _) | (with_reducible refine Kd.C_drewN ?_ _) | (with_reducible refine Kd.C_drew ?_))); (case side4 => exact HC173_0.out); rintro e w' ⟨rfl, ⟨nd, rfl⟩⟩; (try first | exact ⟨rfl, _, World.drewN_drewN _ _ _⟩ | exact ⟨rfl, _, Eq.trans (World.drewN_drewN _ _ _) (congrArg (World.drewN _) (Nat.add_assoc _ _ _))⟩))); try go_wp2_with (first | (go_at_call 125; (with_reducible refine (slices_ContainsFunc_125_at_126_22.calls kj17 _ _ y179 gb174 ?ca1_0 ?cc1_0 (rd_L1 l0_1 x33_2) false _ ?side1 ?side2 ?side3 ?side4 ?side5 A39.out).mono ?_); (case side5 => exact (by (with_reducible repeat (first | refine blk_drewN ?_ _ | refine blk_drew ?_ | refine blk_alloc ?_ _)); exact BK174.out)); (case side1 => repeat (first | exact (Kd.C_below HR182.out HB.out) | (with_reducible refine Kd.C_alloc ?_ _) | (with_reducible refine Kd.C_drewN ?_ _) | (with_reducible refine Kd.C_drew ?_))); (case side2 => exact HC182.out); (case side3 => repeat (first | exact (Kd.C_below HR173_0.out HB.out) | (with_reducible refine Kd.C_alloc ?_ _) | (with_reducible refine Kd.C_drewN ?_ _) | (with_reducible refine Kd.C_drew ?_))); (case side4 => exact HC173_0.out); rintro e w' ⟨rfl, ⟨nd, rfl⟩⟩; (try first | exact ⟨rfl, _, World.drewN_drewN _ _ _⟩ | exact ⟨rfl, _, Eq.trans (World.drewN_drewN _ _ _) (congrArg (World.drewN _) (Nat.add_assoc _ _ _))⟩))))
           go_roundg kj17
           case measure => have := HJ1.out; have := HK2.out; have := HJ17.out; omega
           case rel => exact ⟨(wrap64 (x33_2 + 1)), er, H', ⟨by have := HJ1.out; have := HK2.out; have := HJ17.out; omega⟩, ⟨blkd BK170⟩, ⟨belowg2 HB GE170 GE174⟩⟩
      ·rw [if_neg c15] at H
       have c15b0 : decide (x33_2 < (l0_1.length : Int)) = false := decide_eq_false c15
       clear c15
       obtain rfl := Option.some.inj H
       go_wp2
       repeat (go_quiet (fail); try go_wp2)
       go_ret
       exact ⟨er2, belowg1 HB GE170⟩

/-! ### bits_Mul32: function 160 -/
def bits_Mul32.f (a0 : Int) (a1 : Int) : Option (Int × Int) := some (((IntKind.u64.wrap ((IntKind.u64.wrap (a0)) * (IntKind.u64.wrap (a1)))) / 4294967296) % 4294967296, (IntKind.u64.wrap ((IntKind.u64.wrap (a0)) * (IntKind.u64.wrap (a1)))) % 4294967296)
set_option maxHeartbeats 8000000 in
set_option maxRecDepth 100000 in
theorem bits_Mul32.calls (a0 : Int) (a1 : Int) (r1 : Int) (r2 : Int) (w : World) (h : bits_Mul32.f a0 a1 = some (r1, r2)) :
  Calls Try.prog 160 #[.int .u32 a0, .int .u32 a1] w fun e w' => e = .returned (.tuple #[.int .u32 r1, .int .u32 r2]) ∧ Drawn0 w w' := by
 have H : (some (((IntKind.u64.wrap ((IntKind.u64.wrap (a0)) * (IntKind.u64.wrap (a1)))) / 4294967296) % 4294967296, (IntKind.u64.wrap ((IntKind.u64.wrap (a0)) * (IntKind.u64.wrap (a1)))) % 4294967296)) = some (r1, r2) := h
 clear h
 simp only [Option.some.injEq, Prod.mk.injEq] at H
 obtain ⟨rfl, rfl⟩ := H
 go_enter Try.func160, Try.ntmps160
 go_wp2
 go_ret2
 exact ⟨er, drw⟩

/-! ### bits_Mul64: function 161 -/
def bits_Mul64.f (a0 : Int) (a1 : Int) : Option (Int × Int) := some (IntKind.u64.wrap ((IntKind.u64.wrap ((IntKind.u64.wrap ((a0 / 4294967296) * (a1 / 4294967296))) + ((IntKind.u64.wrap ((IntKind.u64.wrap ((a0 / 4294967296) * (Go.bits .and .u64 a1 4294967295))) + ((IntKind.u64.wrap ((Go.bits .and .u64 a0 4294967295) * (Go.bits .and .u64 a1 4294967295))) / 4294967296))) / 4294967296))) + ((IntKind.u64.wrap ((Go.bits .and .u64 (IntKind.u64.wrap ((IntKind.u64.wrap ((a0 / 4294967296) * (Go.bits .and .u64 a1 4294967295))) + ((IntKind.u64.wrap ((Go.bits .and .u64 a0 4294967295) * (Go.bits .and .u64 a1 4294967295))) / 4294967296))) 4294967295) + (IntKind.u64.wrap ((Go.bits .and .u64 a0 4294967295) * (a1 / 4294967296))))) / 4294967296)), IntKind.u64.wrap (a0 * a1))
set_option maxHeartbeats 8000000 in
set_option maxRecDepth 100000 in
theorem bits_Mul64.calls (a0 : Int) (a1 : Int) (r1 : Int) (r2 : Int) (w : World) (h : bits_Mul64.f a0 a1 = some (r1, r2)) :
  Calls Try.prog 161 #[.int .u64 a0, .int .u64 a1] w fun e w' => e = .returned (.tuple #[.int .u64 r1, .int .u64 r2]) ∧ Drawn0 w w' := by
 have H : (some (IntKind.u64.wrap ((IntKind.u64.wrap ((IntKind.u64.wrap ((a0 / 4294967296) * (a1 / 4294967296))) + ((IntKind.u64.wrap ((IntKind.u64.wrap ((a0 / 4294967296) * (Go.bits .and .u64 a1 4294967295))) + ((IntKind.u64.wrap ((Go.bits .and .u64 a0 4294967295) * (Go.bits .and .u64 a1 4294967295))) / 4294967296))) / 4294967296))) + ((IntKind.u64.wrap ((Go.bits .and .u64 (IntKind.u64.wrap ((IntKind.u64.wrap ((a0 / 4294967296) * (Go.bits .and .u64 a1 4294967295))) + ((IntKind.u64.wrap ((Go.bits .and .u64 a0 4294967295) * (Go.bits .and .u64 a1 4294967295))) / 4294967296))) 4294967295) + (IntKind.u64.wrap ((Go.bits .and .u64 a0 4294967295) * (a1 / 4294967296))))) / 4294967296)), IntKind.u64.wrap (a0 * a1))) = some (r1, r2) := h
 clear h
 simp only [Option.some.injEq, Prod.mk.injEq] at H
 obtain ⟨rfl, rfl⟩ := H
 go_enter Try.func161, Try.ntmps161
 go_wp2
 go_ret2
 exact ⟨er, drw⟩

/-! ### bits_Mul: function 154 -/
def bits_Mul.f (a0 : Int) (a1 : Int) : Option (Int × Int) := (bits_Mul64.f a0 a1).bind fun bt184 => (some (bt184.1, bt184.2))
set_option maxHeartbeats 8000000 in
set_option maxRecDepth 100000 in
theorem bits_Mul.calls (a0 : Int) (a1 : Int) (r1 : Int) (r2 : Int) (w : World) (h : bits_Mul.f a0 a1 = some (r1, r2)) :
  Calls Try.prog 154 #[.int .u64 a0, .int .u64 a1] w fun e w' => e = .returned (.tuple #[.int .u64 r1, .int .u64 r2]) ∧ Drawn0 w w' := by
 have H : ((bits_Mul64.f a0 a1).bind fun bt184 => (some (bt184.1, bt184.2))) = some (r1, r2) := h
 clear h; replace H := bS H; obtain ⟨⟨t184, t185⟩, A3, H⟩ := H
 replace H : (some (t184, t185)) = some (r1, r2) := H
 simp only [Option.some.injEq, Prod.mk.injEq] at H
 obtain ⟨rfl, rfl⟩ := H
 go_enter Try.func154, Try.ntmps154
 go_wp2_with (first | ((with_reducible refine gate_callee (f := 161) rfl ?_); refine goesLa (some 25) rfl Try.func161 #[.int .u64 a0, .int .u64 a1] rfl ?_; (with_reducible refine (bits_Mul64.calls a0 a1 t184 t185 _ A3.out).mono ?_); rintro e w' ⟨rfl, ⟨nd, rfl⟩⟩; refine ⟨_, rfl, ?_⟩))
 go_ret2
 exact ⟨er, drw⟩

/-! ### slices_Repeat_int_int: function 143 -/
def slices_Repeat_int_int.f (l0 : List Int) (a1 : Int) : Option (List Int) := if 0 ≤ a1 then (if a1 ≤ 1048576 then (if (l0.length : Int) = 1 then ((bits_Mul.f 1 a1).bind fun m => (if m.1 = 0 then (if m.2 = a1 then (some (List.replicate a1.toNat (rd l0 0))) else (none)) else (none))) else (none)) else (none)) else (none)
set_option maxHeartbeats 8000000 in
set_option maxRecDepth 100000 in
theorem slices_Repeat_int_int.calls (A0 : Option Addr) (c0 : Nat) (l0 : List Int) (a1 : Int) (r : List Int) (w : World) (hr0 : Kd.C (Kd.int .i64) w A0 l0.length l0) (hc0 : l0.length ≤ c0) (h : slices_Repeat_int_int.f l0 a1 = some r) :
  Calls Try.prog 143 #[.slice A0 l0.length c0, .int .i64 a1] w fun e w' => ∃ v0_ : Value, e = .returned (v0_) ∧ Kd.R (Kd.int .i64) 3 w' w.heap.size (fun _ => True) v0_ r ∧ Below w.heap.size w w' := by
 unfold slices_Repeat_int_int.f at h
 by_cases h0 : 0 ≤ a1
 ·rw [if_pos h0] at h
  by_cases h1 : a1 ≤ 1048576
  ·rw [if_pos h1] at h
   by_cases hl : (l0.length : Int) = 1
   ·rw [if_pos hl] at h
    obtain ⟨⟨m1, m2⟩, hm, h⟩ := Option.bind_eq_some_iff.mp h
    by_cases e1 : m1 = 0
    ·by_cases e2 : m2 = a1
     ·subst e1; subst e2
      simp only [if_true, Option.some.injEq] at h
      subst h
      obtain ⟨x, rfl⟩ : ∃ x, l0 = [x] := List.length_eq_one_iff.1 (by omega)
      obtain ⟨ad, rfl, hx⟩ := Kd.at_int hr0 0 (by omega) (by simp)
      obtain ⟨N, rfl⟩ := Int.eq_ofNat_of_zero_le h0
      have HM := Aside0.mk hm; clear hm hr0 hl
      have wu : IntKind.u64.wrap (N : Int) = (N : Int) := by simp [IntKind.wrap, IntKind.bits, IntKind.signed]; omega
      have wi : IntKind.i64.wrap (N : Int) = (N : Int) := by rw [IntKind.wrap_i64]; omega
      have n0 : decide ((N : Int) < 0) = false := decide_eq_false (by omega)
      have n1 : decide ((9223372036854775807 : Int) < (N : Int)) = false := decide_eq_false (by omega)
      go_enter Try.func143, Try.ntmps143
      go_wp2_with (first | ((with_reducible refine gate_callee (f := 154) rfl ?_); refine goesL_ (some 18) rfl rfl Try.func154 (by kernel_rfl) rfl #[.int .u64 1, .int .u64 (N : Int)] rfl (by (try simp only [List.map_toArray, List.map_cons, List.map_nil]); first | done | rfl | (simp; done)) ?_; (with_reducible refine (bits_Mul.calls 1 (N : Int) 0 (N : Int) _ HM.out).mono ?_); rintro e w2 ⟨rfl, ⟨nd, rfl⟩⟩; refine ⟨_, rfl, ?_⟩) | ((with_reducible refine gate_dst (N := 30) rfl ?_); refine make_raw rfl 22 3 _ _ rfl N rfl rfl Try.underlying22 (.int .i64 0) 8 info3 rfl (by decide) (by omega) ?_; intro w3 hw3; have HG3 := Aside0.mk (show w3.heap[(w.drewN nd).heap.size]? = some (.cells (List.replicate N (Value.int .i64 0)).toArray 3 (0, 0)) by rw [hw3]; exact heap_alloc_new _ _); have HB3 := Aside0.mk (show Below w.heap.size w w3 by rw [hw3]; exact below_alloc (pw_below_drewN (Below.refl _ _) nd) _); have GE := Aside0.mk (show w.heap.size ≤ (w.drewN nd).heap.size from Nat.le_refl _); clear hw3; generalize (w.drewN nd).heap.size = g at HG3 GE ⊢) | ((with_reducible refine gate_builtin (b := .copy) (xs := #[.tmp 31, .tmp 32]) (ts := #[22, 22]) rfl ?_); go_loud (refine wpList_copy_splice rfl (.tmp 31) (.tmp 32) 22 22 rfl 3 Try.underlying22 (by kernel_rfl) (some ⟨g, 0, none⟩) (some ad) N N 1 c0 rfl rfl g 0 (List.replicate N (Value.int .i64 0)) 3 HG3.out (List.replicate (min 1 N) (Value.int .i64 x)) List.length_replicate (fun _ => ⟨rfl, ad, rfl, rep_src hx HB3.out⟩) (by simp; omega) (rep_one _ _) w.heap.size w HB3.out GE.out ?_); intro w4 hg4 hb4))
      rw [repl_start] at hg4
      (try simp only [Act.put, List.setIfInBounds_toArray, List.set_cons_zero, List.set_cons_succ])
      go_loopg [8] N (fun kq v8 w' => ∃ n : Nat, v8 = .int .i64 (n : Int) ∧ Aside0 (n ≤ N) ∧ Aside0 (0 < N → 0 < n) ∧ Aside0 (N ≤ n + kq) ∧ Aside0 (w'.heap[g]? = some (.cells (repl x N n).toArray 3 (0, 0))) ∧ Aside0 (Below w.heap.size w w'))
      case atStart => exact ⟨min 1 N, by simp [goInt], ⟨by omega⟩, ⟨by omega⟩, ⟨by omega⟩, ⟨hg4.out⟩, ⟨hb4⟩⟩
      case round =>
       obtain ⟨n, rfl, Hn, Hp, HK, HG, HB⟩ := hrel
       by_cases hn : n < N
       ·obtain ⟨k1, rfl⟩ : ∃ k1, gk = k1 + 1 := ⟨gk - 1, by have := HK.out; omega⟩
        have c0 : decide ((n : Int) < (N : Int)) = true := decide_eq_true (by omega)
        have q0 : (0 : Int) ≤ (n : Int) := by omega
        have q1 : (n : Int) ≤ (N : Int) := by omega
        have q2 : (n : Int) < (N : Int) := by omega
        go_wp2_with fail
        go_region_law (refine step_copy_splice rfl (.tmp 41) (.tmp 44) 22 22 rfl 3 Try.underlying22 (by kernel_rfl) (some ⟨g, n, none⟩) (some ⟨g, 0, none⟩) (N - n) (N - n) n N (by simp [Act.eval, Act.put]; omega) (by simp [Act.eval, Act.put]) g n (repl x N n) 3 HG.out (List.replicate (min n (N - n)) (Value.int .i64 x)) List.length_replicate (fun _ => ⟨rfl, _, rfl, repl_src HG.out _ (Nat.min_le_left _ _)⟩) (by rw [repl_len _ _ _ Hn.out, List.length_replicate]; omega) (rep_one _ _) w.heap.size w (below_drew1 HB.out) GE.out ?_; intro w5 hg5 hb5)
        rw [repl_splice x N n _ (by omega)] at hg5
        go_wp2
        go_roundg k1
        case measure => omega
        case rel => exact ⟨n + min n (N - n), by (try simp only [goInt, List.length_replicate, IntKind.wrap_i64]); exact congrArg (Value.int .i64) (by first | omega | (unfold wrap64; omega)), ⟨by omega⟩, ⟨fun _ => by have := Hp.out (by omega); omega⟩, ⟨by have := HK.out; have := Hp.out (by omega); omega⟩, ⟨hg5.out⟩, ⟨hb5⟩⟩
       ·have c0 : decide ((n : Int) < (N : Int)) = false := decide_eq_false (by omega)
        go_wp2
        go_ret
        have e : n = N := by have := Hn.out; omega
        subst e; have hg := HG.out
        rw [repl_full] at hg
        exact ⟨_, rfl, R_ofcells hg GE.out (by unfold maxLen; omega), HB.out⟩
     ·simp [e2] at h
    ·simp [e1] at h
   ·rw [if_neg hl] at h; exact absurd h (by simp)
  ·rw [if_neg h1] at h; exact absurd h (by simp)
 ·rw [if_neg h0] at h; exact absurd h (by simp)

/-! ### impl_Table_pair_1: function 155 -/
def impl_Table_pair_1.f (k : Nat) (l0 : List Int) (l1_0 : List Int) : Option (Bool) := (slices_Equal_int_int.f k l0 l1_0).bind fun t186 => (some t186)
theorem impl_Table_pair_1.mono : ∀ a0 a1 k, LeO (impl_Table_pair_1.f k a0 a1) (impl_Table_pair_1.f (k + 1) a0 a1) := by
 intro a0 a1 k
 unfold impl_Table_pair_1.f
 repeat' (first | (with_reducible first | exact slices_Equal_int_int.mono _ _ _ | exact LeO.refl _ | exact LeO.none _ | refine LeO.ite ?_ ?_ | refine LeO.bind ?_ (fun _ => ?_)) | exact slices_Equal_int_int.mono _ _ _ | exact LeO.none _ | refine LeO.ite ?_ ?_ | refine LeO.bind ?_ (fun _ => ?_))
set_option maxHeartbeats 8000000 in
set_option maxRecDepth 100000 in
theorem impl_Table_pair_1.calls (k : Nat) (A0 : Option Addr) (c0 : Nat) (l0 : List Int) (g1_ : Nat) (A1_0 : Option Addr) (c1_0 : Nat) (l1_0 : List Int) (r : Bool) (w : World) (hr0 : Kd.C (Kd.int .i64) w A0 l0.length l0) (hc0 : l0.length ≤ c0) (hr1_0 : Kd.C (Kd.int .i64) w A1_0 l1_0.length l1_0) (hc1_0 : l1_0.length ≤ c1_0) (hq1_0 : w.heap[g1_]? = some (.cells #[.slice A1_0 l1_0.length c1_0] 22 (0, 0))) (h : impl_Table_pair_1.f k l0 l1_0 = some r) :
  Calls Try.prog 155 #[.slice A0 l0.length c0, .pointer (some ⟨g1_, 0, none⟩)] w fun e w' => e = .returned (.bool r) ∧ Drawn0 w w' := by
 have HR0 := Aside0.mk hr0; have HC0 := Aside0.mk hc0; clear hr0 hc0; have HR1_0 := Aside0.mk hr1_0; have HC1_0 := Aside0.mk hc1_0; clear hr1_0 hc1_0
 have hcq1_0_0 : w.cell? ⟨g1_, 0, none⟩ = some (.slice A1_0 l1_0.length c1_0) := (blk_cell hq1_0 0).trans rfl
 have H : ((slices_Equal_int_int.f k l0 l1_0).bind fun t186 => (some t186)) = some r := h
 clear h; replace H := bS H; obtain ⟨t186, A3, H⟩ := H
 replace H : (some t186) = some r := H
 obtain rfl := Option.some.inj H
 go_enter Try.func155, Try.ntmps155
 go_wp2_with (first | ((with_reducible refine gate_callee (f := 127) rfl ?_); refine goesLa (some 6) rfl Try.func127 #[.slice A0 l0.length c0, .slice A1_0 l1_0.length c1_0] rfl ?_; (with_reducible refine (slices_Equal_int_int.calls k _ _ l0 _ _ l1_0 t186 _ ?side1 ?side2 ?side3 ?side4 A3.out).mono ?_); (case side1 => exact cd HR0.out); (case side2 => exact HC0.out); (case side3 => exact cd HR1_0.out); (case side4 => exact HC1_0.out); rintro e w' ⟨rfl, ⟨nd, rfl⟩⟩; refine ⟨_, rfl, ?_⟩))
 go_ret
 exact ⟨er, drw⟩

/-! ### slices_IndexFunc_147_at_155_22: function 147 -/
def slices_IndexFunc_147_at_155_22.l0 : Nat → List (List Int) → Int → Int → List Int → Option (Int)
  | 0, _, _, _, _ => none
  | k + 1, x0, x7, x8, x511000 => if x8 < x7 then (if 0 ≤ x8 then (if x8 < (x0.length : Int) then ((impl_Table_pair_1.f k (rd_L1 x0 x8) x511000).bind fun t188 => (if t188 = true then (some x8) else (slices_IndexFunc_147_at_155_22.l0 k x0 x7 (wrap64 (x8 + 1)) x511000))) else (none)) else (none)) else (some (-1))
def slices_IndexFunc_147_at_155_22.f (k : Nat) (l0 : List (List Int)) (l1_0 : List Int) : Option (Int) := slices_IndexFunc_147_at_155_22.l0 k l0 (l0.length : Int) 0 l1_0
theorem slices_IndexFunc_147_at_155_22.mono_l : ∀ k, (∀ y0 y1 y2 y3, LeO (slices_IndexFunc_147_at_155_22.l0 k y0 y1 y2 y3) (slices_IndexFunc_147_at_155_22.l0 (k + 1) y0 y1 y2 y3))
 | 0 => fun _ _ _ _ r h => by simp [slices_IndexFunc_147_at_155_22.l0] at h
 | k + 1 => by
  have ih0 := slices_IndexFunc_147_at_155_22.mono_l k
  ·intro y0 y1 y2 y3
   unfold slices_IndexFunc_147_at_155_22.l0
   repeat' (first | (with_reducible first | exact ih0 _ _ _ _ | exact impl_Table_pair_1.mono _ _ _ | exact LeO.refl _ | exact LeO.none _ | refine LeO.ite ?_ ?_ | refine LeO.bind ?_ (fun _ => ?_)) | exact ih0 _ _ _ _ | exact impl_Table_pair_1.mono _ _ _ | exact LeO.none _ | refine LeO.ite ?_ ?_ | refine LeO.bind ?_ (fun _ => ?_))
theorem slices_IndexFunc_147_at_155_22.mono : ∀ a0 a1 k, LeO (slices_IndexFunc_147_at_155_22.f k a0 a1) (slices_IndexFunc_147_at_155_22.f (k + 1) a0 a1) := by
 intro a0 a1 k
 have ih0 := slices_IndexFunc_147_at_155_22.mono_l k
 unfold slices_IndexFunc_147_at_155_22.f
 repeat' (first | (with_reducible first | exact ih0 _ _ _ _ | exact impl_Table_pair_1.mono _ _ _ | exact LeO.refl _ | exact LeO.none _ | refine LeO.ite ?_ ?_ | refine LeO.bind ?_ (fun _ => ?_)) | exact ih0 _ _ _ _ | exact impl_Table_pair_1.mono _ _ _ | exact LeO.none _ | refine LeO.ite ?_ ?_ | refine LeO.bind ?_ (fun _ => ?_))
set_option maxHeartbeats 8000000 in
set_option maxRecDepth 100000 in
theorem slices_IndexFunc_147_at_155_22.calls (k : Nat) (A0 : Option Addr) (c0 : Nat) (l0 : List (List Int)) (g1_0_ : Nat) (A1_0 : Option Addr) (c1_0 : Nat) (l1_0 : List Int) (r : Int) (w : World) (hr0 : Kd.C (Kd.slice 3 (Kd.int .i64)) w A0 l0.length l0) (hc0 : l0.length ≤ c0) (hr1_0 : Kd.C (Kd.int .i64) w A1_0 l1_0.length l1_0) (hc1_0 : l1_0.length ≤ c1_0) (hq1_0 : w.heap[g1_0_]? = some (.cells #[.slice A1_0 l1_0.length c1_0] 22 (0, 0))) (h : slices_IndexFunc_147_at_155_22.f k l0 l1_0 = some r) :
  Calls Try.prog 147 #[.slice A0 l0.length c0, .func (.func 155) #[] #[.pointer (some ⟨g1_0_, 0, none⟩)]] w fun e w' => e = .returned (.int .i64 r) ∧ Drawn0 w w' := by
 have HR0 := Aside0.mk hr0; have HC0 := Aside0.mk hc0; clear hr0 hc0; have HR1_0 := Aside0.mk hr1_0; have HC1_0 := Aside0.mk hc1_0; clear hr1_0 hc1_0
 have hcq1_0_0 : w.cell? ⟨g1_0_, 0, none⟩ = some (.slice A1_0 l1_0.length c1_0) := (blk_cell hq1_0 0).trans rfl
 have H : (slices_IndexFunc_147_at_155_22.l0 k l0 (l0.length : Int) 0 l1_0) = some r := h
 clear h
 have H' := Aside0.mk H
 clear H
 go_enter Try.func147, Try.ntmps147
 go_wp2
 go_loopg [8] k (fun kq v8 w' => ∃ (x8_1 : Int), v8 = .int .i64 x8_1 ∧ Aside0 (slices_IndexFunc_147_at_155_22.l0 kq l0 (l0.length : Int) x8_1 l1_0 = some r) ∧ Aside0 (kq ≤ k) ∧ Drawn0 w w')
 case atStart => exact ⟨(0), er, H', ⟨Nat.le_refl _⟩, drw⟩
 case round =>
  clear H'
  obtain ⟨x8_1, rfl, HA, HK1, ⟨m1, rfl⟩⟩ := hrel
  cases gk with
  | zero => exact absurd HA.out (by simp [slices_IndexFunc_147_at_155_22.l0])
  | succ k1 =>
   have H := HA.out; clear HA
   simp only [slices_IndexFunc_147_at_155_22.l0] at H
   by_cases c3 : x8_1 < (l0.length : Int)
   ·rw [if_pos c3] at H
    have c3b0 : decide (x8_1 < (l0.length : Int)) = true := decide_eq_true c3
    clear c3; replace H := ifS H; obtain ⟨c4, H⟩ := H; have c4b0 := decide_eq_true c4; clear c4; replace H := ifS H; obtain ⟨c5, H⟩ := H; have c5b0 := decide_eq_true c5; clear c5; replace H := bS H; obtain ⟨t188, A6, H⟩ := H
    replace H : (if t188 = true then (some x8_1) else (slices_IndexFunc_147_at_155_22.l0 k1 l0 (l0.length : Int) (wrap64 (x8_1 + 1)) l1_0)) = some r := H
    by_cases c7 : t188 = true
    ·subst c7
     have H1 : (some x8_1) = some r := by rw [if_pos rfl] at H; exact H
     clear H
     have H := H1
     clear H1
     obtain rfl := Option.some.inj H
     have p187 : 0 ≤ (x8_1 : Int) := da
     have q187 : x8_1 < (l0.length : Int) := da
     obtain ⟨ad187, A187_0, c187_0, e187, hx187_0, hl187_0, hi187_0⟩ := at_L1 HR0.out x8_1 p187 q187
     cases e187
     have HR187_0 := Aside0.mk hi187_0; have HC187_0 := Aside0.mk hl187_0; clear hi187_0 hl187_0; replace p187 := eq_true p187; replace q187 := eq_true q187
     go_wp2_with (first | ((with_reducible refine gate_value (f := 155) rfl rfl ?_); refine goesV_ (some 16) rfl rfl Try.func155 (by kernel_rfl) rfl #[.slice A187_0 (rd_L1 l0 x8_1).length c187_0, .pointer (some ⟨g1_0_, 0, none⟩)] rfl rfl (by (try simp only [List.map_toArray, List.map_cons, List.map_nil]); first | done | rfl | (simp only [List.length_drop, List.length_take]; rfl)) ?_; (with_reducible refine (impl_Table_pair_1.calls k1 _ _ (rd_L1 l0 x8_1) g1_0_ ?ca1_0 ?cc1_0 l1_0 true _ ?side1 ?side2 ?side3 ?side4 ?side5 A6.out).mono ?_); (case side5 => first | ((with_reducible repeat (first | refine blk_drewN ?_ _ | refine blk_drew ?_ | refine blk_alloc ?_ _)); exact hq1_0)); (case side1 => repeat (first | exact HR187_0.out | (with_reducible refine Kd.C_alloc ?_ _) | (with_reducible refine Kd.C_drewN ?_ _) | (with_reducible refine Kd.C_drew ?_))); (case side2 => exact HC187_0.out); (case side3 => repeat (first | exact HR1_0.out | (with_reducible refine Kd.C_alloc ?_ _) | (with_reducible refine Kd.C_drewN ?_ _) | (with_reducible refine Kd.C_drew ?_))); (case side4 => exact HC1_0.out); rintro e w' ⟨rfl, ⟨nd, rfl⟩⟩; refine ⟨_, rfl, ?_⟩))
     go_ret
     exact ⟨er, drw⟩
    ·replace c7 := Bool.eq_false_iff.mpr c7
     subst c7
     have H1 : (slices_IndexFunc_147_at_155_22.l0 k1 l0 (l0.length : Int) (wrap64 (x8_1 + 1)) l1_0) = some r := by rw [if_neg (show ¬ (false = true) by decide)] at H; exact H
     clear H
     have H := H1
     clear H1
     have H' := Aside0.mk H
     clear H
     have p187 : 0 ≤ (x8_1 : Int) := da
     have q187 : x8_1 < (l0.length : Int) := da
     obtain ⟨ad187, A187_0, c187_0, e187, hx187_0, hl187_0, hi187_0⟩ := at_L1 HR0.out x8_1 p187 q187
     cases e187
     have HR187_0 := Aside0.mk hi187_0; have HC187_0 := Aside0.mk hl187_0; clear hi187_0 hl187_0; replace p187 := eq_true p187; replace q187 := eq_true q187
     go_wp2_with (first | ((with_reducible refine gate_value (f := 155) rfl rfl ?_); refine goesV_ (some 16) rfl rfl Try.func155 (by kernel_rfl) rfl #[.slice A187_0 (rd_L1 l0 x8_1).length c187_0, .pointer (some ⟨g1_0_, 0, none⟩)] rfl rfl (by (try simp only [List.map_toArray, List.map_cons, List.map_nil]); first | done | rfl | (simp only [List.length_drop, List.length_take]; rfl)) ?_; (with_reducible refine (impl_Table_pair_1.calls k1 _ _ (rd_L1 l0 x8_1) g1_0_ ?ca1_0 ?cc1_0 l1_0 false _ ?side1 ?side2 ?side3 ?side4 ?side5 A6.out).mono ?_); (case side5 => first | ((with_reducible repeat (first | refine blk_drewN ?_ _ | refine blk_drew ?_ | refine blk_alloc ?_ _)); exact hq1_0)); (case side1 => repeat (first | exact HR187_0.out | (with_reducible refine Kd.C_alloc ?_ _) | (with_reducible refine Kd.C_drewN ?_ _) | (with_reducible refine Kd.C_drew ?_))); (case side2 => exact HC187_0.out); (case side3 => repeat (first | exact HR1_0.out | (with_reducible refine Kd.C_alloc ?_ _) | (with_reducible refine Kd.C_drewN ?_ _) | (with_reducible refine Kd.C_drew ?_))); (case side4 => exact HC1_0.out); rintro e w' ⟨rfl, ⟨nd, rfl⟩⟩; refine ⟨_, rfl, ?_⟩))
     go_roundg k1
     case measure => have := HK1.out; omega
     case rel => exact ⟨(wrap64 (x8_1 + 1)), er, H', ⟨by have := HK1.out; omega⟩, drw⟩
   ·rw [if_neg c3] at H
    have c3b0 : decide (x8_1 < (l0.length : Int)) = false := decide_eq_false c3
    clear c3
    obtain rfl := Option.some.inj H
    go_wp2
    go_ret
    exact ⟨er, drw⟩

/-! ### impl_Table_pair: function 144 -/
def impl_Table_pair.f (k : Nat) (a0_0 : Int) (l0_1 : List (List Int)) (l0_2 : List Int) (a1 : Int) (a2 : Int) : Option (Int) := (slices_IndexFunc_147_at_155_22.f k l0_1 (([mn a1 a2, mx a1 a2] : List Int))).bind fun t194 => (some t194)
theorem impl_Table_pair.mono : ∀ a0 a1 a2 a3 a4 k, LeO (impl_Table_pair.f k a0 a1 a2 a3 a4) (impl_Table_pair.f (k + 1) a0 a1 a2 a3 a4) := by
 intro a0 a1 a2 a3 a4 k
 unfold impl_Table_pair.f
 repeat' (first | (with_reducible first | exact slices_IndexFunc_147_at_155_22.mono _ _ _ | exact LeO.refl _ | exact LeO.none _ | refine LeO.ite ?_ ?_ | refine LeO.bind ?_ (fun _ => ?_)) | exact slices_IndexFunc_147_at_155_22.mono _ _ _ | exact LeO.none _ | refine LeO.ite ?_ ?_ | refine LeO.bind ?_ (fun _ => ?_))
set_option maxHeartbeats 8000000 in
set_option maxRecDepth 100000 in
theorem impl_Table_pair.calls (k : Nat) (a0_0 : Int) (A0_1 : Option Addr) (c0_1 : Nat) (l0_1 : List (List Int)) (A0_2 : Option Addr) (c0_2 : Nat) (l0_2 : List Int) (a1 : Int) (a2 : Int) (r : Int) (w : World) (hr0_1 : Kd.C (Kd.slice 3 (Kd.int .i64)) w A0_1 l0_1.length l0_1) (hc0_1 : l0_1.length ≤ c0_1) (hr0_2 : Kd.C (Kd.int .i64) w A0_2 l0_2.length l0_2) (hc0_2 : l0_2.length ≤ c0_2) (h : impl_Table_pair.f k a0_0 l0_1 l0_2 a1 a2 = some r) :
  Calls Try.prog 144 #[.agg #[.int .i64 a0_0, .slice A0_1 l0_1.length c0_1, .slice A0_2 l0_2.length c0_2], .int .i64 a1, .int .i64 a2] w fun e w' => e = .returned (.int .i64 r) ∧ Below w.heap.size w w' := by
 have hu38 := Try.underlying38
 have HR0_1 := Aside0.mk hr0_1; have HC0_1 := Aside0.mk hc0_1; clear hr0_1 hc0_1; have HR0_2 := Aside0.mk hr0_2; have HC0_2 := Aside0.mk hc0_2; clear hr0_2 hc0_2
 have HB := Aside0.mk (Below.refl w.heap.size w)
 have H : ((slices_IndexFunc_147_at_155_22.f k l0_1 (([mn a1 a2, mx a1 a2] : List Int))).bind fun t194 => (some t194)) = some r := h
 clear h
 obtain ⟨ji4, hji4⟩ : ∃ j_ : Int, (mn a1 a2) = j_ := ⟨_, rfl⟩
 replace H : ((slices_IndexFunc_147_at_155_22.f k l0_1 (([ji4, mx a1 a2] : List Int))).bind fun t194 => (some t194)) = some r := by first | (rw [hji4] at H; exact H) | (simp only [hji4] at H ⊢; exact H)
 have hji4_ : (if a2 < a1 then a2 else a1) = ji4 := hji4
 obtain ⟨ji5, hji5⟩ : ∃ j_ : Int, (mx a1 a2) = j_ := ⟨_, rfl⟩
 replace H : ((slices_IndexFunc_147_at_155_22.f k l0_1 (([ji4, ji5] : List Int))).bind fun t194 => (some t194)) = some r := by first | (rw [hji5] at H; exact H) | (simp only [hji5] at H ⊢; exact H)
 have hji5_ : (if a1 < a2 then a2 else a1) = ji5 := hji5
 obtain ⟨y190, hy_⟩ : ∃ y_ : List Int, y_ = (([ji4, ji5] : List Int)) := ⟨_, rfl⟩
 replace H : ((slices_IndexFunc_147_at_155_22.f k l0_1 y190).bind fun t194 => (some t194)) = some r := yH
 have Ny190 := ak hy_; clear hy_; replace H := bS H; obtain ⟨t194, A6, H⟩ := H
 replace H : (some t194) = some r := H
 obtain rfl := Option.some.inj H
 go_enter Try.func144, Try.ntmps144
 go_wp2_with (first | ((with_reducible refine gate_dst (N := 3) rfl ?_); refine boxev 3 #[.int .i64 a0_0, .slice A0_1 l0_1.length c0_1, .slice A0_2 l0_2.length c0_2] 38 ?_; intro gb189 hg w7 hbox hb; have BK189 := ak (hbox); have GW189 := ak (hgl hg (belowd HB)); have GE189 := ak (hgl hg (belowd HB)); replace HB := ak (below_step (belowd HB) hb); clear hb hbox hg) | ((with_reducible refine gate_dst (N := 14) rfl ?_); refine Kd.R_lit (Kd.int .i64) _ 3 ?hg (N := 14) ?hd (xs := ([ji4, ji5] : List Int)) (inner := [.int .i64 ji4, .int .i64 ji5]) (ok := fun _ => True) (okp := fun _ => True) ?hr ?hp (fun _ hk => hk) trivial (Below.refl _ _) (Nat.le_refl _) (by simp) ?_; (case hd => rfl); (case hg => rfl); (case hr => first | (go_simp; done) | (go_simp; rfl)); (case hp => exact (Reps.one (show Kd.M (Kd.int .i64) _ _ _ ji4 [.int .i64 ji4] from rfl) (Reps.one (show Kd.M (Kd.int .i64) _ _ _ ji5 [.int .i64 ji5] from rfl) (Reps.none _ _)))); intro v191 w8 ho9 hb hg_ hnew_; clear hg_ hnew_; (first | rw [← Ny190.out] at ho9 | (simp only [Int.reduceToNat] at ho9; rw [← Ny190.out] at ho9)); have HO192 := ak (Kd.R_lower ho9 (below_size (belowg1 HB GE189))); replace BK189 := ak (blk_below (g := gb189) (o := .cells #[.int .i64 a0_0, .slice A0_1 l0_1.length c0_1, .slice A0_2 l0_2.length c0_2] 38 (0, 0)) (by (with_reducible repeat (first | refine blk_drewN ?_ _ | refine blk_drew ?_ | refine blk_alloc ?_ _)); exact BK189.out) hb); replace HB := ak (below_step (belowg1 HB GE189) hb); clear hb ho9) | ((with_reducible refine gate_dst (N := 7) rfl ?_); refine boxev 7 #[.slice none 0 0] 22 ?_; intro gb193 hg w10 hbox hb; replace HO192 := ak (Kd.R_below (by (with_reducible repeat (first | apply Kd.R_alloc | apply Kd.R_drewN | apply Kd.R_drew)); exact HO192.out) hb); have BK193 := ak (hbox); have GW193 := ak (hgl hg (belowg1 HB GE189)); have GE193 := ak (hgl hg (belowg1 HB GE189)); replace HB := ak (below_step (belowg1 HB GE189) hb); have NB189_193 := ak ((by rw [hg]; exact Nat.ne_of_lt (blk_lt (g := gb189) (o := .cells #[.int .i64 a0_0, .slice A0_1 l0_1.length c0_1, .slice A0_2 l0_2.length c0_2] 38 (0, 0)) (by (with_reducible repeat (first | refine blk_drewN ?_ _ | refine blk_drew ?_ | refine blk_alloc ?_ _)); exact BK189.out)) : gb189 ≠ gb193)); have NB193_189 := ak ((by rw [hg]; exact Nat.ne_of_gt (blk_lt (g := gb189) (o := .cells #[.int .i64 a0_0, .slice A0_1 l0_1.length c0_1, .slice A0_2 l0_2.length c0_2] 38 (0, 0)) (by (with_reducible repeat (first | refine blk_drewN ?_ _ | refine blk_drew ?_ | refine blk_alloc ?_ _)); exact BK189.out)) : gb193 ≠ gb189)); replace BK189 := ak (blk_below (g := gb189) (o := .cells #[.int .i64 a0_0, .slice A0_1 l0_1.length c0_1, .slice A0_2 l0_2.length c0_2] 38 (0, 0)) (by (with_reducible repeat (first | refine blk_drewN ?_ _ | refine blk_drew ?_ | refine blk_alloc ?_ _)); exact BK189.out) hb); clear hb hbox hg; obtain ⟨Ao11, co11, eo11⟩ := Kd.R_slice HO192.out; subst eo11; have hnb12 := NB193_189.out; have hnc12 := NB189_193.out; obtain ⟨hcz13_0, hfz13_0⟩ := box1 BK193; obtain ⟨hcz14_0, hcz14_1, hcz14_2, hfz14_0, hfz14_1, hfz14_2⟩ := box3 BK189) | ((with_reducible refine gate_callee (f := 147) rfl ?_); refine goesLa (some 18) rfl Try.func147 #[.slice A0_1 l0_1.length c0_1, .func (.func 155) #[] #[.pointer (some ⟨gb193, 0, none⟩)]] rfl ?_; (with_reducible refine (slices_IndexFunc_147_at_155_22.calls k _ _ l0_1 gb193 ?ca1_0 ?cc1_0 y190 t194 _ ?side1 ?side2 ?side3 ?side4 ?side5 A6.out).mono ?_); (case side5 => exact (by (with_reducible repeat (first | refine blk_drewN ?_ _ | refine blk_drew ?_ | refine blk_alloc ?_ _)); (first | refine blk_put (cs := #[.slice none 0 0]) ?_ 0 _ rfl | refine blk_put (cs := #[.slice none 0 0]) (cs' := #[.slice Ao11 y190.length co11]) ?_ 0 (.slice Ao11 y190.length co11) rfl); (with_reducible repeat (first | refine blk_drewN ?_ _ | refine blk_drew ?_ | refine blk_alloc ?_ _)); exact BK193.out)); (case side1 => exact Kd.C_below HR0_1.out (belowg2 HB GE189 GE193)); (case side2 => exact HC0_1.out); (case side3 => refine (Kd.R_reads' (e := 3) (base := w.heap.size) (ok := fun k_ => True) (n := y190.length) (c := co11) ?_).2.2; exact (by (with_reducible repeat (first | apply Kd.R_alloc | apply Kd.R_drewN | apply Kd.R_drew)); exact (Kd.R_mono (Kd.R_far (p := ⟨gb193, 0, none⟩) (Kd.R_types HO192.out BK193.out (by decide)) (fun _ hk => hk.2) (.slice Ao11 y190.length co11)) (fun _ h_ => h_.1)))); (case side4 => exact (Kd.R_reads' HO192.out).2.1); rintro e w' ⟨rfl, ⟨nd, rfl⟩⟩; refine ⟨_, rfl, ?_⟩))
 go_ret
 exact ⟨by first | rfl | (simp [errW_none, errW_some] <;> rfl) | (simp only [← hji4, ← hji5]; first | rfl | (simp [errW_none, errW_some] <;> rfl)) | (simp [*, errW_none, errW_some] <;> rfl), belowg2 HB GE189 GE193⟩

end Go.Proofs.Ytpibdgknmjjolaa.QFnGroups
