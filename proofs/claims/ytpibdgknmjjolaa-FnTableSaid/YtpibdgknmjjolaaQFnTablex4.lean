-- printed by this session's own program (wip/tools/pp.py: the kit's print.py with changes); Lean checks it
import Derived.Test.YtpibdgknmjjolaaQFnTablex0
import Derived.Test.YtpibdgknmjjolaaQFnTablex2
import Derived.Test.YtpibdgknmjjolaaQFnTablex3
namespace Go.Proofs.Ytpibdgknmjjolaa.QFnTable
open Go.RowKit Go.Proofs.YtpibdgknmjjolaaW.PrintWords Go.Proofs.YtpibdgknmjjolaaW.PrintLast Go.Proofs.YtpibdgknmjjolaaW.PrintMore
attribute [local go_sem] max2_int min2_int max_two min_two max_three min_three max_four min_four strLss strGtr strLeq strGeq   -- for this text's walks alone
set_option linter.unusedVariables false
set_option linter.unusedSimpArgs false

/-! ### slices_Repeat_int_int: function 143 -/
def slices_Repeat_int_int.f (l0 : List Int) (a1 : Int) : Option (List Int) := if 0 ≤ a1 then (if a1 ≤ 1048576 then (if (l0.length : Int) = 1 then ((bits_Mul.f 1 a1).bind fun m => (if m.1 = 0 then (if m.2 = a1 then (some (List.replicate a1.toNat (rd l0 0))) else (none)) else (none))) else (none)) else (none)) else (none)
set_option maxHeartbeats 8000000 in
set_option maxRecDepth 100000 in
theorem slices_Repeat_int_int.calls (A0 : Option Addr) (c0 : Nat) (l0 : List Int) (a1 : Int) (r : List Int) (w : World) (hr0 : Kd.C (Kd.int .i64) w A0 l0.length l0) (hc0 : l0.length ≤ c0) (h : slices_Repeat_int_int.f l0 a1 = some r) :
  Calls Try.prog 143 #[.slice A0 l0.length c0, .int .i64 a1] w fun e w' => ∃ v0_ : Value, e = .returned (v0_) ∧ Kd.R (Kd.int .i64) 3 w' w.heap.size (fun _ => True) v0_ r ∧ Below w.heap.size w w' := by
 unfold slices_Repeat_int_int.f at h
 by_cases h0 : 0 ≤ a1
 ·rw [if_pos h0] at h
  by_cases h1 : a1 ≤ 1048576
  ·rw [if_pos h1] at h
   by_cases hl : (l0.length : Int) = 1
   ·rw [if_pos hl] at h
    obtain ⟨⟨m1, m2⟩, hm, h⟩ := Option.bind_eq_some_iff.mp h
    by_cases e1 : m1 = 0
    ·by_cases e2 : m2 = a1
     ·subst e1; subst e2
      simp only [if_true, Option.some.injEq] at h
      subst h
      obtain ⟨x, rfl⟩ : ∃ x, l0 = [x] := List.length_eq_one_iff.1 (by omega)
      obtain ⟨ad, rfl, hx⟩ := Kd.at_int hr0 0 (by omega) (by simp)
      obtain ⟨N, rfl⟩ := Int.eq_ofNat_of_zero_le h0
      have HM := Aside0.mk hm; clear hm hr0 hl
      have wu : IntKind.u64.wrap (N : Int) = (N : Int) := by simp [IntKind.wrap, IntKind.bits, IntKind.signed]; omega
      have wi : IntKind.i64.wrap (N : Int) = (N : Int) := by rw [IntKind.wrap_i64]; omega
      have n0 : decide ((N : Int) < 0) = false := decide_eq_false (by omega)
      have n1 : decide ((9223372036854775807 : Int) < (N : Int)) = false := decide_eq_false (by omega)
      go_enter Try.func143, Try.ntmps143
      go_wp2_with (first | ((with_reducible refine gate_callee (f := 154) rfl ?_); refine goesL_ (some 18) rfl rfl Try.func154 (by kernel_rfl) rfl #[.int .u64 1, .int .u64 (N : Int)] rfl (by (try simp only [List.map_toArray, List.map_cons, List.map_nil]); first | done | rfl | (simp; done)) ?_; (with_reducible refine (bits_Mul.calls 1 (N : Int) 0 (N : Int) _ HM.out).mono ?_); rintro e w2 ⟨rfl, ⟨nd, rfl⟩⟩; refine ⟨_, rfl, ?_⟩) | ((with_reducible refine gate_dst (N := 30) rfl ?_); refine make_raw rfl 22 3 _ _ rfl N rfl rfl Try.underlying22 (.int .i64 0) 8 info3 rfl (by decide) (by omega) ?_; intro w3 hw3; have HG3 := Aside0.mk (show w3.heap[(w.drewN nd).heap.size]? = some (.cells (List.replicate N (Value.int .i64 0)).toArray 3 (0, 0)) by rw [hw3]; exact heap_alloc_new _ _); have HB3 := Aside0.mk (show Below w.heap.size w w3 by rw [hw3]; exact below_alloc (pw_below_drewN (Below.refl _ _) nd) _); have GE := Aside0.mk (show w.heap.size ≤ (w.drewN nd).heap.size from Nat.le_refl _); clear hw3; generalize (w.drewN nd).heap.size = g at HG3 GE ⊢) | ((with_reducible refine gate_builtin (b := .copy) (xs := #[.tmp 31, .tmp 32]) (ts := #[22, 22]) rfl ?_); go_loud (refine wpList_copy_splice rfl (.tmp 31) (.tmp 32) 22 22 rfl 3 Try.underlying22 (by kernel_rfl) (some ⟨g, 0, none⟩) (some ad) N N 1 c0 rfl rfl g 0 (List.replicate N (Value.int .i64 0)) 3 HG3.out (List.replicate (min 1 N) (Value.int .i64 x)) List.length_replicate (fun _ => ⟨rfl, ad, rfl, rep_src hx HB3.out⟩) (by simp; omega) (rep_one _ _) w.heap.size w HB3.out GE.out ?_); intro w4 hg4 hb4))
      rw [repl_start] at hg4
      (try simp only [Act.put, List.setIfInBounds_toArray, List.set_cons_zero, List.set_cons_succ])
      go_loopg [8] N (fun kq v8 w' => ∃ n : Nat, v8 = .int .i64 (n : Int) ∧ Aside0 (n ≤ N) ∧ Aside0 (0 < N → 0 < n) ∧ Aside0 (N ≤ n + kq) ∧ Aside0 (w'.heap[g]? = some (.cells (repl x N n).toArray 3 (0, 0))) ∧ Aside0 (Below w.heap.size w w'))
      case atStart => exact ⟨min 1 N, by simp [goInt], ⟨by omega⟩, ⟨by omega⟩, ⟨by omega⟩, ⟨hg4.out⟩, ⟨hb4⟩⟩
      case round =>
       obtain ⟨n, rfl, Hn, Hp, HK, HG, HB⟩ := hrel
       by_cases hn : n < N
       ·obtain ⟨k1, rfl⟩ : ∃ k1, gk = k1 + 1 := ⟨gk - 1, by have := HK.out; omega⟩
        have c0 : decide ((n : Int) < (N : Int)) = true := decide_eq_true (by omega)
        have q0 : (0 : Int) ≤ (n : Int) := by omega
        have q1 : (n : Int) ≤ (N : Int) := by omega
        have q2 : (n : Int) < (N : Int) := by omega
        go_wp2_with fail
        go_region_law (refine step_copy_splice rfl (.tmp 41) (.tmp 44) 22 22 rfl 3 Try.underlying22 (by kernel_rfl) (some ⟨g, n, none⟩) (some ⟨g, 0, none⟩) (N - n) (N - n) n N (by simp [Act.eval, Act.put]; omega) (by simp [Act.eval, Act.put]) g n (repl x N n) 3 HG.out (List.replicate (min n (N - n)) (Value.int .i64 x)) List.length_replicate (fun _ => ⟨rfl, _, rfl, repl_src HG.out _ (Nat.min_le_left _ _)⟩) (by rw [repl_len _ _ _ Hn.out, List.length_replicate]; omega) (rep_one _ _) w.heap.size w (below_drew1 HB.out) GE.out ?_; intro w5 hg5 hb5)
        rw [repl_splice x N n _ (by omega)] at hg5
        go_wp2
        go_roundg k1
        case measure => omega
        case rel => exact ⟨n + min n (N - n), by (try simp only [goInt, List.length_replicate, IntKind.wrap_i64]); exact congrArg (Value.int .i64) (by first | omega | (unfold wrap64; omega)), ⟨by omega⟩, ⟨fun _ => by have := Hp.out (by omega); omega⟩, ⟨by have := HK.out; have := Hp.out (by omega); omega⟩, ⟨hg5.out⟩, ⟨hb5⟩⟩
       ·have c0 : decide ((n : Int) < (N : Int)) = false := decide_eq_false (by omega)
        go_wp2
        go_ret
        have e : n = N := by have := Hn.out; omega
        subst e; have hg := HG.out
        rw [repl_full] at hg
        exact ⟨_, rfl, R_ofcells hg GE.out (by unfold maxLen; omega), HB.out⟩
     ·simp [e2] at h
    ·simp [e1] at h
   ·rw [if_neg hl] at h; exact absurd h (by simp)
  ·rw [if_neg h1] at h; exact absurd h (by simp)
 ·rw [if_neg h0] at h; exact absurd h (by simp)

/-! ### impl_Table_pair_1: function 155 -/
def impl_Table_pair_1.f (k : Nat) (l0 : List Int) (l1_0 : List Int) : Option (Bool) := (slices_Equal_int_int.f k l0 l1_0).bind fun t190 => (some t190)
theorem impl_Table_pair_1.mono : ∀ a0 a1 k, LeO (impl_Table_pair_1.f k a0 a1) (impl_Table_pair_1.f (k + 1) a0 a1) := by
 intro a0 a1 k
 unfold impl_Table_pair_1.f
 repeat' (first | (with_reducible first | exact slices_Equal_int_int.mono _ _ _ | exact LeO.refl _ | exact LeO.none _ | refine LeO.ite ?_ ?_ | refine LeO.bind ?_ (fun _ => ?_)) | exact slices_Equal_int_int.mono _ _ _ | exact LeO.none _ | refine LeO.ite ?_ ?_ | refine LeO.bind ?_ (fun _ => ?_))
set_option maxHeartbeats 8000000 in
set_option maxRecDepth 100000 in
theorem impl_Table_pair_1.calls (k : Nat) (A0 : Option Addr) (c0 : Nat) (l0 : List Int) (g1_ : Nat) (A1_0 : Option Addr) (c1_0 : Nat) (l1_0 : List Int) (r : Bool) (w : World) (hr0 : Kd.C (Kd.int .i64) w A0 l0.length l0) (hc0 : l0.length ≤ c0) (hr1_0 : Kd.C (Kd.int .i64) w A1_0 l1_0.length l1_0) (hc1_0 : l1_0.length ≤ c1_0) (hq1_0 : w.heap[g1_]? = some (.cells #[.slice A1_0 l1_0.length c1_0] 22 (0, 0))) (h : impl_Table_pair_1.f k l0 l1_0 = some r) :
  Calls Try.prog 155 #[.slice A0 l0.length c0, .pointer (some ⟨g1_, 0, none⟩)] w fun e w' => e = .returned (.bool r) ∧ Drawn0 w w' := by
 have HR0 := Aside0.mk hr0; have HC0 := Aside0.mk hc0; clear hr0 hc0; have HR1_0 := Aside0.mk hr1_0; have HC1_0 := Aside0.mk hc1_0; clear hr1_0 hc1_0
 have hcq1_0_0 : w.cell? ⟨g1_, 0, none⟩ = some (.slice A1_0 l1_0.length c1_0) := (blk_cell hq1_0 0).trans rfl
 have H : ((slices_Equal_int_int.f k l0 l1_0).bind fun t190 => (some t190)) = some r := h
 clear h; replace H := bS H; obtain ⟨t190, A3, H⟩ := H
 replace H : (some t190) = some r := H
 obtain rfl := Option.some.inj H
 go_enter Try.func155, Try.ntmps155
 go_wp2_with (first | ((with_reducible refine gate_callee (f := 127) rfl ?_); refine goesLa (some 6) rfl Try.func127 #[.slice A0 l0.length c0, .slice A1_0 l1_0.length c1_0] rfl ?_; (with_reducible refine (slices_Equal_int_int.calls k _ _ l0 _ _ l1_0 t190 _ ?side1 ?side2 ?side3 ?side4 A3.out).mono ?_); (case side1 => exact cd HR0.out); (case side2 => exact HC0.out); (case side3 => exact cd HR1_0.out); (case side4 => exact HC1_0.out); rintro e w' ⟨rfl, ⟨nd, rfl⟩⟩; refine ⟨_, rfl, ?_⟩))
 go_ret
 exact ⟨er, drw⟩

/-! ### slices_IndexFunc_147_at_155_22: function 147 -/
def slices_IndexFunc_147_at_155_22.l0 : Nat → List (List Int) → Int → Int → List Int → Option (Int)
  | 0, _, _, _, _ => none
  | k + 1, x0, x7, x8, x511000 => if x8 < x7 then (if 0 ≤ x8 then (if x8 < (x0.length : Int) then ((impl_Table_pair_1.f k (rd_L1 x0 x8) x511000).bind fun t192 => (if t192 = true then (some x8) else (slices_IndexFunc_147_at_155_22.l0 k x0 x7 (wrap64 (x8 + 1)) x511000))) else (none)) else (none)) else (some (-1))
def slices_IndexFunc_147_at_155_22.f (k : Nat) (l0 : List (List Int)) (l1_0 : List Int) : Option (Int) := slices_IndexFunc_147_at_155_22.l0 k l0 (l0.length : Int) 0 l1_0
theorem slices_IndexFunc_147_at_155_22.mono_l : ∀ k, (∀ y0 y1 y2 y3, LeO (slices_IndexFunc_147_at_155_22.l0 k y0 y1 y2 y3) (slices_IndexFunc_147_at_155_22.l0 (k + 1) y0 y1 y2 y3))
 | 0 => fun _ _ _ _ r h => by simp [slices_IndexFunc_147_at_155_22.l0] at h
 | k + 1 => by
  have ih0 := slices_IndexFunc_147_at_155_22.mono_l k
  ·intro y0 y1 y2 y3
   unfold slices_IndexFunc_147_at_155_22.l0
   repeat' (first | (with_reducible first | exact ih0 _ _ _ _ | exact impl_Table_pair_1.mono _ _ _ | exact LeO.refl _ | exact LeO.none _ | refine LeO.ite ?_ ?_ | refine LeO.bind ?_ (fun _ => ?_)) | exact ih0 _ _ _ _ | exact impl_Table_pair_1.mono _ _ _ | exact LeO.none _ | refine LeO.ite ?_ ?_ | refine LeO.bind ?_ (fun _ => ?_))
theorem slices_IndexFunc_147_at_155_22.mono : ∀ a0 a1 k, LeO (slices_IndexFunc_147_at_155_22.f k a0 a1) (slices_IndexFunc_147_at_155_22.f (k + 1) a0 a1) := by
 intro a0 a1 k
 have ih0 := slices_IndexFunc_147_at_155_22.mono_l k
 unfold slices_IndexFunc_147_at_155_22.f
 repeat' (first | (with_reducible first | exact ih0 _ _ _ _ | exact impl_Table_pair_1.mono _ _ _ | exact LeO.refl _ | exact LeO.none _ | refine LeO.ite ?_ ?_ | refine LeO.bind ?_ (fun _ => ?_)) | exact ih0 _ _ _ _ | exact impl_Table_pair_1.mono _ _ _ | exact LeO.none _ | refine LeO.ite ?_ ?_ | refine LeO.bind ?_ (fun _ => ?_))
set_option maxHeartbeats 8000000 in
set_option maxRecDepth 100000 in
theorem slices_IndexFunc_147_at_155_22.calls (k : Nat) (A0 : Option Addr) (c0 : Nat) (l0 : List (List Int)) (g1_0_ : Nat) (A1_0 : Option Addr) (c1_0 : Nat) (l1_0 : List Int) (r : Int) (w : World) (hr0 : Kd.C (Kd.slice 3 (Kd.int .i64)) w A0 l0.length l0) (hc0 : l0.length ≤ c0) (hr1_0 : Kd.C (Kd.int .i64) w A1_0 l1_0.length l1_0) (hc1_0 : l1_0.length ≤ c1_0) (hq1_0 : w.heap[g1_0_]? = some (.cells #[.slice A1_0 l1_0.length c1_0] 22 (0, 0))) (h : slices_IndexFunc_147_at_155_22.f k l0 l1_0 = some r) :
  Calls Try.prog 147 #[.slice A0 l0.length c0, .func (.func 155) #[] #[.pointer (some ⟨g1_0_, 0, none⟩)]] w fun e w' => e = .returned (.int .i64 r) ∧ Drawn0 w w' := by
 have HR0 := Aside0.mk hr0; have HC0 := Aside0.mk hc0; clear hr0 hc0; have HR1_0 := Aside0.mk hr1_0; have HC1_0 := Aside0.mk hc1_0; clear hr1_0 hc1_0
 have hcq1_0_0 : w.cell? ⟨g1_0_, 0, none⟩ = some (.slice A1_0 l1_0.length c1_0) := (blk_cell hq1_0 0).trans rfl
 have H : (slices_IndexFunc_147_at_155_22.l0 k l0 (l0.length : Int) 0 l1_0) = some r := h
 clear h
 have H' := Aside0.mk H
 clear H
 go_enter Try.func147, Try.ntmps147
 go_wp2
 go_loopg [8] k (fun kq v8 w' => ∃ (x8_1 : Int), v8 = .int .i64 x8_1 ∧ Aside0 (slices_IndexFunc_147_at_155_22.l0 kq l0 (l0.length : Int) x8_1 l1_0 = some r) ∧ Aside0 (kq ≤ k) ∧ Drawn0 w w')
 case atStart => exact ⟨(0), er, H', ⟨Nat.le_refl _⟩, drw⟩
 case round =>
  clear H'
  obtain ⟨x8_1, rfl, HA, HK1, ⟨m1, rfl⟩⟩ := hrel
  cases gk with
  | zero => exact absurd HA.out (by simp [slices_IndexFunc_147_at_155_22.l0])
  | succ k1 =>
   have H := HA.out; clear HA
   simp only [slices_IndexFunc_147_at_155_22.l0] at H
   by_cases c3 : x8_1 < (l0.length : Int)
   ·rw [if_pos c3] at H
    have c3b0 : decide (x8_1 < (l0.length : Int)) = true := decide_eq_true c3
    clear c3; replace H := ifS H; obtain ⟨c4, H⟩ := H; have c4b0 := decide_eq_true c4; clear c4; replace H := ifS H; obtain ⟨c5, H⟩ := H; have c5b0 := decide_eq_true c5; clear c5; replace H := bS H; obtain ⟨t192, A6, H⟩ := H
    replace H : (if t192 = true then (some x8_1) else (slices_IndexFunc_147_at_155_22.l0 k1 l0 (l0.length : Int) (wrap64 (x8_1 + 1)) l1_0)) = some r := H
    by_cases c7 : t192 = true
    ·subst c7
     have H1 : (some x8_1) = some r := by rw [if_pos rfl] at H; exact H
     clear H
     have H := H1
     clear H1
     obtain rfl := Option.some.inj H
     have p191 : 0 ≤ (x8_1 : Int) := da
     have q191 : x8_1 < (l0.length : Int) := da
     obtain ⟨ad191, A191_0, c191_0, e191, hx191_0, hl191_0, hi191_0⟩ := at_L1 HR0.out x8_1 p191 q191
     cases e191
     have HR191_0 := Aside0.mk hi191_0; have HC191_0 := Aside0.mk hl191_0; clear hi191_0 hl191_0; replace p191 := eq_true p191; replace q191 := eq_true q191
     go_wp2_with (first | ((with_reducible refine gate_value (f := 155) rfl rfl ?_); refine goesV_ (some 16) rfl rfl Try.func155 (by kernel_rfl) rfl #[.slice A191_0 (rd_L1 l0 x8_1).length c191_0, .pointer (some ⟨g1_0_, 0, none⟩)] rfl rfl (by (try simp only [List.map_toArray, List.map_cons, List.map_nil]); first | done | rfl | (simp only [List.length_drop, List.length_take]; rfl)) ?_; (with_reducible refine (impl_Table_pair_1.calls k1 _ _ (rd_L1 l0 x8_1) g1_0_ ?ca1_0 ?cc1_0 l1_0 true _ ?side1 ?side2 ?side3 ?side4 ?side5 A6.out).mono ?_); (case side5 => first | ((with_reducible repeat (first | refine blk_drewN ?_ _ | refine blk_drew ?_ | refine blk_alloc ?_ _)); exact hq1_0)); (case side1 => repeat (first | exact HR191_0.out | (with_reducible refine Kd.C_alloc ?_ _) | (with_reducible refine Kd.C_drewN ?_ _) | (with_reducible refine Kd.C_drew ?_))); (case side2 => exact HC191_0.out); (case side3 => repeat (first | exact HR1_0.out | (with_reducible refine Kd.C_alloc ?_ _) | (with_reducible refine Kd.C_drewN ?_ _) | (with_reducible refine Kd.C_drew ?_))); (case side4 => exact HC1_0.out); rintro e w' ⟨rfl, ⟨nd, rfl⟩⟩; refine ⟨_, rfl, ?_⟩))
     go_ret
     exact ⟨er, drw⟩
    ·replace c7 := Bool.eq_false_iff.mpr c7
     subst c7
     have H1 : (slices_IndexFunc_147_at_155_22.l0 k1 l0 (l0.length : Int) (wrap64 (x8_1 + 1)) l1_0) = some r := by rw [if_neg (show ¬ (false = true) by decide)] at H; exact H
     clear H
     have H := H1
     clear H1
     have H' := Aside0.mk H
     clear H
     have p191 : 0 ≤ (x8_1 : Int) := da
     have q191 : x8_1 < (l0.length : Int) := da
     obtain ⟨ad191, A191_0, c191_0, e191, hx191_0, hl191_0, hi191_0⟩ := at_L1 HR0.out x8_1 p191 q191
     cases e191
     have HR191_0 := Aside0.mk hi191_0; have HC191_0 := Aside0.mk hl191_0; clear hi191_0 hl191_0; replace p191 := eq_true p191; replace q191 := eq_true q191
     go_wp2_with (first | ((with_reducible refine gate_value (f := 155) rfl rfl ?_); refine goesV_ (some 16) rfl rfl Try.func155 (by kernel_rfl) rfl #[.slice A191_0 (rd_L1 l0 x8_1).length c191_0, .pointer (some ⟨g1_0_, 0, none⟩)] rfl rfl (by (try simp only [List.map_toArray, List.map_cons, List.map_nil]); first | done | rfl | (simp only [List.length_drop, List.length_take]; rfl)) ?_; (with_reducible refine (impl_Table_pair_1.calls k1 _ _ (rd_L1 l0 x8_1) g1_0_ ?ca1_0 ?cc1_0 l1_0 false _ ?side1 ?side2 ?side3 ?side4 ?side5 A6.out).mono ?_); (case side5 => first | ((with_reducible repeat (first | refine blk_drewN ?_ _ | refine blk_drew ?_ | refine blk_alloc ?_ _)); exact hq1_0)); (case side1 => repeat (first | exact HR191_0.out | (with_reducible refine Kd.C_alloc ?_ _) | (with_reducible refine Kd.C_drewN ?_ _) | (with_reducible refine Kd.C_drew ?_))); (case side2 => exact HC191_0.out); (case side3 => repeat (first | exact HR1_0.out | (with_reducible refine Kd.C_alloc ?_ _) | (with_reducible refine Kd.C_drewN ?_ _) | (with_reducible refine Kd.C_drew ?_))); (case side4 => exact HC1_0.out); rintro e w' ⟨rfl, ⟨nd, rfl⟩⟩; refine ⟨_, rfl, ?_⟩))
     go_roundg k1
     case measure => have := HK1.out; omega
     case rel => exact ⟨(wrap64 (x8_1 + 1)), er, H', ⟨by have := HK1.out; omega⟩, drw⟩
   ·rw [if_neg c3] at H
    have c3b0 : decide (x8_1 < (l0.length : Int)) = false := decide_eq_false c3
    clear c3
    obtain rfl := Option.some.inj H
    go_wp2
    go_ret
    exact ⟨er, drw⟩

/-! ### impl_Table_pair: function 144 -/
def impl_Table_pair.f (k : Nat) (a0_0 : Int) (l0_1 : List (List Int)) (l0_2 : List Int) (a1 : Int) (a2 : Int) : Option (Int) := (slices_IndexFunc_147_at_155_22.f k l0_1 (([mn a1 a2, mx a1 a2] : List Int))).bind fun t198 => (some t198)
theorem impl_Table_pair.mono : ∀ a0 a1 a2 a3 a4 k, LeO (impl_Table_pair.f k a0 a1 a2 a3 a4) (impl_Table_pair.f (k + 1) a0 a1 a2 a3 a4) := by
 intro a0 a1 a2 a3 a4 k
 unfold impl_Table_pair.f
 repeat' (first | (with_reducible first | exact slices_IndexFunc_147_at_155_22.mono _ _ _ | exact LeO.refl _ | exact LeO.none _ | refine LeO.ite ?_ ?_ | refine LeO.bind ?_ (fun _ => ?_)) | exact slices_IndexFunc_147_at_155_22.mono _ _ _ | exact LeO.none _ | refine LeO.ite ?_ ?_ | refine LeO.bind ?_ (fun _ => ?_))
set_option maxHeartbeats 8000000 in
set_option maxRecDepth 100000 in
theorem impl_Table_pair.calls (k : Nat) (a0_0 : Int) (A0_1 : Option Addr) (c0_1 : Nat) (l0_1 : List (List Int)) (A0_2 : Option Addr) (c0_2 : Nat) (l0_2 : List Int) (a1 : Int) (a2 : Int) (r : Int) (w : World) (hr0_1 : Kd.C (Kd.slice 3 (Kd.int .i64)) w A0_1 l0_1.length l0_1) (hc0_1 : l0_1.length ≤ c0_1) (hr0_2 : Kd.C (Kd.int .i64) w A0_2 l0_2.length l0_2) (hc0_2 : l0_2.length ≤ c0_2) (h : impl_Table_pair.f k a0_0 l0_1 l0_2 a1 a2 = some r) :
  Calls Try.prog 144 #[.agg #[.int .i64 a0_0, .slice A0_1 l0_1.length c0_1, .slice A0_2 l0_2.length c0_2], .int .i64 a1, .int .i64 a2] w fun e w' => e = .returned (.int .i64 r) ∧ Below w.heap.size w w' := by
 have hu38 := Try.underlying38
 have HR0_1 := Aside0.mk hr0_1; have HC0_1 := Aside0.mk hc0_1; clear hr0_1 hc0_1; have HR0_2 := Aside0.mk hr0_2; have HC0_2 := Aside0.mk hc0_2; clear hr0_2 hc0_2
 have HB := Aside0.mk (Below.refl w.heap.size w)
 have H : ((slices_IndexFunc_147_at_155_22.f k l0_1 (([mn a1 a2, mx a1 a2] : List Int))).bind fun t198 => (some t198)) = some r := h
 clear h
 obtain ⟨ji4, hji4⟩ : ∃ j_ : Int, (mn a1 a2) = j_ := ⟨_, rfl⟩
 replace H : ((slices_IndexFunc_147_at_155_22.f k l0_1 (([ji4, mx a1 a2] : List Int))).bind fun t198 => (some t198)) = some r := by first | (rw [hji4] at H; exact H) | (simp only [hji4] at H ⊢; exact H)
 have hji4_ : (if a2 < a1 then a2 else a1) = ji4 := hji4
 obtain ⟨ji5, hji5⟩ : ∃ j_ : Int, (mx a1 a2) = j_ := ⟨_, rfl⟩
 replace H : ((slices_IndexFunc_147_at_155_22.f k l0_1 (([ji4, ji5] : List Int))).bind fun t198 => (some t198)) = some r := by first | (rw [hji5] at H; exact H) | (simp only [hji5] at H ⊢; exact H)
 have hji5_ : (if a1 < a2 then a2 else a1) = ji5 := hji5
 obtain ⟨y194, hy_⟩ : ∃ y_ : List Int, y_ = (([ji4, ji5] : List Int)) := ⟨_, rfl⟩
 replace H : ((slices_IndexFunc_147_at_155_22.f k l0_1 y194).bind fun t198 => (some t198)) = some r := yH
 have Ny194 := ak hy_; clear hy_; replace H := bS H; obtain ⟨t198, A6, H⟩ := H
 replace H : (some t198) = some r := H
 obtain rfl := Option.some.inj H
 go_enter Try.func144, Try.ntmps144
 go_wp2_with (first | ((with_reducible refine gate_dst (N := 3) rfl ?_); refine boxev 3 #[.int .i64 a0_0, .slice A0_1 l0_1.length c0_1, .slice A0_2 l0_2.length c0_2] 38 ?_; intro gb193 hg w7 hbox hb; have BK193 := ak (hbox); have GW193 := ak (hgl hg (belowd HB)); have GE193 := ak (hgl hg (belowd HB)); replace HB := ak (below_step (belowd HB) hb); clear hb hbox hg) | ((with_reducible refine gate_dst (N := 14) rfl ?_); refine Kd.R_lit (Kd.int .i64) _ 3 ?hg (N := 14) ?hd (xs := ([ji4, ji5] : List Int)) (inner := [.int .i64 ji4, .int .i64 ji5]) (ok := fun _ => True) (okp := fun _ => True) ?hr ?hp (fun _ hk => hk) trivial (Below.refl _ _) (Nat.le_refl _) (by simp) ?_; (case hd => rfl); (case hg => rfl); (case hr => first | (go_simp; done) | (go_simp; rfl)); (case hp => exact (Reps.one (show Kd.M (Kd.int .i64) _ _ _ ji4 [.int .i64 ji4] from rfl) (Reps.one (show Kd.M (Kd.int .i64) _ _ _ ji5 [.int .i64 ji5] from rfl) (Reps.none _ _)))); intro v195 w8 ho9 hb hg_ hnew_; clear hg_ hnew_; (first | rw [← Ny194.out] at ho9 | (simp only [Int.reduceToNat] at ho9; rw [← Ny194.out] at ho9)); have HO196 := ak (Kd.R_lower ho9 (below_size (belowg1 HB GE193))); replace BK193 := ak (blk_below (g := gb193) (o := .cells #[.int .i64 a0_0, .slice A0_1 l0_1.length c0_1, .slice A0_2 l0_2.length c0_2] 38 (0, 0)) (by (with_reducible repeat (first | refine blk_drewN ?_ _ | refine blk_drew ?_ | refine blk_alloc ?_ _)); exact BK193.out) hb); replace HB := ak (below_step (belowg1 HB GE193) hb); clear hb ho9) | ((with_reducible refine gate_dst (N := 7) rfl ?_); refine boxev 7 #[.slice none 0 0] 22 ?_; intro gb197 hg w10 hbox hb; replace HO196 := ak (Kd.R_below (by (with_reducible repeat (first | apply Kd.R_alloc | apply Kd.R_drewN | apply Kd.R_drew)); exact HO196.out) hb); have BK197 := ak (hbox); have GW197 := ak (hgl hg (belowg1 HB GE193)); have GE197 := ak (hgl hg (belowg1 HB GE193)); replace HB := ak (below_step (belowg1 HB GE193) hb); have NB193_197 := ak ((by rw [hg]; exact Nat.ne_of_lt (blk_lt (g := gb193) (o := .cells #[.int .i64 a0_0, .slice A0_1 l0_1.length c0_1, .slice A0_2 l0_2.length c0_2] 38 (0, 0)) (by (with_reducible repeat (first | refine blk_drewN ?_ _ | refine blk_drew ?_ | refine blk_alloc ?_ _)); exact BK193.out)) : gb193 ≠ gb197)); have NB197_193 := ak ((by rw [hg]; exact Nat.ne_of_gt (blk_lt (g := gb193) (o := .cells #[.int .i64 a0_0, .slice A0_1 l0_1.length c0_1, .slice A0_2 l0_2.length c0_2] 38 (0, 0)) (by (with_reducible repeat (first | refine blk_drewN ?_ _ | refine blk_drew ?_ | refine blk_alloc ?_ _)); exact BK193.out)) : gb197 ≠ gb193)); replace BK193 := ak (blk_below (g := gb193) (o := .cells #[.int .i64 a0_0, .slice A0_1 l0_1.length c0_1, .slice A0_2 l0_2.length c0_2] 38 (0, 0)) (by (with_reducible repeat (first | refine blk_drewN ?_ _ | refine blk_drew ?_ | refine blk_alloc ?_ _)); exact BK193.out) hb); clear hb hbox hg; obtain ⟨Ao11, co11, eo11⟩ := Kd.R_slice HO196.out; subst eo11; have hnb12 := NB197_193.out; have hnc12 := NB193_197.out; obtain ⟨hcz13_0, hfz13_0⟩ := box1 BK197; obtain ⟨hcz14_0, hcz14_1, hcz14_2, hfz14_0, hfz14_1, hfz14_2⟩ := box3 BK193) | ((with_reducible refine gate_callee (f := 147) rfl ?_); refine goesLa (some 18) rfl Try.func147 #[.slice A0_1 l0_1.length c0_1, .func (.func 155) #[] #[.pointer (some ⟨gb197, 0, none⟩)]] rfl ?_; (with_reducible refine (slices_IndexFunc_147_at_155_22.calls k _ _ l0_1 gb197 ?ca1_0 ?cc1_0 y194 t198 _ ?side1 ?side2 ?side3 ?side4 ?side5 A6.out).mono ?_); (case side5 => exact (by (with_reducible repeat (first | refine blk_drewN ?_ _ | refine blk_drew ?_ | refine blk_alloc ?_ _)); (first | refine blk_put (cs := #[.slice none 0 0]) ?_ 0 _ rfl | refine blk_put (cs := #[.slice none 0 0]) (cs' := #[.slice Ao11 y194.length co11]) ?_ 0 (.slice Ao11 y194.length co11) rfl); (with_reducible repeat (first | refine blk_drewN ?_ _ | refine blk_drew ?_ | refine blk_alloc ?_ _)); exact BK197.out)); (case side1 => exact Kd.C_below HR0_1.out (belowg2 HB GE193 GE197)); (case side2 => exact HC0_1.out); (case side3 => refine (Kd.R_reads' (e := 3) (base := w.heap.size) (ok := fun k_ => True) (n := y194.length) (c := co11) ?_).2.2; exact (by (with_reducible repeat (first | apply Kd.R_alloc | apply Kd.R_drewN | apply Kd.R_drew)); exact (Kd.R_mono (Kd.R_far (p := ⟨gb197, 0, none⟩) (Kd.R_types HO196.out BK197.out (by decide)) (fun _ hk => hk.2) (.slice Ao11 y194.length co11)) (fun _ h_ => h_.1)))); (case side4 => exact (Kd.R_reads' HO196.out).2.1); rintro e w' ⟨rfl, ⟨nd, rfl⟩⟩; refine ⟨_, rfl, ?_⟩))
 go_ret
 exact ⟨by first | rfl | (simp [errW_none, errW_some] <;> rfl) | (simp only [← hji4, ← hji5]; first | rfl | (simp [errW_none, errW_some] <;> rfl)) | (simp [*, errW_none, errW_some] <;> rfl), belowg2 HB GE193 GE197⟩

/-! ### impl_Table_far: function 107 -/
mutual
def impl_Table_far.l0 : Nat → List Int → List Int → Int → Int → List (List Int) → List Int → Option (List Int)
  | 0, _, _, _, _, _, _ => none
  | k + 1, x5, x6, x7, x200000, x200001, x200002 => if x7 < (x6.length : Int) then (impl_Table_far.l1 k x5 x6 x7 (x5.length : Int) 0 x200000 x200001 x200002) else (some x5)
def impl_Table_far.l1 : Nat → List Int → List Int → Int → Int → Int → Int → List (List Int) → List Int → Option (List Int)
  | 0, _, _, _, _, _, _, _, _ => none
  | k + 1, x5, x6, x7, x25, x26, x200000, x200001, x200002 => if x26 < x25 then (if 0 ≤ x26 then (if x26 < (x5.length : Int) then (if (rd x5 x26) < 0 then (if 0 ≤ x7 then (if x7 < (x6.length : Int) then ((impl_Table_pair.f k x200000 x200001 x200002 x26 (rd x6 x7)).bind fun t212 => (if t212 ≥ 0 then (if 0 ≤ (rd x6 x7) then (if (rd x6 x7) < (x5.length : Int) then (if x6.length < 17592186044416 then (impl_Table_far.l1 k (x5.set (x26 : Int).toNat (wrap64 ((rd x5 (rd x6 x7)) + 1))) (x6 ++ [x26]) x7 x25 (wrap64 (x26 + 1)) x200000 x200001 x200002) else (none)) else (none)) else (none)) else (impl_Table_far.l1 k x5 x6 x7 x25 (wrap64 (x26 + 1)) x200000 x200001 x200002))) else (none)) else (none)) else (impl_Table_far.l1 k x5 x6 x7 x25 (wrap64 (x26 + 1)) x200000 x200001 x200002)) else (none)) else (none)) else (impl_Table_far.l0 k x5 x6 (wrap64 (x7 + 1)) x200000 x200001 x200002)
end
def impl_Table_far.f (k : Nat) (a0_0 : Int) (l0_1 : List (List Int)) (l0_2 : List Int) (a1 : Int) : Option (List Int) := (slices_Repeat_int_int.f (([(-1)] : List Int)) a0_0).bind fun t203 => (if 0 ≤ a1 then (if a1 < (t203.length : Int) then (impl_Table_far.l0 k (t203.set (a1 : Int).toNat 0) (([a1] : List Int)) 0 a0_0 l0_1 l0_2) else (none)) else (none))
theorem impl_Table_far.mono_l : ∀ k, (∀ y0 y1 y2 y3 y4 y5, LeO (impl_Table_far.l0 k y0 y1 y2 y3 y4 y5) (impl_Table_far.l0 (k + 1) y0 y1 y2 y3 y4 y5)) ∧ (∀ y0 y1 y2 y3 y4 y5 y6 y7, LeO (impl_Table_far.l1 k y0 y1 y2 y3 y4 y5 y6 y7) (impl_Table_far.l1 (k + 1) y0 y1 y2 y3 y4 y5 y6 y7))
 | 0 => ⟨fun _ _ _ _ _ _ r h => by simp [impl_Table_far.l0] at h, fun _ _ _ _ _ _ _ _ r h => by simp [impl_Table_far.l1] at h⟩
 | k + 1 => by
  obtain ⟨ih0, ih1⟩ := impl_Table_far.mono_l k
  refine ⟨?_, ?_⟩
  ·intro y0 y1 y2 y3 y4 y5
   unfold impl_Table_far.l0
   repeat' (first | (with_reducible first | exact ih0 _ _ _ _ _ _ | exact ih1 _ _ _ _ _ _ _ _ | exact impl_Table_pair.mono _ _ _ _ _ _ | exact LeO.refl _ | exact LeO.none _ | refine LeO.ite ?_ ?_ | refine LeO.bind ?_ (fun _ => ?_)) | exact ih0 _ _ _ _ _ _ | exact ih1 _ _ _ _ _ _ _ _ | exact impl_Table_pair.mono _ _ _ _ _ _ | exact LeO.none _ | refine LeO.ite ?_ ?_ | refine LeO.bind ?_ (fun _ => ?_))
  ·intro y0 y1 y2 y3 y4 y5 y6 y7
   unfold impl_Table_far.l1
   repeat' (first | (with_reducible first | exact ih0 _ _ _ _ _ _ | exact ih1 _ _ _ _ _ _ _ _ | exact impl_Table_pair.mono _ _ _ _ _ _ | exact LeO.refl _ | exact LeO.none _ | refine LeO.ite ?_ ?_ | refine LeO.bind ?_ (fun _ => ?_)) | exact ih0 _ _ _ _ _ _ | exact ih1 _ _ _ _ _ _ _ _ | exact impl_Table_pair.mono _ _ _ _ _ _ | exact LeO.none _ | refine LeO.ite ?_ ?_ | refine LeO.bind ?_ (fun _ => ?_))
theorem impl_Table_far.mono : ∀ a0 a1 a2 a3 k, LeO (impl_Table_far.f k a0 a1 a2 a3) (impl_Table_far.f (k + 1) a0 a1 a2 a3) := by
 intro a0 a1 a2 a3 k
 obtain ⟨ih0, ih1⟩ := impl_Table_far.mono_l k
 unfold impl_Table_far.f
 repeat' (first | (with_reducible first | exact ih0 _ _ _ _ _ _ | exact ih1 _ _ _ _ _ _ _ _ | exact impl_Table_pair.mono _ _ _ _ _ _ | exact LeO.refl _ | exact LeO.none _ | refine LeO.ite ?_ ?_ | refine LeO.bind ?_ (fun _ => ?_)) | exact ih0 _ _ _ _ _ _ | exact ih1 _ _ _ _ _ _ _ _ | exact impl_Table_pair.mono _ _ _ _ _ _ | exact LeO.none _ | refine LeO.ite ?_ ?_ | refine LeO.bind ?_ (fun _ => ?_))
def impl_Table_far.T10 : Bool × List (List Nat × List Nat) := (true, [([], []), ([], []), ([0, 1], [0, 1]), ([2], [2]), ([3], [3]), ([4], [4]), ([5], [5]), ([5], [5]), ([5], [5]), ([5], [5]), ([8, 9, 5], [5, 8, 9]), ([10, 5], [5, 10]), ([6, 7, 11, 5, 5], [5, 6, 7, 11]), ([12, 5], [5, 12]), ([5, 13], [5, 13])])
def impl_Table_far.B10 : List Nat := [0, 0, 3, 7, 15, 31, 63, 63, 63, 63, 831, 1855, 4095, 8191, 16383]
theorem impl_Table_far.tab10 : rtab .any (opsOf Try.f107 10) = impl_Table_far.T10 := by kernel_rfl
theorem impl_Table_far.bits10 : waitsOk impl_Table_far.T10.2 impl_Table_far.B10 = true := by kernel_rfl
set_option maxHeartbeats 8000000 in
set_option maxRecDepth 100000 in
theorem impl_Table_far.calls (k : Nat) (a0_0 : Int) (A0_1 : Option Addr) (c0_1 : Nat) (l0_1 : List (List Int)) (A0_2 : Option Addr) (c0_2 : Nat) (l0_2 : List Int) (a1 : Int) (r : List Int) (w : World) (hr0_1 : Kd.C (Kd.slice 3 (Kd.int .i64)) w A0_1 l0_1.length l0_1) (hc0_1 : l0_1.length ≤ c0_1) (hr0_2 : Kd.C (Kd.int .i64) w A0_2 l0_2.length l0_2) (hc0_2 : l0_2.length ≤ c0_2) (h : impl_Table_far.f k a0_0 l0_1 l0_2 a1 = some r) :
  Calls Try.prog 107 #[.agg #[.int .i64 a0_0, .slice A0_1 l0_1.length c0_1, .slice A0_2 l0_2.length c0_2], .int .i64 a1] w fun e w' => ∃ v0_ : Value, e = .returned (v0_) ∧ Kd.R (Kd.int .i64) 3 w' w.heap.size (fun _ => True) v0_ r ∧ Below w.heap.size w w' := by
 have hu38 := Try.underlying38
 have HR0_1 := Aside0.mk hr0_1; have HC0_1 := Aside0.mk hc0_1; clear hr0_1 hc0_1; have HR0_2 := Aside0.mk hr0_2; have HC0_2 := Aside0.mk hc0_2; clear hr0_2 hc0_2
 have HB := Aside0.mk (Below.refl w.heap.size w)
 have H : ((slices_Repeat_int_int.f (([(-1)] : List Int)) a0_0).bind fun t203 => (if 0 ≤ a1 then (if a1 < (t203.length : Int) then (impl_Table_far.l0 k (t203.set (a1 : Int).toNat 0) (([a1] : List Int)) 0 a0_0 l0_1 l0_2) else (none)) else (none))) = some r := h
 clear h
 obtain ⟨y200, hy_⟩ : ∃ y_ : List Int, y_ = (([(-1)] : List Int)) := ⟨_, rfl⟩
 replace H : ((slices_Repeat_int_int.f y200 a0_0).bind fun t203 => (if 0 ≤ a1 then (if a1 < (t203.length : Int) then (impl_Table_far.l0 k (t203.set (a1 : Int).toNat 0) (([a1] : List Int)) 0 a0_0 l0_1 l0_2) else (none)) else (none))) = some r := yH
 have Ny200 := ak hy_; clear hy_; replace H := bS H; obtain ⟨t203, A3, H⟩ := H
 replace H : (if 0 ≤ a1 then (if a1 < (t203.length : Int) then (impl_Table_far.l0 k (t203.set (a1 : Int).toNat 0) (([a1] : List Int)) 0 a0_0 l0_1 l0_2) else (none)) else (none)) = some r := H
 replace H := ifS H; obtain ⟨c4, H⟩ := H; have c4b0 := decide_eq_true c4; clear c4; replace H := ifS H; obtain ⟨c5, H⟩ := H; have c5b0 := decide_eq_true c5; clear c5
 obtain ⟨y206, hy_⟩ : ∃ y_ : List Int, y_ = (t203.set (a1 : Int).toNat 0) := ⟨_, rfl⟩
 replace H : (impl_Table_far.l0 k y206 (([a1] : List Int)) 0 a0_0 l0_1 l0_2) = some r := yH
 have Ny206 := ak hy_; clear hy_
 obtain ⟨y207, hy_⟩ : ∃ y_ : List Int, y_ = (([a1] : List Int)) := ⟨_, rfl⟩
 replace H : (impl_Table_far.l0 k y206 y207 0 a0_0 l0_1 l0_2) = some r := yH
 have Ny207 := ak hy_; clear hy_
 have H' := Aside0.mk H
 clear H
 go_enter Try.func107, Try.ntmps107
 go_wp2_with (first | ((with_reducible refine gate_dst (N := 2) rfl ?_); refine boxev 2 #[.int .i64 a0_0, .slice A0_1 l0_1.length c0_1, .slice A0_2 l0_2.length c0_2] 38 ?_; intro gb199 hg w7 hbox hb; have BK199 := ak (hbox); have GW199 := ak (hgl hg (belowd HB)); have GE199 := ak (hgl hg (belowd HB)); replace HB := ak (below_step (belowd HB) hb); clear hb hbox hg) | ((with_reducible refine gate_dst (N := 9) rfl ?_); refine Kd.R_lit (Kd.int .i64) _ 3 ?hg (N := 9) ?hd (xs := ([(-1)] : List Int)) (inner := [.int .i64 (-1)]) (ok := fun _ => True) (okp := fun _ => True) ?hr ?hp (fun _ hk => hk) trivial (Below.refl _ _) (Nat.le_refl _) (by simp) ?_; (case hd => rfl); (case hg => rfl); (case hr => first | (go_simp; done) | (go_simp; rfl)); (case hp => exact (Reps.one (show Kd.M (Kd.int .i64) _ _ _ (-1) [.int .i64 (-1)] from rfl) (Reps.none _ _))); intro v201 w8 ho9 hb hg_ hnew_; clear hg_ hnew_; (first | rw [← Ny200.out] at ho9 | (simp only [Int.reduceToNat] at ho9; rw [← Ny200.out] at ho9)); have HO202 := ak (Kd.R_lower ho9 (below_size (belowg1 HB GE199))); replace BK199 := ak (blk_below (blkd BK199) hb); replace HB := ak (below_step (belowg1 HB GE199) hb); clear hb ho9; obtain ⟨hcz10_0, hcz10_1, hcz10_2, hfz10_0, hfz10_1, hfz10_2⟩ := box3 BK199; obtain ⟨Ao11, co11, eo11⟩ := Kd.R_slice HO202.out; subst eo11) | ((with_reducible refine gate_callee (f := 143) rfl ?_); refine goesLa (some 12) rfl Try.func143 #[.slice Ao11 y200.length co11, .int .i64 a0_0] rfl ?_; (with_reducible refine (slices_Repeat_int_int.calls _ _ y200 a0_0 t203 _ ?side1 ?side2 A3.out).mono ?_); (case side1 => exact cd (Kd.R_reads' HO202.out).2.2); (case side2 => exact (Kd.R_reads' HO202.out).2.1); rintro e w12 ⟨v204, rfl, ho0, hb⟩; refine ⟨_, rfl, ?_⟩; have HO205 := ak (Kd.R_lower (Kd.R_new' ho0 (Kd.R_lt (rdl HO202))) (below_size (belowg1 HB GE199))); replace HO202 := ak (Kd.R_elder' (rdl HO202) (Kd.R_base ho0) hb); replace BK199 := ak (blk_below (blkd BK199) hb); replace HB := ak (below_step (belowg1 HB GE199) hb); (try clear hb); (try clear ho0); have p6 : 0 ≤ (a1 : Int) := da; have q6 : (a1 : Int) < ((t203.length : Int) : Int) := da; obtain ⟨go6, co6, eo6, gb6, gl6, cl6, HG6⟩ := Kd.R_form HO205.out (by omega); (first | cases eo6 | (injection eo6 with ea_ en_ ec_; (first | subst ea_ | (injection ea_ with ea_; subst ea_)); subst ec_; clear en_)); have GB6 := Aside0.mk gb6; have GG6 := Aside0.mk HG6; clear gb6 gl6 HG6; obtain ⟨hx6_0, hf6_0⟩ := Kd.R_celln 0 HO205.out (a1 : Int) p6 q6; replace p6 := eq_true p6; replace q6 := eq_true q6; have n_ := Aside0.mk (Kd.R_mono (ok' := (fun k_ => some k_ ≠ (.slice Ao11 y200.length co11 : Value).ownBlock)) HO205.out (fun k_ hk => hk.2)); clear HO205; have HO205 := n_; clear n_; obtain ⟨hy13_, hz13_⟩ := Kd.R_celln 0 HO205.out (a1 : Int) (da) (da); have HP13 := Kd.R_putg HO205.out (a1 : Int) 0) | ((with_reducible refine gate_store (t := 3) (p := 15) rfl ?_); refine store_event (t := 3) (p := 15) (v := ?vo_w14) (w1 := (w12.setCell ⟨go6, (a1 : Int).toNat, none⟩ (.int .i64 0))) ?hg ?ho ?hn ?hr ?_; (case ho => rfl); (case hg => rfl); (case hn => rfl); (case hr => first | (go_simp; done) | (go_simp; rfl)); intro w14 hw; have hg : w12.grownBy w14 (some go6) := (by rw [hw]; exact HP13.2); have hp_ : Kd.R (Kd.int .i64) 3 w14 w.heap.size (fun k_ => some k_ ≠ (.slice Ao11 y200.length co11 : Value).ownBlock) (.slice (some ⟨go6, 0, none⟩) t203.length co6) y206 := (by rw [hw, Ny206.out]; exact HP13.1); clear HP13; replace BK199 := ak (blk_grown (blkd BK199) hg (Kd.R_ne HO205.out BK199.out (by decide))); replace HO202 := ak (Kd.R_after (v := (.slice (some ⟨go6, 0, none⟩) t203.length co6)) (v1 := (.slice (some ⟨go6, 0, none⟩) t203.length co6)) (ok := (fun _ => True)) (rdl HO202) hg (.inl rfl)); replace HO205 := ak (hp_); replace HB := ak ((by rw [hw]; exact below_set (HB.out) GB6.out : Below w.heap.size w w14)); clear hg hw hp_) | ((with_reducible refine gate_dst (N := 17) rfl ?_); refine Kd.R_lit (Kd.int .i64) _ 3 ?hg (N := 17) ?hd (xs := ([a1] : List Int)) (inner := [.int .i64 a1]) (ok := fun _ => True) (okp := fun _ => True) ?hr ?hp (fun _ hk => hk) trivial (Below.refl _ _) (Nat.le_refl _) (by simp) ?_; (case hd => rfl); (case hg => rfl); (case hr => first | (go_simp; done) | (go_simp; rfl)); (case hp => exact (Reps.one (show Kd.M (Kd.int .i64) _ _ _ a1 [.int .i64 a1] from rfl) (Reps.none _ _))); intro v208 w15 ho16 hb hg_ hnew_; clear hg_ hnew_; (first | rw [← Ny207.out] at ho16 | (simp only [Int.reduceToNat] at ho16; rw [← Ny207.out] at ho16)); have HO209 := ak (Kd.R_lower (Kd.R_new' (Kd.R_new' ho16 (Kd.R_lt (rdl HO202))) (Kd.R_lt (rdl HO205))) (below_size (belowg1 HB GE199))); replace HO202 := ak (Kd.R_elder' (rdl HO202) (Kd.R_base ho16) hb); replace HO205 := ak (Kd.R_elder' (rdl HO205) (Kd.R_base ho16) hb); replace BK199 := ak (blk_below (blkd BK199) hb); replace HB := ak (below_step (belowg1 HB GE199) hb); clear hb ho16))
 go_loopg [6, 7] k (fun kq v6 v7 w' => ∃ (x5_1 : List Int) (x6_1 : List Int) (x7_1 : Int), v7 = .int .i64 x7_1 ∧ Aside0 (impl_Table_far.l0 kq x5_1 x6_1 x7_1 a0_0 l0_1 l0_2 = some r) ∧ Aside0 (kq ≤ k) ∧ Aside0 (Kd.R (Kd.int .i64) 3 w' w.heap.size (fun k_ => some k_ ≠ (v6 : Value).ownBlock) (.slice (some ⟨go6, 0, none⟩) t203.length co6) x5_1) ∧ Aside0 (Kd.R (Kd.int .i64) 3 w' w.heap.size (fun k_ => some k_ ≠ ((.slice (some ⟨go6, 0, none⟩) t203.length co6) : Value).ownBlock) v6 x6_1) ∧ Aside0 (w'.heap[gb199]? = some (.cells #[.int .i64 a0_0, (.slice A0_1 l0_1.length c0_1), (.slice A0_2 l0_2.length c0_2)] 38 (0, 0))) ∧ Aside0 (Below w.heap.size w w'))
 case atStart => exact ⟨(y206), (y207), (0), er, H', ⟨Nat.le_refl _⟩, ⟨by (with_reducible repeat (first | apply Kd.R_alloc | apply Kd.R_drewN | apply Kd.R_drew)); exact Kd.R_mono HO205.out (fun _ hk => hk.2)⟩, ⟨by (with_reducible repeat (first | apply Kd.R_alloc | apply Kd.R_drewN | apply Kd.R_drew)); exact Kd.R_mono HO209.out (fun _ hk => hk.2)⟩, ⟨blkd BK199⟩, ⟨belowg1 HB GE199⟩⟩
 case round =>
  clear H'
  (try clear c4b0); (try clear c5b0); (try clear p6); (try clear q6); (try clear hcz10_0); (try clear hcz10_1); (try clear hcz10_2); (try clear hfz10_0); (try clear hfz10_1); (try clear hfz10_2); (try clear hx6_0)
  obtain ⟨x5_1, x6_1, x7_1, rfl, HA, HK1, HO_5, HO_6, BK199, HB⟩ := hrel
  have hl5_1 := (Kd.R_reads' HO_5.out).1
  rw [hl5_1] at HO_5
  (try simp only [hl5_1])
  (try simp only [hl5_1] at BK199)
  (try simp only [hl5_1] at HO_6)
  cases gk with
  | zero => exact absurd HA.out (by simp [impl_Table_far.l0])
  | succ k1 =>
   have H := HA.out; clear HA
   simp only [impl_Table_far.l0] at H
   by_cases c17 : x7_1 < (x6_1.length : Int)
   ·rw [if_pos c17] at H
    have c17b0 : decide (x7_1 < (x6_1.length : Int)) = true := decide_eq_true c17
    clear c17
    have H' := Aside0.mk H
    clear H
    obtain ⟨Ao18, co18, eo18⟩ := Kd.R_slice HO_6.out
    subst eo18; go_wp2
    go_loopg [6, 26] k1 (fun kq v6 v26 w' => ∃ (x5_2 : List Int) (x6_2 : List Int) (x26_2 : Int), v26 = .int .i64 x26_2 ∧ Aside0 (impl_Table_far.l1 kq x5_2 x6_2 x7_1 (x5_1.length : Int) x26_2 a0_0 l0_1 l0_2 = some r) ∧ Aside0 (kq ≤ k1) ∧ Aside0 (Kd.R (Kd.int .i64) 3 w' w.heap.size (fun k_ => some k_ ≠ (v6 : Value).ownBlock) (.slice (some ⟨go6, 0, none⟩) x5_1.length co6) x5_2) ∧ Aside0 (Kd.R (Kd.int .i64) 3 w' w.heap.size (fun k_ => some k_ ≠ ((.slice (some ⟨go6, 0, none⟩) x5_1.length co6) : Value).ownBlock) v6 x6_2) ∧ Aside0 (w'.heap[gb199]? = some (.cells #[.int .i64 a0_0, (.slice A0_1 l0_1.length c0_1), (.slice A0_2 l0_2.length c0_2)] 38 (0, 0))) ∧ Aside0 (Below w.heap.size w w'))
    case atStart => exact ⟨(x5_1), (x6_1), (0), er, H', ⟨Nat.le_refl _⟩, ⟨by (try simp only [hl5_1]); (with_reducible repeat (first | apply Kd.R_alloc | apply Kd.R_drewN | apply Kd.R_drew)); exact HO_5.out⟩, ⟨by (try simp only [hl5_1]); (with_reducible repeat (first | apply Kd.R_alloc | apply Kd.R_drewN | apply Kd.R_drew)); exact HO_6.out⟩, ⟨by (try simp only [hl5_1]); (with_reducible repeat (first | refine blk_drewN ?_ _ | refine blk_drew ?_ | refine blk_alloc ?_ _)); exact BK199.out⟩, ⟨belowg1 HB GE199⟩⟩
    case round =>
     clear H'
     (try clear c17b0)
     obtain ⟨x5_2, x6_2, x26_2, rfl, HA, HK2, HO_5, HO_6, BK199, HB⟩ := hrel
     have hl5_2 := (Kd.R_reads' HO_5.out).1
     rw [hl5_2] at HO_5
     (try simp only [hl5_2])
     (try simp only [hl5_2] at BK199)
     (try simp only [hl5_2] at HO_6)
     cases gk with
     | zero => exact absurd HA.out (by simp [impl_Table_far.l1])
     | succ k2 =>
      have H := HA.out; clear HA
      simp only [impl_Table_far.l1] at H
      by_cases c19 : x26_2 < (x5_1.length : Int)
      ·rw [if_pos c19] at H
       have c19b0 : decide (x26_2 < (x5_1.length : Int)) = true := decide_eq_true c19
       clear c19; replace H := ifS H; obtain ⟨c20, H⟩ := H; have c20b0 := decide_eq_true c20; clear c20; replace H := ifS H; obtain ⟨c21, H⟩ := H; have c21b0 := decide_eq_true c21; clear c21
       by_cases c22 : (rd x5_2 x26_2) < 0
       ·rw [if_pos c22] at H
        have c22b0 : decide ((rd x5_2 x26_2) < 0) = true := decide_eq_true c22
        clear c22; replace H := ifS H; obtain ⟨c23, H⟩ := H; have c23b0 := decide_eq_true c23; clear c23; replace H := ifS H; obtain ⟨c24, H⟩ := H; have c24b0 := decide_eq_true c24; clear c24; replace H := bS H; obtain ⟨t212, A25, H⟩ := H
        replace H : (if t212 ≥ 0 then (if 0 ≤ (rd x6_2 x7_1) then (if (rd x6_2 x7_1) < (x5_2.length : Int) then (if x6_2.length < 17592186044416 then (impl_Table_far.l1 k2 (x5_2.set (x26_2 : Int).toNat (wrap64 ((rd x5_2 (rd x6_2 x7_1)) + 1))) (x6_2 ++ [x26_2]) x7_1 (x5_1.length : Int) (wrap64 (x26_2 + 1)) a0_0 l0_1 l0_2) else (none)) else (none)) else (none)) else (impl_Table_far.l1 k2 x5_2 x6_2 x7_1 (x5_1.length : Int) (wrap64 (x26_2 + 1)) a0_0 l0_1 l0_2)) = some r := H
        by_cases c26 : t212 ≥ 0
        ·rw [if_pos c26] at H
         have c26b0 : decide (0 ≤ t212) = true := decide_eq_true c26
         clear c26; replace H := ifS H; obtain ⟨c27, H⟩ := H; have c27b0 := decide_eq_true c27; clear c27; replace H := ifS H; obtain ⟨c28, H⟩ := H; have c28b0 := decide_eq_true c28; clear c28
         obtain ⟨y215, hy_⟩ : ∃ y_ : List Int, y_ = (x5_2.set (x26_2 : Int).toNat (wrap64 ((rd x5_2 (rd x6_2 x7_1)) + 1))) := ⟨_, rfl⟩
         replace H : (if x6_2.length < 17592186044416 then (impl_Table_far.l1 k2 y215 (x6_2 ++ [x26_2]) x7_1 (x5_1.length : Int) (wrap64 (x26_2 + 1)) a0_0 l0_1 l0_2) else (none)) = some r := yH
         have Ny215 := ak hy_; clear hy_; replace H := ifS H; obtain ⟨c30, H⟩ := H; have LMc30 := Aside0.mk c30; clear c30
         obtain ⟨y216, hy_⟩ : ∃ y_ : List Int, y_ = (x6_2 ++ [x26_2]) := ⟨_, rfl⟩
         replace H : (impl_Table_far.l1 k2 y215 y216 x7_1 (x5_1.length : Int) (wrap64 (x26_2 + 1)) a0_0 l0_1 l0_2) = some r := yH
         have Ny216 := ak hy_; clear hy_
         have H' := Aside0.mk H
         clear H
         try go_wp2
         replace HO_5 := ak (Kd.R_drew HO_5.out)
         replace HO_6 := ak (Kd.R_drew HO_6.out)
         replace BK199 := ak (blk_drew BK199.out)
         replace HB := ak (below_drew1 HB.out)
         have p210 : 0 ≤ (x26_2 : Int) := da
         have q210 : x26_2 < (x5_2.length : Int) := da
         obtain ⟨ad210, e210, hx210_0⟩ := Kd.at_int (Kd.R_reads' HO_5.out).2.2 x26_2 p210 q210
         obtain rfl : (⟨go6, 0, none⟩ : Addr) = ad210 := (by injection e210)
         (first | simp only [add_plain] at hx210_0 | simp only [add_at] at hx210_0 | simp only [Addr.add, Nat.zero_add] at hx210_0 | skip)
         replace p210 := eq_true p210; replace q210 := eq_true q210
         obtain ⟨Ao32, co32, eo32⟩ := Kd.R_slice HO_6.out
         (first | subst eo32 | (injection eo32 with f1_ f2_ f3_; have f4_ := f1_.symm; have f5_ := f3_.symm; clear f1_ f2_ f3_; subst f4_; subst f5_))
         have p211 : 0 ≤ (x7_1 : Int) := da
         have q211 : x7_1 < (x6_2.length : Int) := da
         obtain ⟨ad211, e211, hx211_0⟩ := Kd.at_int (Kd.R_reads' HO_6.out).2.2 x7_1 p211 q211
         cases e211
         replace p211 := eq_true p211; replace q211 := eq_true q211
         refine start_ (n := 15) (S := fun w' => w'.cell? ⟨gb199, 0, none⟩ = some (.int .i64 a0_0) ∧ w'.cell? ⟨gb199, 1, none⟩ = some (.slice A0_1 l0_1.length c0_1) ∧ w'.cell? ⟨gb199, 2, none⟩ = some (.slice A0_2 l0_2.length c0_2) ∧ w'.cell? ⟨go6, (x26_2).toNat, none⟩ = some (.int .i64 (rd x5_2 x26_2)) ∧ w'.cell? (ad211.add (x7_1).toNat) = some (.int .i64 (rd x6_2 x7_1))) (ds := []) (bl 15 0) (by kernel_rfl) rfl rfl ⟨bq BK199 0, bq BK199 1, bq BK199 2, hx210_0, hx211_0⟩ (fun hHeld => ?_); refine with_tabW impl_Table_far.tab10 impl_Table_far.bits10 (fun HT_ HW_ => ?_)
         generalize wr.drew = w31 at HO_5 HO_6 BK199 HB hx210_0 hx211_0 hHeld ⊢
         refine pureA 0 (some 29) 15 1 HT_ ?_
         refine pureA 1 (some 30) 15 3 HT_ ?_
         refine pureA 2 (some 31) 15 7 HT_ ?_
         refine takeA 3 (some 32) 15 15 HT_ HW_ hHeld ?_ (hy := by rintro w' ⟨s0, s1, s2, s3, s4⟩; go_simp; with_reducible rfl)
         refine pureA 4 (some 33) 15 31 HT_ ?_
         refine pureA 5 (some 34) 15 63 HT_ ?_
         refine pureA 7 (some 36) 15 191 HT_ ?_
         refine pureA 8 (some 37) 15 447 HT_ ?_
         refine pureA 9 (some 38) 15 959 HT_ ?_
         refine pureA 10 (some 39) 15 1983 HT_ ?_
         refine takeA 6 (some 35) 15 2047 HT_ HW_ hHeld ?_ (hy := by rintro w' ⟨s0, s1, s2, s3, s4⟩; go_simp; with_reducible rfl)
         refine takeA 11 (some 40) 15 4095 HT_ HW_ hHeld ?_ (hy := by rintro w' ⟨s0, s1, s2, s3, s4⟩; go_simp; with_reducible rfl)
         refine oneA 12 (some 41) 15 8191 HT_ (fun K hK => ?_)
         refine goes_ Try.func144 (by kernel_rfl) rfl #[.agg #[.int .i64 a0_0, .slice A0_1 l0_1.length c0_1, .slice A0_2 l0_2.length c0_2], .int .i64 x26_2, .int .i64 (rd x6_2 x7_1)] (by rfl) rfl rfl (by (try simp only [List.map_toArray, List.map_cons, List.map_nil]); first | done | rfl | (simp only [List.length_drop, List.length_take]; rfl)) ?_
         with_reducible refine (impl_Table_pair.calls k2 a0_0 _ _ l0_1 _ _ l0_2 x26_2 (rd x6_2 x7_1) t212 _ ?side1 ?side2 ?side3 ?side4 A25.out).mono ?_
         (case side1 => exact cd (Kd.C_below HR0_1.out HB.out))
         (case side2 => exact HC0_1.out)
         (case side3 => exact cd (Kd.C_below HR0_2.out HB.out))
         (case side4 => exact HC0_2.out)
         rintro e w33 ⟨rfl, hb⟩
         have HS3_ := (hb.cell (World.block_lt_of_cell? _ _ (hHeld.2.2.2.1))).trans (hHeld.2.2.2.1)
         have HS4_ := (hb.cell (World.block_lt_of_cell? _ _ (hHeld.2.2.2.2))).trans (hHeld.2.2.2.2)
         refine ⟨_, rfl, ?_⟩
         replace HO_5 := ak (Kd.R_below (rdl HO_5) hb)
         replace HO_6 := ak (Kd.R_below (rdl HO_6) hb)
         replace BK199 := ak (blk_below (blkd BK199) hb)
         replace HB := ak (below_step (belowg1 HB GE199) hb)
         (try clear hb); (try clear hb2); (try clear hk); (try clear hi)
         refine hK.out _ _ ⟨bq BK199 0, bq BK199 1, bq BK199 2, HS3_, HS4_⟩ (fun hHeld => ?_)
         clear hK K
         refine norm_ (a' := ?_) ?_ ?_
         rotate_left
         ·show Act.put _ (some 41) _ = _
          simp only [Act.put, List.setIfInBounds_toArray, List.set_cons_zero, List.set_cons_succ, i64_w, i32_w]
          rfl
         refine pureA 13 (some 42) 15 16383 HT_ ?_
         refine pureA 14 (some 43) 15 32767 HT_ ?_
         refine done_ (done_of HT_.out (by kernel_rfl)) ?_
         have p213 : 0 ≤ (x7_1 : Int) := da
         have q213 : x7_1 < (x6_2.length : Int) := da
         obtain ⟨ad213, e213, hx213_0⟩ := Kd.at_int (Kd.R_reads' HO_6.out).2.2 x7_1 p213 q213
         obtain rfl : ad211 = ad213 := (by injection e213)
         replace p213 := eq_true p213; replace q213 := eq_true q213
         have p214 : 0 ≤ ((rd x6_2 x7_1) : Int) := da
         have q214 : (rd x6_2 x7_1) < (x5_2.length : Int) := da
         obtain ⟨ad214, e214, hx214_0⟩ := Kd.at_int (Kd.R_reads' HO_5.out).2.2 (rd x6_2 x7_1) p214 q214
         obtain rfl : (⟨go6, 0, none⟩ : Addr) = ad214 := (by injection e214)
         (first | simp only [add_plain] at hx214_0 | simp only [add_at] at hx214_0 | simp only [Addr.add, Nat.zero_add] at hx214_0 | skip)
         replace p214 := eq_true p214; replace q214 := eq_true q214
         have p29 : 0 ≤ (x26_2 : Int) := da
         have q29 : (x26_2 : Int) < ((x5_2.length : Int) : Int) := da
         obtain ⟨hx29_0, hf29_0⟩ := Kd.R_celln 0 HO_5.out (x26_2 : Int) p29 q29
         replace p29 := eq_true p29; replace q29 := eq_true q29
         obtain ⟨hy34_, hz34_⟩ := Kd.R_celln 0 HO_5.out (x26_2 : Int) (da) (da)
         have HP34 := Kd.R_putg HO_5.out (x26_2 : Int) (wrap64 ((rd x5_2 (rd x6_2 x7_1)) + 1))
         try go_wp2_with (first | ((with_reducible refine gate_store (t := 3) (p := 54) rfl ?_); refine store_event (t := 3) (p := 54) (v := ?vo_w35) (w1 := (w33.setCell ⟨go6, (x26_2 : Int).toNat, none⟩ (.int .i64 (wrap64 ((rd x5_2 (rd x6_2 x7_1)) + 1))))) ?hg ?ho ?hn ?hr ?_; (case ho => rfl); (case hg => rfl); (case hn => rfl); (case hr => first | (go_simp; done) | (go_simp; rfl)); intro w35 hw; have hg : w33.grownBy w35 (some go6) := (by rw [hw]; exact HP34.2); have hp_ : Kd.R (Kd.int .i64) 3 w35 w.heap.size (fun k_ => some k_ ≠ (.slice (some ad211) x6_2.length co32 : Value).ownBlock) (.slice (some ⟨go6, 0, none⟩) x5_2.length co6) y215 := (by rw [hw, Ny215.out]; exact HP34.1); clear HP34; replace HO_6 := ak (Kd.R_after (v := (.slice (some ⟨go6, 0, none⟩) x5_2.length co6)) (v1 := (.slice (some ⟨go6, 0, none⟩) x5_2.length co6)) (ok := (fun _ => True)) (by (with_reducible repeat (first | apply Kd.R_alloc | apply Kd.R_drewN | apply Kd.R_drew)); exact Kd.R_mono HO_6.out (fun _ hk => ⟨trivial, hk⟩)) hg (.inl rfl)); replace BK199 := ak (blk_grown (blkd BK199) hg (Kd.R_ne HO_5.out BK199.out (by decide))); replace HO_5 := ak (hp_); replace HB := ak ((by rw [hw]; exact below_set (HB.out) GB6.out : Below w.heap.size w w35)); clear hg hw hp_) | ((with_reducible refine gate_builtin (b := .append) (xs := #[.tmp 55, .tmp 57]) rfl ?_); at_builtin; refine Kd.R_append (Kd.int .i64) (w0 := w) w.heap.size rfl (.tmp 55) (.tmp 57) 22 3 (.int .i64 0) 8 rfl Try.underlying22 info3 rfl (by decide) (by omega) (.slice (some ad211) x6_2.length co32) x6_2 x26_2 [.int .i64 x26_2] (fun k_ => some k_ ≠ (.slice (some ⟨go6, 0, none⟩) x5_2.length co6 : Value).ownBlock) (fun _ => False) rfl rfl ?aP (fun _ hk => hk.elim) ?aF ?aO ?aB ?aS ?aL ?_; (case aP => exact rfl); (case aB => exact (belowg1 HB GE199)); (case aF => exact (fun k_ hk => Kd.fresh' (Kd.R_lt (rdl HO_5)) k_ hk)); (case aO => exact (by (with_reducible repeat (first | apply Kd.R_alloc | apply Kd.R_drewN | apply Kd.R_drew)); exact Kd.R_mono HO_6.out (fun _ hk => hk.2))); (case aS => exact (below_size (belowg1 HB GE199))); (case aL => have := LMc30.out; omega); intro v217 w36 ho hb hg hat; rw [← Ny216.out] at ho; replace HO_5 := ak (Kd.R_after (ok := (fun _ => True)) (by (with_reducible repeat (first | apply Kd.R_alloc | apply Kd.R_drewN | apply Kd.R_drew)); exact Kd.R_mono HO_5.out (fun _ hk => ⟨trivial, hk⟩)) hg hat); replace BK199 := ak (blk_grown (blkd BK199) hg (Kd.R_ne HO_6.out BK199.out (by decide))); replace HB := ak (hb); have HO218 := ak (ho); clear HO_6; clear ho hb hg hat))
         (try simp only [← hl5_2])
         go_roundg k2
         case measure => have := HK1.out; have := HK2.out; omega
         case rel => exact ⟨(y215), (y216), (wrap64 (x26_2 + 1)), er, H', ⟨by have := HK1.out; have := HK2.out; omega⟩, ⟨by (try simp only [hl5_1]); (try simp only [hl5_2]); (with_reducible repeat (first | apply Kd.R_alloc | apply Kd.R_drewN | apply Kd.R_drew)); exact Kd.R_mono HO_5.out (fun _ hk => hk.2)⟩, ⟨by (try simp only [hl5_1]); (try simp only [hl5_2]); (with_reducible repeat (first | apply Kd.R_alloc | apply Kd.R_drewN | apply Kd.R_drew)); exact HO218.out⟩, ⟨by (try simp only [hl5_1]); (try simp only [hl5_2]); (with_reducible repeat (first | refine blk_drewN ?_ _ | refine blk_drew ?_ | refine blk_alloc ?_ _)); exact BK199.out⟩, ⟨belowg1 HB GE199⟩⟩
        ·rw [if_neg c26] at H
         have c26b0 : decide (0 ≤ t212) = false := decide_eq_false c26
         clear c26
         have H' := Aside0.mk H
         clear H
         try go_wp2
         replace HO_5 := ak (Kd.R_drew HO_5.out)
         replace HO_6 := ak (Kd.R_drew HO_6.out)
         replace BK199 := ak (blk_drew BK199.out)
         replace HB := ak (below_drew1 HB.out)
         have p210 : 0 ≤ (x26_2 : Int) := da
         have q210 : x26_2 < (x5_2.length : Int) := da
         obtain ⟨ad210, e210, hx210_0⟩ := Kd.at_int (Kd.R_reads' HO_5.out).2.2 x26_2 p210 q210
         obtain rfl : (⟨go6, 0, none⟩ : Addr) = ad210 := (by injection e210)
         (first | simp only [add_plain] at hx210_0 | simp only [add_at] at hx210_0 | simp only [Addr.add, Nat.zero_add] at hx210_0 | skip)
         replace p210 := eq_true p210; replace q210 := eq_true q210
         obtain ⟨Ao38, co38, eo38⟩ := Kd.R_slice HO_6.out
         (first | subst eo38 | (injection eo38 with f1_ f2_ f3_; have f4_ := f1_.symm; have f5_ := f3_.symm; clear f1_ f2_ f3_; subst f4_; subst f5_))
         have p211 : 0 ≤ (x7_1 : Int) := da
         have q211 : x7_1 < (x6_2.length : Int) := da
         obtain ⟨ad211, e211, hx211_0⟩ := Kd.at_int (Kd.R_reads' HO_6.out).2.2 x7_1 p211 q211
         cases e211
         replace p211 := eq_true p211; replace q211 := eq_true q211
         refine start_ (n := 15) (S := fun w' => w'.cell? ⟨gb199, 0, none⟩ = some (.int .i64 a0_0) ∧ w'.cell? ⟨gb199, 1, none⟩ = some (.slice A0_1 l0_1.length c0_1) ∧ w'.cell? ⟨gb199, 2, none⟩ = some (.slice A0_2 l0_2.length c0_2) ∧ w'.cell? ⟨go6, (x26_2).toNat, none⟩ = some (.int .i64 (rd x5_2 x26_2)) ∧ w'.cell? (ad211.add (x7_1).toNat) = some (.int .i64 (rd x6_2 x7_1))) (ds := []) (bl 15 0) (by kernel_rfl) rfl rfl ⟨bq BK199 0, bq BK199 1, bq BK199 2, hx210_0, hx211_0⟩ (fun hHeld => ?_); refine with_tabW impl_Table_far.tab10 impl_Table_far.bits10 (fun HT_ HW_ => ?_)
         generalize wr.drew = w37 at HO_5 HO_6 BK199 HB hx210_0 hx211_0 hHeld ⊢
         refine pureA 0 (some 29) 15 1 HT_ ?_
         refine pureA 1 (some 30) 15 3 HT_ ?_
         refine pureA 2 (some 31) 15 7 HT_ ?_
         refine takeA 3 (some 32) 15 15 HT_ HW_ hHeld ?_ (hy := by rintro w' ⟨s0, s1, s2, s3, s4⟩; go_simp; with_reducible rfl)
         refine pureA 4 (some 33) 15 31 HT_ ?_
         refine pureA 5 (some 34) 15 63 HT_ ?_
         refine pureA 7 (some 36) 15 191 HT_ ?_
         refine pureA 8 (some 37) 15 447 HT_ ?_
         refine pureA 9 (some 38) 15 959 HT_ ?_
         refine pureA 10 (some 39) 15 1983 HT_ ?_
         refine takeA 6 (some 35) 15 2047 HT_ HW_ hHeld ?_ (hy := by rintro w' ⟨s0, s1, s2, s3, s4⟩; go_simp; with_reducible rfl)
         refine takeA 11 (some 40) 15 4095 HT_ HW_ hHeld ?_ (hy := by rintro w' ⟨s0, s1, s2, s3, s4⟩; go_simp; with_reducible rfl)
         refine oneA 12 (some 41) 15 8191 HT_ (fun K hK => ?_)
         refine goes_ Try.func144 (by kernel_rfl) rfl #[.agg #[.int .i64 a0_0, .slice A0_1 l0_1.length c0_1, .slice A0_2 l0_2.length c0_2], .int .i64 x26_2, .int .i64 (rd x6_2 x7_1)] (by rfl) rfl rfl (by (try simp only [List.map_toArray, List.map_cons, List.map_nil]); first | done | rfl | (simp only [List.length_drop, List.length_take]; rfl)) ?_
         with_reducible refine (impl_Table_pair.calls k2 a0_0 _ _ l0_1 _ _ l0_2 x26_2 (rd x6_2 x7_1) t212 _ ?side1 ?side2 ?side3 ?side4 A25.out).mono ?_
         (case side1 => exact cd (Kd.C_below HR0_1.out HB.out))
         (case side2 => exact HC0_1.out)
         (case side3 => exact cd (Kd.C_below HR0_2.out HB.out))
         (case side4 => exact HC0_2.out)
         rintro e w39 ⟨rfl, hb⟩
         have HS3_ := (hb.cell (World.block_lt_of_cell? _ _ (hHeld.2.2.2.1))).trans (hHeld.2.2.2.1)
         have HS4_ := (hb.cell (World.block_lt_of_cell? _ _ (hHeld.2.2.2.2))).trans (hHeld.2.2.2.2)
         refine ⟨_, rfl, ?_⟩
         replace HO_5 := ak (Kd.R_below (rdl HO_5) hb)
         replace HO_6 := ak (Kd.R_below (rdl HO_6) hb)
         replace BK199 := ak (blk_below (blkd BK199) hb)
         replace HB := ak (below_step (belowg1 HB GE199) hb)
         (try clear hb); (try clear hb2); (try clear hk); (try clear hi)
         refine hK.out _ _ ⟨bq BK199 0, bq BK199 1, bq BK199 2, HS3_, HS4_⟩ (fun hHeld => ?_)
         clear hK K
         refine norm_ (a' := ?_) ?_ ?_
         rotate_left
         ·show Act.put _ (some 41) _ = _
          simp only [Act.put, List.setIfInBounds_toArray, List.set_cons_zero, List.set_cons_succ, i64_w, i32_w]
          rfl
         refine pureA 13 (some 42) 15 16383 HT_ ?_
         refine pureA 14 (some 43) 15 32767 HT_ ?_
         refine done_ (done_of HT_.out (by kernel_rfl)) ?_
         try go_wp2
         (try simp only [← hl5_2])
         go_roundg k2
         case measure => have := HK1.out; have := HK2.out; omega
         case rel => exact ⟨(x5_2), (x6_2), (wrap64 (x26_2 + 1)), er, H', ⟨by have := HK1.out; have := HK2.out; omega⟩, ⟨by (try simp only [hl5_1]); (try simp only [hl5_2]); (with_reducible repeat (first | apply Kd.R_alloc | apply Kd.R_drewN | apply Kd.R_drew)); exact HO_5.out⟩, ⟨by (try simp only [hl5_1]); (try simp only [hl5_2]); (with_reducible repeat (first | apply Kd.R_alloc | apply Kd.R_drewN | apply Kd.R_drew)); exact HO_6.out⟩, ⟨by (try simp only [hl5_1]); (try simp only [hl5_2]); (with_reducible repeat (first | refine blk_drewN ?_ _ | refine blk_drew ?_ | refine blk_alloc ?_ _)); exact BK199.out⟩, ⟨belowg1 HB GE199⟩⟩
       ·rw [if_neg c22] at H
        have c22b0 : decide ((rd x5_2 x26_2) < 0) = false := decide_eq_false c22
        clear c22
        have H' := Aside0.mk H
        clear H
        try go_wp2
        replace HO_5 := ak (Kd.R_drew HO_5.out)
        replace HO_6 := ak (Kd.R_drew HO_6.out)
        replace BK199 := ak (blk_drew BK199.out)
        replace HB := ak (below_drew1 HB.out)
        have p210 : 0 ≤ (x26_2 : Int) := da
        have q210 : x26_2 < (x5_2.length : Int) := da
        obtain ⟨ad210, e210, hx210_0⟩ := Kd.at_int (Kd.R_reads' HO_5.out).2.2 x26_2 p210 q210
        obtain rfl : (⟨go6, 0, none⟩ : Addr) = ad210 := (by injection e210)
        (first | simp only [add_plain] at hx210_0 | simp only [add_at] at hx210_0 | simp only [Addr.add, Nat.zero_add] at hx210_0 | skip)
        replace p210 := eq_true p210; replace q210 := eq_true q210
        refine start_ (n := 15) (S := fun w' => w'.cell? ⟨go6, (x26_2).toNat, none⟩ = some (.int .i64 (rd x5_2 x26_2))) (ds := []) (bl 15 0) (by kernel_rfl) rfl rfl (hx210_0) (fun hHeld => ?_); refine with_tabW impl_Table_far.tab10 impl_Table_far.bits10 (fun HT_ HW_ => ?_)
        generalize wr.drew = w40 at HO_5 HO_6 BK199 HB hx210_0 hHeld ⊢
        refine pureA 0 (some 29) 15 1 HT_ ?_
        refine pureA 1 (some 30) 15 3 HT_ ?_
        refine pureA 2 (some 31) 15 7 HT_ ?_
        refine takeA 3 (some 32) 15 15 HT_ HW_ hHeld ?_ (hy := by intro w' s0; go_simp; with_reducible rfl)
        refine pureA 4 (some 33) 15 31 HT_ ?_
        refine pureA 5 (some 34) 15 63 HT_ ?_
        refine pureB 6 (some 35) 15 127 HT_ ?_
        refine pureB 7 (some 36) 15 255 HT_ ?_
        refine pureB 8 (some 37) 15 511 HT_ ?_
        refine pureB 9 (some 38) 15 1023 HT_ ?_
        refine pureB 10 (some 39) 15 2047 HT_ ?_
        refine pureB 11 (some 40) 15 4095 HT_ ?_
        refine pureB 12 (some 41) 15 8191 HT_ ?_
        refine pureB 13 (some 42) 15 16383 HT_ ?_
        refine pureA 14 (some 43) 15 32767 HT_ ?_
        refine done_ (done_of HT_.out (by kernel_rfl)) ?_
        try go_wp2
        (try simp only [← hl5_2])
        go_roundg k2
        case measure => have := HK1.out; have := HK2.out; omega
        case rel => exact ⟨(x5_2), (x6_2), (wrap64 (x26_2 + 1)), er, H', ⟨by have := HK1.out; have := HK2.out; omega⟩, ⟨by (try simp only [hl5_1]); (try simp only [hl5_2]); (with_reducible repeat (first | apply Kd.R_alloc | apply Kd.R_drewN | apply Kd.R_drew)); exact HO_5.out⟩, ⟨by (try simp only [hl5_1]); (try simp only [hl5_2]); (with_reducible repeat (first | apply Kd.R_alloc | apply Kd.R_drewN | apply Kd.R_drew)); exact HO_6.out⟩, ⟨by (try simp only [hl5_1]); (try simp only [hl5_2]); (with_reducible repeat (first | refine blk_drewN ?_ _ | refine blk_drew ?_ | refine blk_alloc ?_ _)); exact BK199.out⟩, ⟨belowg1 HB GE199⟩⟩
      ·rw [if_neg c19] at H
       have c19b0 : decide (x26_2 < (x5_1.length : Int)) = false := decide_eq_false c19
       have c19b0s := c19b0
       (try simp only [hl5_1, hl5_2] at c19b0s)
       clear c19
       have H' := Aside0.mk H
       clear H; go_wp2
       (try simp only [← hl5_1, ← hl5_2])
       go_roundg k2
       case measure => have := HK1.out; have := HK2.out; omega
       case rel => exact ⟨(x5_2), (x6_2), (wrap64 (x7_1 + 1)), er, H', ⟨by have := HK1.out; have := HK2.out; omega⟩, ⟨by (try simp only [hl5_1]); (try simp only [hl5_2]); (with_reducible repeat (first | apply Kd.R_alloc | apply Kd.R_drewN | apply Kd.R_drew)); exact HO_5.out⟩, ⟨by (try simp only [hl5_1]); (try simp only [hl5_2]); (with_reducible repeat (first | apply Kd.R_alloc | apply Kd.R_drewN | apply Kd.R_drew)); exact HO_6.out⟩, ⟨by (try simp only [hl5_1]); (try simp only [hl5_2]); (with_reducible repeat (first | refine blk_drewN ?_ _ | refine blk_drew ?_ | refine blk_alloc ?_ _)); exact BK199.out⟩, ⟨belowg1 HB GE199⟩⟩
   ·rw [if_neg c17] at H
    have c17b0 : decide (x7_1 < (x6_1.length : Int)) = false := decide_eq_false c17
    have c17b0s := c17b0
    (try simp only [hl5_1] at c17b0s)
    clear c17
    obtain rfl := Option.some.inj H
    obtain ⟨Ao41, co41, eo41⟩ := Kd.R_slice HO_6.out
    subst eo41; go_wp2
    go_ret
    exact ⟨_, er2, by (with_reducible repeat (first | apply Kd.R_alloc | apply Kd.R_drewN | apply Kd.R_drew)); exact Kd.R_mono HO_5.out (fun _ hk => trivial), belowg1 HB GE199⟩

/-! ### impl_Table_way: function 111 -/
mutual
def impl_Table_way.l0 : Nat → Int → Int → List Int → List Int → Int → List (List Int) → List Int → Option (List Int × Bool)
  | 0, _, _, _, _, _, _, _ => none
  | k + 1, x1, x2, x8, x9, x220000, x220001, x220002 => if x1 = x2 then (some (x9, true)) else (impl_Table_way.l1 k x1 x2 x8 x9 0 x220000 x220001 x220002)
def impl_Table_way.l1 : Nat → Int → Int → List Int → List Int → Int → Int → List (List Int) → List Int → Option (List Int × Bool)
  | 0, _, _, _, _, _, _, _, _ => none
  | k + 1, x1, x2, x8, x9, x10, x220000, x220001, x220002 => if 0 ≤ x10 then (if x10 < (x8.length : Int) then (if 0 ≤ x1 then (if x1 < (x8.length : Int) then (if (rd x8 x10) = (wrap64 ((rd x8 x1) - 1)) then ((impl_Table_pair.f k x220000 x220001 x220002 x1 x10).bind fun t229 => (if t229 < 0 then (impl_Table_way.l1 k x1 x2 x8 x9 (wrap64 (x10 + 1)) x220000 x220001 x220002) else ((impl_Table_pair.f k x220000 x220001 x220002 x1 x10).bind fun t230 => (if x9.length < 17592186044416 then (impl_Table_way.l0 k x10 x2 x8 (x9 ++ [t230]) x220000 x220001 x220002) else (none))))) else (impl_Table_way.l1 k x1 x2 x8 x9 (wrap64 (x10 + 1)) x220000 x220001 x220002)) else (none)) else (none)) else (none)) else (none)
end
def impl_Table_way.f (k : Nat) (a0_0 : Int) (l0_1 : List (List Int)) (l0_2 : List Int) (a1 : Int) (a2 : Int) : Option (List Int × Bool) := (impl_Table_far.f k a0_0 l0_1 l0_2 a2).bind fun t220 => (if 0 ≤ a1 then (if a1 < (t220.length : Int) then (if (rd t220 a1) < 0 then (some (([] : List Int), false)) else (impl_Table_way.l0 k a1 a2 t220 (([] : List Int)) a0_0 l0_1 l0_2)) else (none)) else (none))
theorem impl_Table_way.mono_l : ∀ k, (∀ y0 y1 y2 y3 y4 y5 y6, LeO (impl_Table_way.l0 k y0 y1 y2 y3 y4 y5 y6) (impl_Table_way.l0 (k + 1) y0 y1 y2 y3 y4 y5 y6)) ∧ (∀ y0 y1 y2 y3 y4 y5 y6 y7, LeO (impl_Table_way.l1 k y0 y1 y2 y3 y4 y5 y6 y7) (impl_Table_way.l1 (k + 1) y0 y1 y2 y3 y4 y5 y6 y7))
 | 0 => ⟨fun _ _ _ _ _ _ _ r h => by simp [impl_Table_way.l0] at h, fun _ _ _ _ _ _ _ _ r h => by simp [impl_Table_way.l1] at h⟩
 | k + 1 => by
  obtain ⟨ih0, ih1⟩ := impl_Table_way.mono_l k
  refine ⟨?_, ?_⟩
  ·intro y0 y1 y2 y3 y4 y5 y6
   unfold impl_Table_way.l0
   repeat' (first | (with_reducible first | exact ih0 _ _ _ _ _ _ _ | exact ih1 _ _ _ _ _ _ _ _ | exact impl_Table_far.mono _ _ _ _ _ | exact impl_Table_pair.mono _ _ _ _ _ _ | exact LeO.refl _ | exact LeO.none _ | refine LeO.ite ?_ ?_ | refine LeO.bind ?_ (fun _ => ?_)) | exact ih0 _ _ _ _ _ _ _ | exact ih1 _ _ _ _ _ _ _ _ | exact impl_Table_far.mono _ _ _ _ _ | exact impl_Table_pair.mono _ _ _ _ _ _ | exact LeO.none _ | refine LeO.ite ?_ ?_ | refine LeO.bind ?_ (fun _ => ?_))
  ·intro y0 y1 y2 y3 y4 y5 y6 y7
   unfold impl_Table_way.l1
   repeat' (first | (with_reducible first | exact ih0 _ _ _ _ _ _ _ | exact ih1 _ _ _ _ _ _ _ _ | exact impl_Table_far.mono _ _ _ _ _ | exact impl_Table_pair.mono _ _ _ _ _ _ | exact LeO.refl _ | exact LeO.none _ | refine LeO.ite ?_ ?_ | refine LeO.bind ?_ (fun _ => ?_)) | exact ih0 _ _ _ _ _ _ _ | exact ih1 _ _ _ _ _ _ _ _ | exact impl_Table_far.mono _ _ _ _ _ | exact impl_Table_pair.mono _ _ _ _ _ _ | exact LeO.none _ | refine LeO.ite ?_ ?_ | refine LeO.bind ?_ (fun _ => ?_))
theorem impl_Table_way.mono : ∀ a0 a1 a2 a3 a4 k, LeO (impl_Table_way.f k a0 a1 a2 a3 a4) (impl_Table_way.f (k + 1) a0 a1 a2 a3 a4) := by
 intro a0 a1 a2 a3 a4 k
 obtain ⟨ih0, ih1⟩ := impl_Table_way.mono_l k
 unfold impl_Table_way.f
 repeat' (first | (with_reducible first | exact ih0 _ _ _ _ _ _ _ | exact ih1 _ _ _ _ _ _ _ _ | exact impl_Table_far.mono _ _ _ _ _ | exact impl_Table_pair.mono _ _ _ _ _ _ | exact LeO.refl _ | exact LeO.none _ | refine LeO.ite ?_ ?_ | refine LeO.bind ?_ (fun _ => ?_)) | exact ih0 _ _ _ _ _ _ _ | exact ih1 _ _ _ _ _ _ _ _ | exact impl_Table_far.mono _ _ _ _ _ | exact impl_Table_pair.mono _ _ _ _ _ _ | exact LeO.none _ | refine LeO.ite ?_ ?_ | refine LeO.bind ?_ (fun _ => ?_))
def impl_Table_way.T6 : Bool × List (List Nat × List Nat) := (true, [([], []), ([], []), ([0, 1], [0, 1]), ([2], [2]), ([], []), ([], []), ([4, 5], [4, 5]), ([6], [6]), ([7], [7]), ([3, 8], [3, 8]), ([9], [9]), ([10], [10]), ([10], [10]), ([10], [10]), ([11, 12, 13, 10, 10], [10, 11, 12, 13]), ([14, 10], [10, 14]), ([10, 15], [10, 15])])
def impl_Table_way.B6 : List Nat := [0, 0, 3, 7, 0, 0, 48, 112, 240, 511, 1023, 2047, 2047, 2047, 16383, 32767, 65535]
theorem impl_Table_way.tab6 : rtab .any (opsOf Try.f111 6) = impl_Table_way.T6 := by kernel_rfl
theorem impl_Table_way.bits6 : waitsOk impl_Table_way.T6.2 impl_Table_way.B6 = true := by kernel_rfl
set_option maxHeartbeats 8000000 in
set_option maxRecDepth 100000 in
theorem impl_Table_way.calls (k : Nat) (a0_0 : Int) (A0_1 : Option Addr) (c0_1 : Nat) (l0_1 : List (List Int)) (A0_2 : Option Addr) (c0_2 : Nat) (l0_2 : List Int) (a1 : Int) (a2 : Int) (r1 : List Int) (r2 : Bool) (w : World) (hr0_1 : Kd.C (Kd.slice 3 (Kd.int .i64)) w A0_1 l0_1.length l0_1) (hc0_1 : l0_1.length ≤ c0_1) (hr0_2 : Kd.C (Kd.int .i64) w A0_2 l0_2.length l0_2) (hc0_2 : l0_2.length ≤ c0_2) (h : impl_Table_way.f k a0_0 l0_1 l0_2 a1 a2 = some (r1, r2)) :
  Calls Try.prog 111 #[.agg #[.int .i64 a0_0, .slice A0_1 l0_1.length c0_1, .slice A0_2 l0_2.length c0_2], .int .i64 a1, .int .i64 a2] w fun e w' => ∃ v0_ : Value, e = .returned (.tuple #[v0_, .bool r2]) ∧ Kd.R (Kd.int .i64) 3 w' w.heap.size (fun _ => True) v0_ r1 ∧ Below w.heap.size w w' := by
 have hu38 := Try.underlying38
 have HR0_1 := Aside0.mk hr0_1; have HC0_1 := Aside0.mk hc0_1; clear hr0_1 hc0_1; have HR0_2 := Aside0.mk hr0_2; have HC0_2 := Aside0.mk hc0_2; clear hr0_2 hc0_2
 have HB := Aside0.mk (Below.refl w.heap.size w)
 have H : ((impl_Table_far.f k a0_0 l0_1 l0_2 a2).bind fun t220 => (if 0 ≤ a1 then (if a1 < (t220.length : Int) then (if (rd t220 a1) < 0 then (some (([] : List Int), false)) else (impl_Table_way.l0 k a1 a2 t220 (([] : List Int)) a0_0 l0_1 l0_2)) else (none)) else (none))) = some (r1, r2) := h
 clear h; replace H := bS H; obtain ⟨t220, A4, H⟩ := H
 replace H : (if 0 ≤ a1 then (if a1 < (t220.length : Int) then (if (rd t220 a1) < 0 then (some (([] : List Int), false)) else (impl_Table_way.l0 k a1 a2 t220 (([] : List Int)) a0_0 l0_1 l0_2)) else (none)) else (none)) = some (r1, r2) := H
 obtain ⟨y223, hy_⟩ : ∃ y_ : List Int, y_ = (([] : List Int)) := ⟨_, rfl⟩
 replace H : (if 0 ≤ a1 then (if a1 < (t220.length : Int) then (if (rd t220 a1) < 0 then (some (([] : List Int), false)) else (impl_Table_way.l0 k a1 a2 t220 y223 a0_0 l0_1 l0_2)) else (none)) else (none)) = some (r1, r2) := yH
 have Ny223 := ak hy_; clear hy_; replace H := ifS H; obtain ⟨c5, H⟩ := H; have c5b0 := decide_eq_true c5; clear c5; replace H := ifS H; obtain ⟨c6, H⟩ := H; have c6b0 := decide_eq_true c6; clear c6
 by_cases c7 : (rd t220 a1) < 0
 ·rw [if_pos c7] at H
  have c7b0 : decide ((rd t220 a1) < 0) = true := decide_eq_true c7
  clear c7
  simp only [Option.some.injEq, Prod.mk.injEq] at H
  obtain ⟨rfl, rfl⟩ := H
  go_enter Try.func111, Try.ntmps111
  go_wp2_with (first | ((with_reducible refine gate_dst (N := 3) rfl ?_); refine boxev 3 #[.int .i64 a0_0, .slice A0_1 l0_1.length c0_1, .slice A0_2 l0_2.length c0_2] 38 ?_; intro gb219 hg w8 hbox hb; have BK219 := ak (hbox); have GW219 := ak (hgl hg (belowd HB)); have GE219 := ak (hgl hg (belowd HB)); replace HB := ak (below_step (belowd HB) hb); clear hb hbox hg; obtain ⟨hcz9_0, hcz9_1, hcz9_2, hfz9_0, hfz9_1, hfz9_2⟩ := box3 BK219) | ((with_reducible refine gate_callee (f := 107) rfl ?_); refine goesLa (some 13) rfl Try.func107 #[.agg #[.int .i64 a0_0, .slice A0_1 l0_1.length c0_1, .slice A0_2 l0_2.length c0_2], .int .i64 a2] rfl ?_; (with_reducible refine (impl_Table_far.calls k a0_0 _ _ l0_1 _ _ l0_2 a2 t220 _ ?side1 ?side2 ?side3 ?side4 A4.out).mono ?_); (case side1 => exact cd (Kd.C_below HR0_1.out HB.out)); (case side2 => exact HC0_1.out); (case side3 => exact cd (Kd.C_below HR0_2.out HB.out)); (case side4 => exact HC0_2.out); rintro e w10 ⟨v221, rfl, ho0, hb⟩; refine ⟨_, rfl, ?_⟩; have HO222 := ak (Kd.R_lower ho0 (below_size (belowg1 HB GE219))); replace BK219 := ak (blk_below (blkd BK219) hb); replace HB := ak (below_step (belowg1 HB GE219) hb); (try clear hb); (try clear ho0)) | ((with_reducible refine gate_dst (N := 14) rfl ?_); refine Kd.R_lit (Kd.int .i64) _ 3 ?hg (N := 14) ?hd (xs := ([] : List Int)) (inner := []) (ok := fun _ => True) (okp := fun _ => True) ?hr ?hp (fun _ hk => hk) trivial (Below.refl _ _) (Nat.le_refl _) (by simp) ?_; (case hd => rfl); (case hg => rfl); (case hr => first | (go_simp; done) | (go_simp; rfl)); (case hp => exact (Reps.none _ _)); intro v224 w11 ho12 hb hg_ hnew_; clear hg_ hnew_; (first | rw [← Ny223.out] at ho12 | (simp only [Int.reduceToNat] at ho12; rw [← Ny223.out] at ho12)); have HO225 := ak (Kd.R_lower (Kd.R_new' ho12 (Kd.R_lt (rdl HO222))) (below_size (belowg1 HB GE219))); replace HO222 := ak (Kd.R_elder' (rdl HO222) (Kd.R_base ho12) hb); replace BK219 := ak (blk_below (blkd BK219) hb); replace HB := ak (below_step (belowg1 HB GE219) hb); clear hb ho12; obtain ⟨Ao13, co13, eo13⟩ := Kd.R_slice HO222.out; subst eo13; have p226 : 0 ≤ (a1 : Int) := da; have q226 : a1 < (t220.length : Int) := da; obtain ⟨ad226, e226, hx226_0⟩ := Kd.at_int (Kd.R_reads' HO222.out).2.2 a1 p226 q226; cases e226; replace p226 := eq_true p226; replace q226 := eq_true q226))
  go_ret2
  exact ⟨_, er2, by first | exact Kd.R_nil _ _ _ _ _ | exact Kd.N_nil _ _ _ _ _ | exact Kd.V_nil _ _ _ _ _ | exact Kd.Q_nil _ _ _ _ _ | exact Kd.S_nil _ _ _ _ _, belowg1 HB GE219⟩
 ·rw [if_neg c7] at H
  have c7b0 : decide ((rd t220 a1) < 0) = false := decide_eq_false c7
  clear c7
  have H' := Aside0.mk H
  clear H
  go_enter Try.func111, Try.ntmps111
  go_wp2_with (first | ((with_reducible refine gate_dst (N := 3) rfl ?_); refine boxev 3 #[.int .i64 a0_0, .slice A0_1 l0_1.length c0_1, .slice A0_2 l0_2.length c0_2] 38 ?_; intro gb219 hg w14 hbox hb; have BK219 := ak (hbox); have GW219 := ak (hgl hg (belowd HB)); have GE219 := ak (hgl hg (belowd HB)); replace HB := ak (below_step (belowd HB) hb); clear hb hbox hg; obtain ⟨hcz15_0, hcz15_1, hcz15_2, hfz15_0, hfz15_1, hfz15_2⟩ := box3 BK219) | ((with_reducible refine gate_callee (f := 107) rfl ?_); refine goesLa (some 13) rfl Try.func107 #[.agg #[.int .i64 a0_0, .slice A0_1 l0_1.length c0_1, .slice A0_2 l0_2.length c0_2], .int .i64 a2] rfl ?_; (with_reducible refine (impl_Table_far.calls k a0_0 _ _ l0_1 _ _ l0_2 a2 t220 _ ?side1 ?side2 ?side3 ?side4 A4.out).mono ?_); (case side1 => exact cd (Kd.C_below HR0_1.out HB.out)); (case side2 => exact HC0_1.out); (case side3 => exact cd (Kd.C_below HR0_2.out HB.out)); (case side4 => exact HC0_2.out); rintro e w16 ⟨v221, rfl, ho0, hb⟩; refine ⟨_, rfl, ?_⟩; have HO222 := ak (Kd.R_lower ho0 (below_size (belowg1 HB GE219))); replace BK219 := ak (blk_below (blkd BK219) hb); replace HB := ak (below_step (belowg1 HB GE219) hb); (try clear hb); (try clear ho0)) | ((with_reducible refine gate_dst (N := 14) rfl ?_); refine Kd.R_lit (Kd.int .i64) _ 3 ?hg (N := 14) ?hd (xs := ([] : List Int)) (inner := []) (ok := fun _ => True) (okp := fun _ => True) ?hr ?hp (fun _ hk => hk) trivial (Below.refl _ _) (Nat.le_refl _) (by simp) ?_; (case hd => rfl); (case hg => rfl); (case hr => first | (go_simp; done) | (go_simp; rfl)); (case hp => exact (Reps.none _ _)); intro v224 w17 ho18 hb hg_ hnew_; clear hg_ hnew_; (first | rw [← Ny223.out] at ho18 | (simp only [Int.reduceToNat] at ho18; rw [← Ny223.out] at ho18)); have HO225 := ak (Kd.R_lower (Kd.R_new' ho18 (Kd.R_lt (rdl HO222))) (below_size (belowg1 HB GE219))); replace HO222 := ak (Kd.R_elder' (rdl HO222) (Kd.R_base ho18) hb); replace BK219 := ak (blk_below (blkd BK219) hb); replace HB := ak (below_step (belowg1 HB GE219) hb); clear hb ho18; obtain ⟨Ao19, co19, eo19⟩ := Kd.R_slice HO222.out; subst eo19; have p226 : 0 ≤ (a1 : Int) := da; have q226 : a1 < (t220.length : Int) := da; obtain ⟨ad226, e226, hx226_0⟩ := Kd.at_int (Kd.R_reads' HO222.out).2.2 a1 p226 q226; cases e226; replace p226 := eq_true p226; replace q226 := eq_true q226))
  go_loopg [1, 9] k (fun kq v1 v9 w' => ∃ (x1_1 : Int) (x9_1 : List Int), v1 = .int .i64 x1_1 ∧ Aside0 (impl_Table_way.l0 kq x1_1 a2 t220 x9_1 a0_0 l0_1 l0_2 = some (r1, r2)) ∧ Aside0 (kq ≤ k) ∧ Aside0 (Kd.R (Kd.int .i64) 3 w' w.heap.size (fun k_ => some k_ ≠ (v9 : Value).ownBlock) (.slice (some ad226) t220.length co19) t220) ∧ Aside0 (Kd.R (Kd.int .i64) 3 w' w.heap.size (fun k_ => some k_ ≠ ((.slice (some ad226) t220.length co19) : Value).ownBlock) v9 x9_1) ∧ Aside0 (w'.heap[gb219]? = some (.cells #[.int .i64 a0_0, (.slice A0_1 l0_1.length c0_1), (.slice A0_2 l0_2.length c0_2)] 38 (0, 0))) ∧ Aside0 (Below w.heap.size w w'))
  case atStart => exact ⟨(a1), (y223), er, H', ⟨Nat.le_refl _⟩, ⟨by (with_reducible repeat (first | apply Kd.R_alloc | apply Kd.R_drewN | apply Kd.R_drew)); exact Kd.R_mono HO222.out (fun _ hk => hk.2)⟩, ⟨by (with_reducible repeat (first | apply Kd.R_alloc | apply Kd.R_drewN | apply Kd.R_drew)); exact Kd.R_mono HO225.out (fun _ hk => hk.2)⟩, ⟨blkd BK219⟩, ⟨belowg1 HB GE219⟩⟩
  case round =>
   clear H'
   (try clear c5b0); (try clear c6b0); (try clear c7b0); (try clear hcz15_0); (try clear hcz15_1); (try clear hcz15_2); (try clear hfz15_0); (try clear hfz15_1); (try clear hfz15_2); (try clear hx226_0); (try clear p226); (try clear q226)
   obtain ⟨x1_1, x9_1, rfl, HA, HK1, HO_8, HO_9, BK219, HB⟩ := hrel
   cases gk with
   | zero => exact absurd HA.out (by simp [impl_Table_way.l0])
   | succ k1 =>
    have H := HA.out; clear HA
    simp only [impl_Table_way.l0] at H
    by_cases c20 : x1_1 = a2
    ·rw [if_pos c20] at H
     have c20b0 : (x1_1 == a2) = true := beq_iff_eq.mpr c20
     have c20b1 : (x1_1 != a2) = false := bne_eq_false_iff_eq.mpr c20
     clear c20
     simp only [Option.some.injEq, Prod.mk.injEq] at H
     obtain ⟨rfl, rfl⟩ := H; go_wp2
     go_ret2
     exact ⟨_, er2, by (with_reducible repeat (first | apply Kd.R_alloc | apply Kd.R_drewN | apply Kd.R_drew)); exact Kd.R_mono HO_9.out (fun _ hk => trivial), belowg1 HB GE219⟩
    ·rw [if_neg c20] at H
     have c20b0 : (x1_1 == a2) = false := beq_eq_false_iff_ne.mpr c20
     have c20b1 : (x1_1 != a2) = true := bne_iff_ne.mpr c20
     have H' := Aside0.mk H
     clear H; go_wp2
     go_loopg [10] k1 (fun kq v10 w' => ∃ (x10_2 : Int), v10 = .int .i64 x10_2 ∧ Aside0 (impl_Table_way.l1 kq x1_1 a2 t220 x9_1 x10_2 a0_0 l0_1 l0_2 = some (r1, r2)) ∧ Aside0 (kq ≤ k1) ∧ Aside0 (Kd.R (Kd.int .i64) 3 w' w.heap.size (fun k_ => some k_ ≠ (u9 : Value).ownBlock) (.slice (some ad226) t220.length co19) t220) ∧ Aside0 (Kd.R (Kd.int .i64) 3 w' w.heap.size (fun k_ => some k_ ≠ ((.slice (some ad226) t220.length co19) : Value).ownBlock) u9 x9_1) ∧ Aside0 (w'.heap[gb219]? = some (.cells #[.int .i64 a0_0, (.slice A0_1 l0_1.length c0_1), (.slice A0_2 l0_2.length c0_2)] 38 (0, 0))) ∧ Aside0 (Below w.heap.size w w'))
     case atStart => exact ⟨(0), er, H', ⟨Nat.le_refl _⟩, ⟨rdl HO_8⟩, ⟨rdl HO_9⟩, ⟨blkd BK219⟩, ⟨belowg1 HB GE219⟩⟩
     case round =>
      clear H'
      (try clear c20); (try clear c20b0); (try clear c20b1)
      obtain ⟨x10_2, rfl, HA, HK2, HO_8, HO_9, BK219, HB⟩ := hrel
      cases gk with
      | zero => exact absurd HA.out (by simp [impl_Table_way.l1])
      | succ k2 =>
       have H := HA.out; clear HA
       simp only [impl_Table_way.l1] at H
       replace H := ifS H; obtain ⟨c21, H⟩ := H; have c21b0 := decide_eq_true c21; clear c21; replace H := ifS H; obtain ⟨c22, H⟩ := H; have c22b0 := decide_eq_true c22; clear c22; replace H := ifS H; obtain ⟨c23, H⟩ := H; have c23b0 := decide_eq_true c23; clear c23; replace H := ifS H; obtain ⟨c24, H⟩ := H; have c24b0 := decide_eq_true c24; clear c24
       by_cases c25 : (rd t220 x10_2) = (wrap64 ((rd t220 x1_1) - 1))
       ·rw [if_pos c25] at H
        have c25b0 : ((rd t220 x10_2) == (wrap64 ((rd t220 x1_1) - 1))) = true := beq_iff_eq.mpr c25
        have c25b1 : ((rd t220 x10_2) != (wrap64 ((rd t220 x1_1) - 1))) = false := bne_eq_false_iff_eq.mpr c25
        clear c25; replace H := bS H; obtain ⟨t229, A26, H⟩ := H
        replace H : (if t229 < 0 then (impl_Table_way.l1 k2 x1_1 a2 t220 x9_1 (wrap64 (x10_2 + 1)) a0_0 l0_1 l0_2) else ((impl_Table_pair.f k2 a0_0 l0_1 l0_2 x1_1 x10_2).bind fun t230 => (if x9_1.length < 17592186044416 then (impl_Table_way.l0 k2 x10_2 a2 t220 (x9_1 ++ [t230]) a0_0 l0_1 l0_2) else (none)))) = some (r1, r2) := H
        by_cases c27 : t229 < 0
        ·rw [if_pos c27] at H
         have c27b0 : decide (t229 < 0) = true := decide_eq_true c27
         clear c27
         have H' := Aside0.mk H
         clear H
         try go_wp2
         replace HO_8 := ak (Kd.R_drew HO_8.out)
         replace HO_9 := ak (Kd.R_drew HO_9.out)
         replace BK219 := ak (blk_drew BK219.out)
         replace HB := ak (below_drew1 HB.out)
         have p227 : 0 ≤ (x10_2 : Int) := da
         have q227 : x10_2 < (t220.length : Int) := da
         obtain ⟨ad227, e227, hx227_0⟩ := Kd.at_int (Kd.R_reads' HO_8.out).2.2 x10_2 p227 q227
         obtain rfl : ad226 = ad227 := (by injection e227)
         replace p227 := eq_true p227; replace q227 := eq_true q227
         have p228 : 0 ≤ (x1_1 : Int) := da
         have q228 : x1_1 < (t220.length : Int) := da
         obtain ⟨ad228, e228, hx228_0⟩ := Kd.at_int (Kd.R_reads' HO_8.out).2.2 x1_1 p228 q228
         obtain rfl : ad226 = ad228 := (by injection e228)
         replace p228 := eq_true p228; replace q228 := eq_true q228
         refine start_ (n := 17) (S := fun w' => w'.cell? ⟨gb219, 0, none⟩ = some (.int .i64 a0_0) ∧ w'.cell? ⟨gb219, 1, none⟩ = some (.slice A0_1 l0_1.length c0_1) ∧ w'.cell? ⟨gb219, 2, none⟩ = some (.slice A0_2 l0_2.length c0_2) ∧ w'.cell? (ad226.add (x10_2).toNat) = some (.int .i64 (rd t220 x10_2)) ∧ w'.cell? (ad226.add (x1_1).toNat) = some (.int .i64 (rd t220 x1_1))) (ds := []) (bl 17 0) (by kernel_rfl) rfl rfl ⟨bq BK219 0, bq BK219 1, bq BK219 2, hx227_0, hx228_0⟩ (fun hHeld => ?_); refine with_tabW impl_Table_way.tab6 impl_Table_way.bits6 (fun HT_ HW_ => ?_)
         generalize wr.drew = w28 at HO_8 HO_9 BK219 HB hx227_0 hx228_0 hHeld ⊢
         refine pureA 0 (some 23) 17 1 HT_ ?_
         refine pureA 1 (some 24) 17 3 HT_ ?_
         refine pureA 2 (some 25) 17 7 HT_ ?_
         refine pureA 4 (some 27) 17 23 HT_ ?_
         refine pureA 5 (some 28) 17 55 HT_ ?_
         refine pureA 6 (some 29) 17 119 HT_ ?_
         refine takeA 3 (some 26) 17 127 HT_ HW_ hHeld ?_ (hy := by rintro w' ⟨s0, s1, s2, s3, s4⟩; go_simp; with_reducible rfl)
         refine takeA 7 (some 30) 17 255 HT_ HW_ hHeld ?_ (hy := by rintro w' ⟨s0, s1, s2, s3, s4⟩; go_simp; with_reducible rfl)
         refine pureA 8 (some 31) 17 511 HT_ ?_
         refine pureA 9 (some 32) 17 1023 HT_ ?_
         refine pureA 10 (some 33) 17 2047 HT_ ?_
         refine pureA 12 (some 35) 17 6143 HT_ ?_
         refine pureA 13 (some 36) 17 14335 HT_ ?_
         refine takeA 11 (some 34) 17 16383 HT_ HW_ hHeld ?_ (hy := by rintro w' ⟨s0, s1, s2, s3, s4⟩; go_simp; with_reducible rfl)
         refine oneA 14 (some 37) 17 32767 HT_ (fun K hK => ?_)
         refine goes_ Try.func144 (by kernel_rfl) rfl #[.agg #[.int .i64 a0_0, .slice A0_1 l0_1.length c0_1, .slice A0_2 l0_2.length c0_2], .int .i64 x1_1, .int .i64 x10_2] (by rfl) rfl rfl (by (try simp only [List.map_toArray, List.map_cons, List.map_nil]); first | done | rfl | (simp only [List.length_drop, List.length_take]; rfl)) ?_
         with_reducible refine (impl_Table_pair.calls k2 a0_0 _ _ l0_1 _ _ l0_2 x1_1 x10_2 t229 _ ?side1 ?side2 ?side3 ?side4 A26.out).mono ?_
         (case side1 => exact cd (Kd.C_below HR0_1.out HB.out))
         (case side2 => exact HC0_1.out)
         (case side3 => exact cd (Kd.C_below HR0_2.out HB.out))
         (case side4 => exact HC0_2.out)
         rintro e w29 ⟨rfl, hb⟩
         have HS3_ := (hb.cell (World.block_lt_of_cell? _ _ (hHeld.2.2.2.1))).trans (hHeld.2.2.2.1)
         have HS4_ := (hb.cell (World.block_lt_of_cell? _ _ (hHeld.2.2.2.2))).trans (hHeld.2.2.2.2)
         refine ⟨_, rfl, ?_⟩
         replace HO_8 := ak (Kd.R_below (rdl HO_8) hb)
         replace HO_9 := ak (Kd.R_below (rdl HO_9) hb)
         replace BK219 := ak (blk_below (blkd BK219) hb)
         replace HB := ak (below_step (belowg1 HB GE219) hb)
         (try clear hb); (try clear hb2); (try clear hk); (try clear hi)
         refine hK.out _ _ ⟨bq BK219 0, bq BK219 1, bq BK219 2, HS3_, HS4_⟩ (fun hHeld => ?_)
         clear hK K
         refine norm_ (a' := ?_) ?_ ?_
         rotate_left
         ·show Act.put _ (some 37) _ = _
          simp only [Act.put, List.setIfInBounds_toArray, List.set_cons_zero, List.set_cons_succ, i64_w, i32_w]
          rfl
         refine pureA 15 (some 38) 17 65535 HT_ ?_
         refine pureA 16 (some 39) 17 131071 HT_ ?_
         refine done_ (done_of HT_.out (by kernel_rfl)) ?_
         try go_wp2
         go_roundg k2
         case measure => have := HK1.out; have := HK2.out; omega
         case rel => exact ⟨(wrap64 (x10_2 + 1)), er, H', ⟨by have := HK1.out; have := HK2.out; omega⟩, ⟨rdl HO_8⟩, ⟨rdl HO_9⟩, ⟨blkd BK219⟩, ⟨belowg1 HB GE219⟩⟩
        ·rw [if_neg c27] at H
         have c27b0 : decide (t229 < 0) = false := decide_eq_false c27
         clear c27; replace H := bS H; obtain ⟨t230, A30, H⟩ := H
         replace H : (if x9_1.length < 17592186044416 then (impl_Table_way.l0 k2 x10_2 a2 t220 (x9_1 ++ [t230]) a0_0 l0_1 l0_2) else (none)) = some (r1, r2) := H
         replace H := ifS H; obtain ⟨c31, H⟩ := H; have LMc31 := Aside0.mk c31; clear c31
         obtain ⟨y231, hy_⟩ : ∃ y_ : List Int, y_ = (x9_1 ++ [t230]) := ⟨_, rfl⟩
         replace H : (impl_Table_way.l0 k2 x10_2 a2 t220 y231 a0_0 l0_1 l0_2) = some (r1, r2) := yH
         have Ny231 := ak hy_; clear hy_
         have H' := Aside0.mk H
         clear H
         try go_wp2
         replace HO_8 := ak (Kd.R_drew HO_8.out)
         replace HO_9 := ak (Kd.R_drew HO_9.out)
         replace BK219 := ak (blk_drew BK219.out)
         replace HB := ak (below_drew1 HB.out)
         have p227 : 0 ≤ (x10_2 : Int) := da
         have q227 : x10_2 < (t220.length : Int) := da
         obtain ⟨ad227, e227, hx227_0⟩ := Kd.at_int (Kd.R_reads' HO_8.out).2.2 x10_2 p227 q227
         obtain rfl : ad226 = ad227 := (by injection e227)
         replace p227 := eq_true p227; replace q227 := eq_true q227
         have p228 : 0 ≤ (x1_1 : Int) := da
         have q228 : x1_1 < (t220.length : Int) := da
         obtain ⟨ad228, e228, hx228_0⟩ := Kd.at_int (Kd.R_reads' HO_8.out).2.2 x1_1 p228 q228
         obtain rfl : ad226 = ad228 := (by injection e228)
         replace p228 := eq_true p228; replace q228 := eq_true q228
         refine start_ (n := 17) (S := fun w' => w'.cell? ⟨gb219, 0, none⟩ = some (.int .i64 a0_0) ∧ w'.cell? ⟨gb219, 1, none⟩ = some (.slice A0_1 l0_1.length c0_1) ∧ w'.cell? ⟨gb219, 2, none⟩ = some (.slice A0_2 l0_2.length c0_2) ∧ w'.cell? (ad226.add (x10_2).toNat) = some (.int .i64 (rd t220 x10_2)) ∧ w'.cell? (ad226.add (x1_1).toNat) = some (.int .i64 (rd t220 x1_1))) (ds := []) (bl 17 0) (by kernel_rfl) rfl rfl ⟨bq BK219 0, bq BK219 1, bq BK219 2, hx227_0, hx228_0⟩ (fun hHeld => ?_); refine with_tabW impl_Table_way.tab6 impl_Table_way.bits6 (fun HT_ HW_ => ?_)
         generalize wr.drew = w32 at HO_8 HO_9 BK219 HB hx227_0 hx228_0 hHeld ⊢
         refine pureA 0 (some 23) 17 1 HT_ ?_
         refine pureA 1 (some 24) 17 3 HT_ ?_
         refine pureA 2 (some 25) 17 7 HT_ ?_
         refine pureA 4 (some 27) 17 23 HT_ ?_
         refine pureA 5 (some 28) 17 55 HT_ ?_
         refine pureA 6 (some 29) 17 119 HT_ ?_
         refine takeA 3 (some 26) 17 127 HT_ HW_ hHeld ?_ (hy := by rintro w' ⟨s0, s1, s2, s3, s4⟩; go_simp; with_reducible rfl)
         refine takeA 7 (some 30) 17 255 HT_ HW_ hHeld ?_ (hy := by rintro w' ⟨s0, s1, s2, s3, s4⟩; go_simp; with_reducible rfl)
         refine pureA 8 (some 31) 17 511 HT_ ?_
         refine pureA 9 (some 32) 17 1023 HT_ ?_
         refine pureA 10 (some 33) 17 2047 HT_ ?_
         refine pureA 12 (some 35) 17 6143 HT_ ?_
         refine pureA 13 (some 36) 17 14335 HT_ ?_
         refine takeA 11 (some 34) 17 16383 HT_ HW_ hHeld ?_ (hy := by rintro w' ⟨s0, s1, s2, s3, s4⟩; go_simp; with_reducible rfl)
         refine oneA 14 (some 37) 17 32767 HT_ (fun K hK => ?_)
         refine goes_ Try.func144 (by kernel_rfl) rfl #[.agg #[.int .i64 a0_0, .slice A0_1 l0_1.length c0_1, .slice A0_2 l0_2.length c0_2], .int .i64 x1_1, .int .i64 x10_2] (by rfl) rfl rfl (by (try simp only [List.map_toArray, List.map_cons, List.map_nil]); first | done | rfl | (simp only [List.length_drop, List.length_take]; rfl)) ?_
         with_reducible refine (impl_Table_pair.calls k2 a0_0 _ _ l0_1 _ _ l0_2 x1_1 x10_2 t229 _ ?side1 ?side2 ?side3 ?side4 A26.out).mono ?_
         (case side1 => exact cd (Kd.C_below HR0_1.out HB.out))
         (case side2 => exact HC0_1.out)
         (case side3 => exact cd (Kd.C_below HR0_2.out HB.out))
         (case side4 => exact HC0_2.out)
         rintro e w33 ⟨rfl, hb⟩
         have HS3_ := (hb.cell (World.block_lt_of_cell? _ _ (hHeld.2.2.2.1))).trans (hHeld.2.2.2.1)
         have HS4_ := (hb.cell (World.block_lt_of_cell? _ _ (hHeld.2.2.2.2))).trans (hHeld.2.2.2.2)
         refine ⟨_, rfl, ?_⟩
         replace HO_8 := ak (Kd.R_below (rdl HO_8) hb)
         replace HO_9 := ak (Kd.R_below (rdl HO_9) hb)
         replace BK219 := ak (blk_below (blkd BK219) hb)
         replace HB := ak (below_step (belowg1 HB GE219) hb)
         (try clear hb); (try clear hb2); (try clear hk); (try clear hi)
         refine hK.out _ _ ⟨bq BK219 0, bq BK219 1, bq BK219 2, HS3_, HS4_⟩ (fun hHeld => ?_)
         clear hK K
         refine norm_ (a' := ?_) ?_ ?_
         rotate_left
         ·show Act.put _ (some 37) _ = _
          simp only [Act.put, List.setIfInBounds_toArray, List.set_cons_zero, List.set_cons_succ, i64_w, i32_w]
          rfl
         refine pureA 15 (some 38) 17 65535 HT_ ?_
         refine pureA 16 (some 39) 17 131071 HT_ ?_
         refine done_ (done_of HT_.out (by kernel_rfl)) ?_
         obtain ⟨hcz34_0, hcz34_1, hcz34_2, hfz34_0, hfz34_1, hfz34_2⟩ := box3 BK219
         try go_wp2_with (first | ((with_reducible refine gate_callee (f := 144) rfl ?_); refine goesLa (some 46) rfl Try.func144 #[.agg #[.int .i64 a0_0, .slice A0_1 l0_1.length c0_1, .slice A0_2 l0_2.length c0_2], .int .i64 x1_1, .int .i64 x10_2] rfl ?_; (with_reducible refine (impl_Table_pair.calls k2 a0_0 _ _ l0_1 _ _ l0_2 x1_1 x10_2 t230 _ ?side1 ?side2 ?side3 ?side4 A30.out).mono ?_); (case side1 => exact cd (Kd.C_below HR0_1.out HB.out)); (case side2 => exact HC0_1.out); (case side3 => exact cd (Kd.C_below HR0_2.out HB.out)); (case side4 => exact HC0_2.out); rintro e w35 ⟨rfl, hb⟩; refine ⟨_, rfl, ?_⟩; replace HO_8 := ak (Kd.R_below (rdl HO_8) hb); replace HO_9 := ak (Kd.R_below (rdl HO_9) hb); replace BK219 := ak (blk_below (blkd BK219) hb); replace HB := ak (below_step (belowg1 HB GE219) hb); (try clear hb)) | ((with_reducible refine gate_builtin (b := .append) (xs := #[.tmp 42, .tmp 47]) rfl ?_); at_builtin; refine Kd.R_append (Kd.int .i64) (w0 := w) w.heap.size rfl (.tmp 42) (.tmp 47) 22 3 (.int .i64 0) 8 rfl Try.underlying22 info3 rfl (by decide) (by omega) u9 x9_1 t230 [.int .i64 t230] (fun k_ => some k_ ≠ (.slice (some ad226) t220.length co19 : Value).ownBlock) (fun _ => False) rfl rfl ?aP (fun _ hk => hk.elim) ?aF ?aO ?aB ?aS ?aL ?_; (case aP => exact rfl); (case aB => exact (belowg1 HB GE219)); (case aF => exact (fun k_ hk => Kd.fresh' (Kd.R_lt (rdl HO_8)) k_ hk)); (case aO => exact (rdl HO_9)); (case aS => exact (below_size (belowg1 HB GE219))); (case aL => have := LMc31.out; omega); intro v232 w36 ho hb hg hat; rw [← Ny231.out] at ho; replace HO_8 := ak (Kd.R_after (ok := (fun _ => True)) (by (with_reducible repeat (first | apply Kd.R_alloc | apply Kd.R_drewN | apply Kd.R_drew)); exact Kd.R_mono HO_8.out (fun _ hk => ⟨trivial, hk⟩)) hg hat); replace BK219 := ak (blk_grown (blkd BK219) hg (Kd.R_ne HO_9.out BK219.out (by decide))); replace HB := ak (hb); have HO233 := ak (ho); clear HO_9; clear ho hb hg hat))
         go_roundg k2
         case measure => have := HK1.out; have := HK2.out; omega
         case rel => exact ⟨(x10_2), (y231), er, H', ⟨by have := HK1.out; have := HK2.out; omega⟩, ⟨by (with_reducible repeat (first | apply Kd.R_alloc | apply Kd.R_drewN | apply Kd.R_drew)); exact Kd.R_mono HO_8.out (fun _ hk => hk.2)⟩, ⟨rdl HO233⟩, ⟨blkd BK219⟩, ⟨belowg1 HB GE219⟩⟩
       ·rw [if_neg c25] at H
        have c25b0 : ((rd t220 x10_2) == (wrap64 ((rd t220 x1_1) - 1))) = false := beq_eq_false_iff_ne.mpr c25
        have c25b1 : ((rd t220 x10_2) != (wrap64 ((rd t220 x1_1) - 1))) = true := bne_iff_ne.mpr c25
        have H' := Aside0.mk H
        clear H
        try go_wp2
        replace HO_8 := ak (Kd.R_drew HO_8.out)
        replace HO_9 := ak (Kd.R_drew HO_9.out)
        replace BK219 := ak (blk_drew BK219.out)
        replace HB := ak (below_drew1 HB.out)
        have p227 : 0 ≤ (x10_2 : Int) := da
        have q227 : x10_2 < (t220.length : Int) := da
        obtain ⟨ad227, e227, hx227_0⟩ := Kd.at_int (Kd.R_reads' HO_8.out).2.2 x10_2 p227 q227
        obtain rfl : ad226 = ad227 := (by injection e227)
        replace p227 := eq_true p227; replace q227 := eq_true q227
        have p228 : 0 ≤ (x1_1 : Int) := da
        have q228 : x1_1 < (t220.length : Int) := da
        obtain ⟨ad228, e228, hx228_0⟩ := Kd.at_int (Kd.R_reads' HO_8.out).2.2 x1_1 p228 q228
        obtain rfl : ad226 = ad228 := (by injection e228)
        replace p228 := eq_true p228; replace q228 := eq_true q228
        refine start_ (n := 17) (S := fun w' => w'.cell? (ad226.add (x10_2).toNat) = some (.int .i64 (rd t220 x10_2)) ∧ w'.cell? (ad226.add (x1_1).toNat) = some (.int .i64 (rd t220 x1_1))) (ds := []) (bl 17 0) (by kernel_rfl) rfl rfl ⟨hx227_0, hx228_0⟩ (fun hHeld => ?_); refine with_tabW impl_Table_way.tab6 impl_Table_way.bits6 (fun HT_ HW_ => ?_)
        generalize wr.drew = w37 at HO_8 HO_9 BK219 HB hx227_0 hx228_0 hHeld ⊢
        refine pureA 0 (some 23) 17 1 HT_ ?_
        refine pureA 1 (some 24) 17 3 HT_ ?_
        refine pureA 2 (some 25) 17 7 HT_ ?_
        refine pureA 4 (some 27) 17 23 HT_ ?_
        refine pureA 5 (some 28) 17 55 HT_ ?_
        refine pureA 6 (some 29) 17 119 HT_ ?_
        refine takeA 3 (some 26) 17 127 HT_ HW_ hHeld ?_ (hy := by rintro w' ⟨s0, s1⟩; go_simp; with_reducible rfl)
        refine takeA 7 (some 30) 17 255 HT_ HW_ hHeld ?_ (hy := by rintro w' ⟨s0, s1⟩; go_simp; with_reducible rfl)
        refine pureA 8 (some 31) 17 511 HT_ ?_
        refine pureA 9 (some 32) 17 1023 HT_ ?_
        refine pureA 10 (some 33) 17 2047 HT_ ?_
        refine pureB 11 (some 34) 17 4095 HT_ ?_
        refine pureB 12 (some 35) 17 8191 HT_ ?_
        refine pureB 13 (some 36) 17 16383 HT_ ?_
        refine pureB 14 (some 37) 17 32767 HT_ ?_
        refine pureB 15 (some 38) 17 65535 HT_ ?_
        refine pureA 16 (some 39) 17 131071 HT_ ?_
        refine done_ (done_of HT_.out (by kernel_rfl)) ?_
        try go_wp2
        go_roundg k2
        case measure => have := HK1.out; have := HK2.out; omega
        case rel => exact ⟨(wrap64 (x10_2 + 1)), er, H', ⟨by have := HK1.out; have := HK2.out; omega⟩, ⟨rdl HO_8⟩, ⟨rdl HO_9⟩, ⟨blkd BK219⟩, ⟨belowg1 HB GE219⟩⟩

/-! ### impl_WayBetween: function 43 -/
def impl_WayBetween.f (k : Nat) (a0_0 : Int) (l0_1 : List (List Int)) (l0_2 : List Int) (a1 : Int) (a2 : Int) : Option (List Int × Bool) := (impl_GoodTable.f k a0_0 l0_1 l0_2).bind fun t235 => (if t235 = true then ((impl_Table_isSeat.f a0_0 l0_1 l0_2 a1).bind fun t236 => (if t236 = true then ((impl_Table_isSeat.f a0_0 l0_1 l0_2 a2).bind fun t237 => (if t237 = true then ((impl_Table_way.f k a0_0 l0_1 l0_2 a1 a2).bind fun bt238 => (some (bt238.1, bt238.2))) else (some (([] : List Int), false)))) else (some (([] : List Int), false)))) else (some (([] : List Int), false)))
theorem impl_WayBetween.mono : ∀ a0 a1 a2 a3 a4 k, LeO (impl_WayBetween.f k a0 a1 a2 a3 a4) (impl_WayBetween.f (k + 1) a0 a1 a2 a3 a4) := by
 intro a0 a1 a2 a3 a4 k
 unfold impl_WayBetween.f
 repeat' (first | (with_reducible first | exact impl_GoodTable.mono _ _ _ _ | exact impl_Table_way.mono _ _ _ _ _ _ | exact LeO.refl _ | exact LeO.none _ | refine LeO.ite ?_ ?_ | refine LeO.bind ?_ (fun _ => ?_)) | exact impl_GoodTable.mono _ _ _ _ | exact impl_Table_way.mono _ _ _ _ _ _ | exact LeO.none _ | refine LeO.ite ?_ ?_ | refine LeO.bind ?_ (fun _ => ?_))
set_option maxHeartbeats 8000000 in
set_option maxRecDepth 100000 in
theorem impl_WayBetween.calls (k : Nat) (a0_0 : Int) (A0_1 : Option Addr) (c0_1 : Nat) (l0_1 : List (List Int)) (A0_2 : Option Addr) (c0_2 : Nat) (l0_2 : List Int) (a1 : Int) (a2 : Int) (r1 : List Int) (r2 : Bool) (w : World) (hr0_1 : Kd.C (Kd.slice 3 (Kd.int .i64)) w A0_1 l0_1.length l0_1) (hc0_1 : l0_1.length ≤ c0_1) (hr0_2 : Kd.C (Kd.int .i64) w A0_2 l0_2.length l0_2) (hc0_2 : l0_2.length ≤ c0_2) (h : impl_WayBetween.f k a0_0 l0_1 l0_2 a1 a2 = some (r1, r2)) :
  Calls Try.prog 43 #[.agg #[.int .i64 a0_0, .slice A0_1 l0_1.length c0_1, .slice A0_2 l0_2.length c0_2], .int .i64 a1, .int .i64 a2] w fun e w' => ∃ v0_ : Value, e = .returned (.tuple #[v0_, .bool r2]) ∧ Kd.R (Kd.int .i64) 3 w' w.heap.size (fun _ => True) v0_ r1 ∧ Below w.heap.size w w' := by
 have hu38 := Try.underlying38
 have HR0_1 := Aside0.mk hr0_1; have HC0_1 := Aside0.mk hc0_1; clear hr0_1 hc0_1; have HR0_2 := Aside0.mk hr0_2; have HC0_2 := Aside0.mk hc0_2; clear hr0_2 hc0_2
 have HB := Aside0.mk (Below.refl w.heap.size w)
 have H : ((impl_GoodTable.f k a0_0 l0_1 l0_2).bind fun t235 => (if t235 = true then ((impl_Table_isSeat.f a0_0 l0_1 l0_2 a1).bind fun t236 => (if t236 = true then ((impl_Table_isSeat.f a0_0 l0_1 l0_2 a2).bind fun t237 => (if t237 = true then ((impl_Table_way.f k a0_0 l0_1 l0_2 a1 a2).bind fun bt238 => (some (bt238.1, bt238.2))) else (some (([] : List Int), false)))) else (some (([] : List Int), false)))) else (some (([] : List Int), false)))) = some (r1, r2) := h
 clear h; replace H := bS H; obtain ⟨t235, A4, H⟩ := H
 replace H : (if t235 = true then ((impl_Table_isSeat.f a0_0 l0_1 l0_2 a1).bind fun t236 => (if t236 = true then ((impl_Table_isSeat.f a0_0 l0_1 l0_2 a2).bind fun t237 => (if t237 = true then ((impl_Table_way.f k a0_0 l0_1 l0_2 a1 a2).bind fun bt238 => (some (bt238.1, bt238.2))) else (some (([] : List Int), false)))) else (some (([] : List Int), false)))) else (some (([] : List Int), false))) = some (r1, r2) := H
 by_cases c5 : t235 = true
 ·subst c5
  have H1 : ((impl_Table_isSeat.f a0_0 l0_1 l0_2 a1).bind fun t236 => (if t236 = true then ((impl_Table_isSeat.f a0_0 l0_1 l0_2 a2).bind fun t237 => (if t237 = true then ((impl_Table_way.f k a0_0 l0_1 l0_2 a1 a2).bind fun bt238 => (some (bt238.1, bt238.2))) else (some (([] : List Int), false)))) else (some (([] : List Int), false)))) = some (r1, r2) := by rw [if_pos rfl] at H; exact H
  clear H
  have H := H1
  clear H1; replace H := bS H; obtain ⟨t236, A6, H⟩ := H
  replace H : (if t236 = true then ((impl_Table_isSeat.f a0_0 l0_1 l0_2 a2).bind fun t237 => (if t237 = true then ((impl_Table_way.f k a0_0 l0_1 l0_2 a1 a2).bind fun bt238 => (some (bt238.1, bt238.2))) else (some (([] : List Int), false)))) else (some (([] : List Int), false))) = some (r1, r2) := H
  by_cases c7 : t236 = true
  ·subst c7
   have H1 : ((impl_Table_isSeat.f a0_0 l0_1 l0_2 a2).bind fun t237 => (if t237 = true then ((impl_Table_way.f k a0_0 l0_1 l0_2 a1 a2).bind fun bt238 => (some (bt238.1, bt238.2))) else (some (([] : List Int), false)))) = some (r1, r2) := by rw [if_pos rfl] at H; exact H
   clear H
   have H := H1
   clear H1; replace H := bS H; obtain ⟨t237, A8, H⟩ := H
   replace H : (if t237 = true then ((impl_Table_way.f k a0_0 l0_1 l0_2 a1 a2).bind fun bt238 => (some (bt238.1, bt238.2))) else (some (([] : List Int), false))) = some (r1, r2) := H
   by_cases c9 : t237 = true
   ·subst c9
    have H1 : ((impl_Table_way.f k a0_0 l0_1 l0_2 a1 a2).bind fun bt238 => (some (bt238.1, bt238.2))) = some (r1, r2) := by rw [if_pos rfl] at H; exact H
    clear H
    have H := H1
    clear H1; replace H := bS H; obtain ⟨⟨t238, t241⟩, A10, H⟩ := H
    replace H : (some (t238, t241)) = some (r1, r2) := H
    simp only [Option.some.injEq, Prod.mk.injEq] at H
    obtain ⟨rfl, rfl⟩ := H
    go_enter Try.func43, Try.ntmps43
    go_wp2_with (first | ((with_reducible refine gate_dst (N := 3) rfl ?_); refine boxev 3 #[.int .i64 a0_0, .slice A0_1 l0_1.length c0_1, .slice A0_2 l0_2.length c0_2] 38 ?_; intro gb234 hg w11 hbox hb; have BK234 := ak (hbox); have GW234 := ak (hgl hg (belowd HB)); have GE234 := ak (hgl hg (belowd HB)); replace HB := ak (below_step (belowd HB) hb); clear hb hbox hg; obtain ⟨hcz12_0, hcz12_1, hcz12_2, hfz12_0, hfz12_1, hfz12_2⟩ := box3 BK234) | ((with_reducible refine gate_callee (f := 59) rfl ?_); refine goesLa (some 9) rfl Try.func59 #[.agg #[.int .i64 a0_0, .slice A0_1 l0_1.length c0_1, .slice A0_2 l0_2.length c0_2]] rfl ?_; (with_reducible refine (impl_GoodTable.calls k a0_0 _ _ l0_1 _ _ l0_2 true _ ?side1 ?side2 ?side3 ?side4 A4.out).mono ?_); (case side1 => exact cd (Kd.C_below HR0_1.out HB.out)); (case side2 => exact HC0_1.out); (case side3 => exact cd (Kd.C_below HR0_2.out HB.out)); (case side4 => exact HC0_2.out); rintro e w13 ⟨rfl, hb⟩; refine ⟨_, rfl, ?_⟩; replace BK234 := ak (blk_below (blkd BK234) hb); replace HB := ak (below_step (belowg1 HB GE234) hb); (try clear hb); obtain ⟨hcz14_0, hcz14_1, hcz14_2, hfz14_0, hfz14_1, hfz14_2⟩ := box3 BK234) | (go_at_call 110; (with_reducible refine (impl_Table_isSeat.calls a0_0 _ _ l0_1 _ _ l0_2 a1 true _ ?side1 ?side2 ?side3 ?side4 A6.out).mono ?_); (case side1 => exact cd (Kd.C_below HR0_1.out HB.out)); (case side2 => exact HC0_1.out); (case side3 => exact cd (Kd.C_below HR0_2.out HB.out)); (case side4 => exact HC0_2.out); rintro e w15 ⟨rfl, hb⟩; replace BK234 := ak (blk_below (blkd BK234) hb); replace HB := ak (below_step (belowg1 HB GE234) hb); (try clear hb); obtain ⟨hcz16_0, hcz16_1, hcz16_2, hfz16_0, hfz16_1, hfz16_2⟩ := box3 BK234) | (go_at_call 110; (with_reducible refine (impl_Table_isSeat.calls a0_0 _ _ l0_1 _ _ l0_2 a2 true _ ?side1 ?side2 ?side3 ?side4 A8.out).mono ?_); (case side1 => exact cd (Kd.C_below HR0_1.out HB.out)); (case side2 => exact HC0_1.out); (case side3 => exact cd (Kd.C_below HR0_2.out HB.out)); (case side4 => exact HC0_2.out); rintro e w17 ⟨rfl, hb⟩; replace BK234 := ak (blk_below (blkd BK234) hb); replace HB := ak (below_step (belowg1 HB GE234) hb); (try clear hb); obtain ⟨hcz18_0, hcz18_1, hcz18_2, hfz18_0, hfz18_1, hfz18_2⟩ := box3 BK234) | ((with_reducible refine gate_callee (f := 111) rfl ?_); refine goesLa (some 26) rfl Try.func111 #[.agg #[.int .i64 a0_0, .slice A0_1 l0_1.length c0_1, .slice A0_2 l0_2.length c0_2], .int .i64 a1, .int .i64 a2] rfl ?_; (with_reducible refine (impl_Table_way.calls k a0_0 _ _ l0_1 _ _ l0_2 a1 a2 t238 t241 _ ?side1 ?side2 ?side3 ?side4 A10.out).mono ?_); (case side1 => exact cd (Kd.C_below HR0_1.out HB.out)); (case side2 => exact HC0_1.out); (case side3 => exact cd (Kd.C_below HR0_2.out HB.out)); (case side4 => exact HC0_2.out); rintro e w19 ⟨v239, rfl, ho0, hb⟩; refine ⟨_, rfl, ?_⟩; have HO240 := ak (Kd.R_lower ho0 (below_size (belowg1 HB GE234))); replace BK234 := ak (blk_below (blkd BK234) hb); replace HB := ak (below_step (belowg1 HB GE234) hb); (try clear hb); (try clear ho0)))
    go_ret2
    exact ⟨_, er2, by (with_reducible repeat (first | apply Kd.R_alloc | apply Kd.R_drewN | apply Kd.R_drew)); exact HO240.out, belowg1 HB GE234⟩
   ·replace c9 := Bool.eq_false_iff.mpr c9
    subst c9
    have H1 : (some (([] : List Int), false)) = some (r1, r2) := by rw [if_neg (show ¬ (false = true) by decide)] at H; exact H
    clear H
    have H := H1
    clear H1
    simp only [Option.some.injEq, Prod.mk.injEq] at H
    obtain ⟨rfl, rfl⟩ := H
    go_enter Try.func43, Try.ntmps43
    go_wp2_with (first | ((with_reducible refine gate_dst (N := 3) rfl ?_); refine boxev 3 #[.int .i64 a0_0, .slice A0_1 l0_1.length c0_1, .slice A0_2 l0_2.length c0_2] 38 ?_; intro gb234 hg w20 hbox hb; have BK234 := ak (hbox); have GW234 := ak (hgl hg (belowd HB)); have GE234 := ak (hgl hg (belowd HB)); replace HB := ak (below_step (belowd HB) hb); clear hb hbox hg; obtain ⟨hcz21_0, hcz21_1, hcz21_2, hfz21_0, hfz21_1, hfz21_2⟩ := box3 BK234) | ((with_reducible refine gate_callee (f := 59) rfl ?_); refine goesLa (some 9) rfl Try.func59 #[.agg #[.int .i64 a0_0, .slice A0_1 l0_1.length c0_1, .slice A0_2 l0_2.length c0_2]] rfl ?_; (with_reducible refine (impl_GoodTable.calls k a0_0 _ _ l0_1 _ _ l0_2 true _ ?side1 ?side2 ?side3 ?side4 A4.out).mono ?_); (case side1 => exact cd (Kd.C_below HR0_1.out HB.out)); (case side2 => exact HC0_1.out); (case side3 => exact cd (Kd.C_below HR0_2.out HB.out)); (case side4 => exact HC0_2.out); rintro e w22 ⟨rfl, hb⟩; refine ⟨_, rfl, ?_⟩; replace BK234 := ak (blk_below (blkd BK234) hb); replace HB := ak (below_step (belowg1 HB GE234) hb); (try clear hb); obtain ⟨hcz23_0, hcz23_1, hcz23_2, hfz23_0, hfz23_1, hfz23_2⟩ := box3 BK234) | (go_at_call 110; (with_reducible refine (impl_Table_isSeat.calls a0_0 _ _ l0_1 _ _ l0_2 a1 true _ ?side1 ?side2 ?side3 ?side4 A6.out).mono ?_); (case side1 => exact cd (Kd.C_below HR0_1.out HB.out)); (case side2 => exact HC0_1.out); (case side3 => exact cd (Kd.C_below HR0_2.out HB.out)); (case side4 => exact HC0_2.out); rintro e w24 ⟨rfl, hb⟩; replace BK234 := ak (blk_below (blkd BK234) hb); replace HB := ak (below_step (belowg1 HB GE234) hb); (try clear hb); obtain ⟨hcz25_0, hcz25_1, hcz25_2, hfz25_0, hfz25_1, hfz25_2⟩ := box3 BK234) | (go_at_call 110; (with_reducible refine (impl_Table_isSeat.calls a0_0 _ _ l0_1 _ _ l0_2 a2 false _ ?side1 ?side2 ?side3 ?side4 A8.out).mono ?_); (case side1 => exact cd (Kd.C_below HR0_1.out HB.out)); (case side2 => exact HC0_1.out); (case side3 => exact cd (Kd.C_below HR0_2.out HB.out)); (case side4 => exact HC0_2.out); rintro e w26 ⟨rfl, hb⟩; replace BK234 := ak (blk_below (blkd BK234) hb); replace HB := ak (below_step (belowg1 HB GE234) hb); (try clear hb)))
    go_ret2
    exact ⟨_, er2, by first | exact Kd.R_nil _ _ _ _ _ | exact Kd.N_nil _ _ _ _ _ | exact Kd.V_nil _ _ _ _ _ | exact Kd.Q_nil _ _ _ _ _ | exact Kd.S_nil _ _ _ _ _, belowg1 HB GE234⟩
  ·replace c7 := Bool.eq_false_iff.mpr c7
   subst c7
   have H1 : (some (([] : List Int), false)) = some (r1, r2) := by rw [if_neg (show ¬ (false = true) by decide)] at H; exact H
   clear H
   have H := H1
   clear H1
   simp only [Option.some.injEq, Prod.mk.injEq] at H
   obtain ⟨rfl, rfl⟩ := H
   go_enter Try.func43, Try.ntmps43
   go_wp2_with (first | ((with_reducible refine gate_dst (N := 3) rfl ?_); refine boxev 3 #[.int .i64 a0_0, .slice A0_1 l0_1.length c0_1, .slice A0_2 l0_2.length c0_2] 38 ?_; intro gb234 hg w27 hbox hb; have BK234 := ak (hbox); have GW234 := ak (hgl hg (belowd HB)); have GE234 := ak (hgl hg (belowd HB)); replace HB := ak (below_step (belowd HB) hb); clear hb hbox hg; obtain ⟨hcz28_0, hcz28_1, hcz28_2, hfz28_0, hfz28_1, hfz28_2⟩ := box3 BK234) | ((with_reducible refine gate_callee (f := 59) rfl ?_); refine goesLa (some 9) rfl Try.func59 #[.agg #[.int .i64 a0_0, .slice A0_1 l0_1.length c0_1, .slice A0_2 l0_2.length c0_2]] rfl ?_; (with_reducible refine (impl_GoodTable.calls k a0_0 _ _ l0_1 _ _ l0_2 true _ ?side1 ?side2 ?side3 ?side4 A4.out).mono ?_); (case side1 => exact cd (Kd.C_below HR0_1.out HB.out)); (case side2 => exact HC0_1.out); (case side3 => exact cd (Kd.C_below HR0_2.out HB.out)); (case side4 => exact HC0_2.out); rintro e w29 ⟨rfl, hb⟩; refine ⟨_, rfl, ?_⟩; replace BK234 := ak (blk_below (blkd BK234) hb); replace HB := ak (below_step (belowg1 HB GE234) hb); (try clear hb); obtain ⟨hcz30_0, hcz30_1, hcz30_2, hfz30_0, hfz30_1, hfz30_2⟩ := box3 BK234) | (go_at_call 110; (with_reducible refine (impl_Table_isSeat.calls a0_0 _ _ l0_1 _ _ l0_2 a1 false _ ?side1 ?side2 ?side3 ?side4 A6.out).mono ?_); (case side1 => exact cd (Kd.C_below HR0_1.out HB.out)); (case side2 => exact HC0_1.out); (case side3 => exact cd (Kd.C_below HR0_2.out HB.out)); (case side4 => exact HC0_2.out); rintro e w31 ⟨rfl, hb⟩; replace BK234 := ak (blk_below (blkd BK234) hb); replace HB := ak (below_step (belowg1 HB GE234) hb); (try clear hb)))
   go_ret2
   exact ⟨_, er2, by first | exact Kd.R_nil _ _ _ _ _ | exact Kd.N_nil _ _ _ _ _ | exact Kd.V_nil _ _ _ _ _ | exact Kd.Q_nil _ _ _ _ _ | exact Kd.S_nil _ _ _ _ _, belowg1 HB GE234⟩
 ·replace c5 := Bool.eq_false_iff.mpr c5
  subst c5
  have H1 : (some (([] : List Int), false)) = some (r1, r2) := by rw [if_neg (show ¬ (false = true) by decide)] at H; exact H
  clear H
  have H := H1
  clear H1
  simp only [Option.some.injEq, Prod.mk.injEq] at H
  obtain ⟨rfl, rfl⟩ := H
  go_enter Try.func43, Try.ntmps43
  go_wp2_with (first | ((with_reducible refine gate_dst (N := 3) rfl ?_); refine boxev 3 #[.int .i64 a0_0, .slice A0_1 l0_1.length c0_1, .slice A0_2 l0_2.length c0_2] 38 ?_; intro gb234 hg w32 hbox hb; have BK234 := ak (hbox); have GW234 := ak (hgl hg (belowd HB)); have GE234 := ak (hgl hg (belowd HB)); replace HB := ak (below_step (belowd HB) hb); clear hb hbox hg; obtain ⟨hcz33_0, hcz33_1, hcz33_2, hfz33_0, hfz33_1, hfz33_2⟩ := box3 BK234) | ((with_reducible refine gate_callee (f := 59) rfl ?_); refine goesLa (some 9) rfl Try.func59 #[.agg #[.int .i64 a0_0, .slice A0_1 l0_1.length c0_1, .slice A0_2 l0_2.length c0_2]] rfl ?_; (with_reducible refine (impl_GoodTable.calls k a0_0 _ _ l0_1 _ _ l0_2 false _ ?side1 ?side2 ?side3 ?side4 A4.out).mono ?_); (case side1 => exact cd (Kd.C_below HR0_1.out HB.out)); (case side2 => exact HC0_1.out); (case side3 => exact cd (Kd.C_below HR0_2.out HB.out)); (case side4 => exact HC0_2.out); rintro e w34 ⟨rfl, hb⟩; refine ⟨_, rfl, ?_⟩; replace BK234 := ak (blk_below (blkd BK234) hb); replace HB := ak (below_step (belowg1 HB GE234) hb); (try clear hb)))
  go_ret2
  exact ⟨_, er2, by first | exact Kd.R_nil _ _ _ _ _ | exact Kd.N_nil _ _ _ _ _ | exact Kd.V_nil _ _ _ _ _ | exact Kd.Q_nil _ _ _ _ _ | exact Kd.S_nil _ _ _ _ _, belowg1 HB GE234⟩

end Go.Proofs.Ytpibdgknmjjolaa.QFnTable
